/- The abstract evaluator of the model and plain laws, part 4: its soundness holds for every program whose table of types is the evaluator's. No further condition. -/
import Derived.Test.YteemeakjlfnapaaGreatDoorLc
import Derived.Below
import Derived.Lib.AtoiAll
import Derived.Lib.ItoaNum
import Derived.Lib.SplitLaws
import Derived.Lib.IndexMore
import Derived.Lib.Fields
import Derived.ChangeSame
import Derived.OpenShut
import Derived.ChangeReads
import Derived.ReadAgain
import Derived.Deep.Slices
import Derived.WideShapes
import Derived.SizedLaws
import Derived.IntWalk

/- Functions that are known by contracts: what they compute, and from a contract to the evaluator's post. No condition. -/
namespace Go.Av
variable [Dr]
open Go.RowKit
section
variable {S : Stab} {β : List Blk} {h : Hp} {w w' : World}
omit [Dr] in
theorem HeapX.below (hh : HeapX S β w h) {S' : Stab} (hb : ∀ b, b < w.heap.size → w'.heap[b]? = w.heap[b]? ∧ ∀ o, S' b o = S b o) (hle : S.le S') : HeapX S' β w' h := by
  obtain ⟨hlen, ω, hr⟩ := hh
  exact ⟨hlen, ω, hr.rows hle (Ext.refl β) hlen fun l cs hl _ => .inl ⟨hl, fun b hlt ho => ⟨ho, (hb b hlt).1, fun o h => by rw [(hb b hlt).2]; exact h⟩⟩⟩
theorem left_below (hw : Wf S w) (hh : HeapX S β w h) (hb : Below w.heap.size w w') (hd : Dr.on → w.drawn ≤ w'.drawn) {S' : Stab} (hS : ∀ b, b < w.heap.size → ∀ o, S' b o = S b o) (hnew : ∀ b o v, w.heap.size ≤ b → S' b o = some v → w'.cell? ⟨b, o, none⟩ = some v) :
    Left (HOwn β h) S β w S' β w' h := by
  have hle : S.le S' := fun b o v hv => by rw [hS b (hw.lt hv)]; exact hv
  refine ⟨hle, Ext.refl β, fun b o v hv => ?_, ⟨hb.size, hb.os, hb.output, hb.tape, hd⟩, fun b hlt _ => ⟨hb.block b hlt, hS b hlt⟩, hh.below (fun b hlt => ⟨hb.block b hlt, hS b hlt⟩) hle, fun b hb => .inl hb⟩
  rcases Nat.lt_or_ge b w.heap.size with hlt | hge
  · rw [hS b hlt] at hv
    rw [cell_of_heap (hb.block b hlt)]
    exact hw b o v hv
  · exact hnew b o v hge hv
theorem cpost_below (hw : Wf S w) (hh : HeapX S β w h) (hb : Below w.heap.size w w') (hd : Dr.on → w.drawn ≤ w'.drawn) {r : AV} {v : Value} (hv : VR S β r v) : CPost none S β h w (.ok r h) (.returned v) w' :=
  ⟨S, β, v, rfl, hv, left_below hw hh hb hd (fun _ _ _ => rfl) (fun b o v hge hv => by have := hw.lt hv; omega), fun sz hsz => by cases hsz⟩
theorem cpost_row (hw : Wf S w) (hh : HeapX S β w h) (hb : Below w.heap.size w w') (hd : Dr.on → w.drawn ≤ w'.drawn) {n : Nat} {x : Array Value} (hr : Row w' n x) (hn : w.heap.size ≤ n) {r : AV} {v : Value} (hv : VR (S.withRowTo n x.size x) β r v) : CPost none S β h w (.ok r h) (.returned v) w' :=
  ⟨_, β, v, rfl, hv, left_below hw hh hb hd (fun b hlt o => by unfold Stab.withRowTo; rw [if_neg (by omega)]) (fun b o v hge hv => by
    by_cases hbn : b = n
    · subst hbn
      unfold Stab.withRowTo at hv
      rw [if_pos rfl] at hv
      split at hv
      · rw [hr.cell]; exact hv
      · cases hv
    · unfold Stab.withRowTo at hv
      rw [if_neg hbn] at hv
      have := hw.lt hv; omega), fun sz hsz => by cases hsz⟩
omit [Dr] in
theorem strs_row (S : Stab) (β : List Blk) (n : Nat) (l : List ByteArray) (ls : List (List UInt8)) (hl : l.map (·.data.toList) = ls) : VR (S.withRowTo n (l.map Value.string).toArray.size (l.map Value.string).toArray) β (.sl (ls.map .str)) (.slice (some ⟨n, 0, none⟩) l.length l.length) := by
  subst hl
  simp only [VR, List.length_map]
  refine ⟨some ⟨n, 0, none⟩, l.length, rfl, Nat.le_refl _, (fun h => by cases h), fun q hq => ?_⟩
  simp only [Option.some.injEq] at hq
  subst hq
  refine ⟨fun _ => rfl, 1, .of_get fun i e he => ?_⟩
  simp only [List.map_map, List.getElem?_map, Option.map_eq_some_iff, Function.comp] at he
  obtain ⟨s, hs, rfl⟩ := he
  refine ⟨.string s, by simp only [VR]; exact ⟨s, rfl, rfl⟩, rfl, fun j v hj => ?_⟩
  have hlt : i < l.length := by
    rcases Nat.lt_or_ge i l.length with h | h
    · exact h
    · rw [List.getElem?_eq_none h] at hs; cases hs
  rw [show (Value.string s).cells.toList = [Value.string s] from rfl] at hj
  cases j with
  | succ j => simp at hj
  | zero =>
    simp only [List.getElem?_cons_zero, Option.some.injEq] at hj
    subst hj
    unfold Stab.withRowTo
    simp [hlt]
    rw [List.getElem?_eq_getElem hlt] at hs
    simpa using hs
end
def digs : Nat → Nat → List UInt8
  | 0, _ => []
  | f + 1, u => bif decide (u < 10) then [UInt8.ofNat (48 + u)] else digs f (u / 10) ++ [UInt8.ofNat (48 + u % 10)]
omit [Dr] in
theorem digs_eq : ∀ (f u : Nat), u < 10 ^ (f + 1) → digs (f + 1) u = Lib.decDigits u
  | f, u, h => by
    rw [Lib.decDigits]
    rw [show digs (f + 1) u = bif decide (u < 10) then [UInt8.ofNat (48 + u)] else digs f (u / 10) ++ [UInt8.ofNat (48 + u % 10)] from rfl]
    by_cases h10 : u < 10
    · rw [dif_pos h10, decide_eq_true h10]; rfl
    · rw [dif_neg h10, decide_eq_false h10]
      cases f with
      | zero => omega
      | succ f => rw [digs_eq f (u / 10) (by rw [Nat.pow_succ] at h; omega)]; rfl
def itoaL (n : Int) : List UInt8 := bif decide (n < 0) then 45 :: digs 20 n.natAbs else digs 20 n.toNat
omit [Dr] in
theorem itoaL_eq {n : Int} (h0 : -9223372036854775808 ≤ n) (h1 : n ≤ 9223372036854775807) : itoaL n = Lib.itoa n := by
  unfold itoaL Lib.itoa
  by_cases h : n < 0
  · rw [decide_eq_true h, if_pos h]
    simp only [cond_true]
    rw [digs_eq 19 n.natAbs (by omega)]
  · rw [decide_eq_false h, if_neg h]
    simp only [cond_false]
    rw [digs_eq 19 n.toNat (by omega)]
def failE : (FuncId → List AV → M AV) → List AV → M AV := fun _ _ => M.fail
def itoaE : (FuncId → List AV → M AV) → List AV → M AV := fun _ args => match args with
  | [.int .i64 n] => lft (bif decide (-9223372036854775808 ≤ n) && decide (n ≤ 9223372036854775807) then some (.str (itoaL n)) else none)
  | _ => M.fail
end Go.Av

/- Functions that are known by contracts: strings.Contains, strings.Fields, a strings.Builder's first write and its text, the latest named field. No condition. -/
namespace Go.Av
variable [Dr]
def containsE : (FuncId → List AV → M AV) → List AV → M AV := fun _ args => match args with
  | [.str s, .str t] => lft (bif decide (s.length < 4294967281) then some (.bool (Lib.contains s t)) else none)
  | _ => M.fail
def fieldsE : (FuncId → List AV → M AV) → List AV → M AV := fun _ args => match args with
  | [.str s] => lft (bif decide (s.length < 4294967281) && s.all (fun b => decide (b.toNat < 128)) then some (.sl ((Lib.fields s).map .str)) else none)
  | _ => M.fail
def hpOf : List AV → Option Nat
  | [.hp l off] => bif Nat.beq off 0 then some l else none
  | _ => none
omit [Dr] in
theorem hpOf_inv {args : List AV} {l : Nat} (h : hpOf args = some l) : args = [.hp l 0] := by
  unfold hpOf at h
  split at h
  · rename_i l' off
    cases ho : Nat.beq off 0 with
    | false => rw [ho] at h; cases h
    | true =>
      rw [ho] at h
      cases h
      rw [Nat.eq_of_beq_eq_true ho]
  · cases h
def ccA (ok : List (Nat × Nat)) (l : Nat) : List AV → Option (List AV)
  | .nilb t :: x :: r => bif ok.any (fun p => Nat.beq p.1 t && Nat.ble p.2 (r.length + 2)) then some (.hp l 0 :: x :: r) else none
  | .hp l' k :: r => bif Nat.beq l' l && Nat.beq k 0 then some (.hp l' k :: r) else none
  | _ => none
omit [Dr] in
theorem ccA_inv {ok : List (Nat × Nat)} {l : Nat} {cs cs' : List AV} (h : ccA ok l cs = some cs') : (∃ t x r, cs = .nilb t :: x :: r ∧ cs' = .hp l 0 :: x :: r ∧ ∃ n, (t, n) ∈ ok ∧ n ≤ r.length + 2) ∨ (∃ r, cs = .hp l 0 :: r ∧ cs' = cs) := by
  unfold ccA at h
  split at h
  · rename_i t x r
    cases ho : ok.any (fun p => Nat.beq p.1 t && Nat.ble p.2 (r.length + 2)) with
    | false => rw [ho] at h; cases h
    | true =>
      rw [ho] at h
      cases h
      obtain ⟨p, hp, hq⟩ := List.any_eq_true.1 ho
      rw [Bool.and_eq_true] at hq
      refine .inl ⟨t, x, r, rfl, rfl, p.2, ?_, Nat.le_of_ble_eq_true hq.2⟩
      rw [← Nat.eq_of_beq_eq_true hq.1]
      exact hp
  · rename_i l' k r
    cases ho : (Nat.beq l' l && Nat.beq k 0) with
    | false => rw [ho] at h; cases h
    | true =>
      rw [ho] at h
      cases h
      rw [Bool.and_eq_true] at ho
      have h1 := Nat.eq_of_beq_eq_true ho.1
      have h2 := Nat.eq_of_beq_eq_true ho.2
      subst h1 h2
      exact .inr ⟨r, rfl, rfl⟩
  · cases h
def copyCheckE (ok : List (Nat × Nat)) : (FuncId → List AV → M AV) → List AV → M AV := fun _ args h => match hpOf args with
  | some l => (match h[l]? with
    | some cs => (match ccA ok l cs with
      | some cs' => .ok (.tup []) (h.set l cs')
      | none => .fail)
    | none => .fail)
  | none => .fail
def byteA (e : Nat) : AV → Option UInt8
  | .byt t n => bif Nat.beq t e && decide (0 ≤ n) && decide (n < 256) then some (UInt8.ofNat n.toNat) else none
  | _ => none
def bytesA (e : Nat) : List AV → Option (List UInt8)
  | [] => some []
  | x :: r => match byteA e x, bytesA e r with
    | some b, some l => some (b :: l)
    | _, _ => none
def stA : List AV → Option (Option (Nat × Nat))
  | .hp _ _ :: .hs lb off len sz ag :: _ => bif Nat.beq off 0 && Nat.beq sz 1 && !ag && Nat.blt 0 len && Nat.ble len 140737488355328 then some (some (lb, len)) else none
  | _ :: .hn :: _ => some none
  | _ => none
omit [Dr] in
theorem stA_some {cs : List AV} {lb len : Nat} (h : stA cs = some (some (lb, len))) : ∃ x r, cs = x :: .hs lb 0 len 1 false :: r ∧ 0 < len ∧ len ≤ 140737488355328 := by
  unfold stA at h
  split at h
  · rename_i l k lb' off len' sz ag r
    cases ho : (Nat.beq off 0 && Nat.beq sz 1 && !ag && Nat.blt 0 len' && Nat.ble len' 140737488355328) with
    | false => rw [ho] at h; cases h
    | true =>
      rw [ho] at h
      cases h
      simp only [Bool.and_eq_true, Bool.not_eq_true'] at ho
      obtain ⟨⟨⟨⟨h1, h2⟩, h3⟩, h4⟩, h5⟩ := ho
      have h1 := Nat.eq_of_beq_eq_true h1
      have h2 := Nat.eq_of_beq_eq_true h2
      subst h1 h2 h3
      exact ⟨_, r, rfl, Nat.le_of_ble_eq_true h4, Nat.le_of_ble_eq_true h5⟩
  · cases h
  · cases h
omit [Dr] in
theorem stA_none {cs : List AV} (h : stA cs = some none) : ∃ x r, cs = x :: .hn :: r := by
  unfold stA at h
  split at h
  · rename_i l k lb' off len' sz ag r
    cases ho : (Nat.beq off 0 && Nat.beq sz 1 && !ag && Nat.blt 0 len' && Nat.ble len' 140737488355328) with
    | false => rw [ho] at h; cases h
    | true => rw [ho] at h; cases h
  · exact ⟨_, _, rfl⟩
  · cases h
def builderStringE (e : Nat) : (FuncId → List AV → M AV) → List AV → M AV := fun _ args h => match hpOf args with
  | some l => (match h[l]? with
    | some cs => (match stA cs with
      | some none => .ok (.str []) h
      | some (some (lb, len)) => (match h[lb]? with
        | some bs => (match (bif Nat.ble len bs.length then bytesA e (bs.take len) else none) with
          | some s => .ok (.str s) (h.set lb [])
          | none => .fail)
        | none => .fail)
      | none => .fail)
    | none => .fail)
  | none => .fail
def fldOf : AV → Option (List UInt8 × Int × List AV)
  | .agg [.str n, .int .i64 k, .sl fs] => some (n, k, fs)
  | _ => none
def fldsOf : List AV → Option (List (List UInt8 × Int × List AV))
  | [] => some []
  | x :: r => match fldOf x, fldsOf r with
    | some z, some l => some (z :: l)
    | _, _ => none
def lastF {α : Type} (p : α → Bool) : List α → Option α
  | [] => none
  | z :: r => match lastF p r with
    | some y => some y
    | none => bif p z then some z else none
def lookA2 (l : List (List UInt8 × Int × List AV)) (name : List UInt8) : AV := match lastF (fun z => z.1 == name) l with
  | some z => .tup [.agg [.int .i64 z.2.1, .sl z.2.2], .bool true]
  | none => .tup [.agg [.int .i64 0, .sl []], .bool false]
def lookupE : (FuncId → List AV → M AV) → List AV → M AV := fun _ args => match args with
  | [.sl es, .str name] => (match fldsOf es with
    | some l => lft (bif decide (l.length ≤ 1000000000) then some (lookA2 l name) else none)
    | none => M.fail)
  | _ => M.fail
omit [Dr] in
theorem lastF_reverse {α : Type} (p : α → Bool) (l : List α) : lastF p l = l.reverse.find? p := by
  induction l with
  | nil => rfl
  | cons z r ih =>
    simp only [lastF, ih, List.reverse_cons, List.find?_append]
    cases r.reverse.find? p with
    | some y => rfl
    | none => cases h : p z <;> simp [h]
end Go.Av

/- From a turned row, and from a row that is seen no more, to the post of a call. No condition. -/
namespace Go.Av
variable [Dr]
section
variable {c : Entry} {N : Nat} {U : Nat → Prop} {e : Env} {h : Hp} {a : Act} {w : World} {S : Stab} {β : List Blk} {γ : Nat → Value} {lam : Nat → Option Nat} {ω : Nat → Owner}
theorem FR.dead (H : FR c N U e h a w S β γ lam ω) {l b : Nat} (hd : ∀ cs, h[l]? = some cs → cs = []) (hb : ω b = .heap l) (hS : ∀ o, S b o = none) {w' : World} (hg : Gro w w') (hsz : w'.heap.size = w.heap.size) (hold : ∀ k, k ≠ b → w'.heap[k]? = w.heap[k]?) :
    FR c N U e h a w' S β γ lam ω := by
  have hωb : ∀ k, ω k ≠ .heap l → k ≠ b := fun k hk => by rintro rfl; exact hk hb
  have hother : ∀ k, ω k ≠ .heap l → w'.heap[k]? = w.heap[k]? := fun k hk => hold k (hωb k hk)
  refine ⟨fun k o v hv => ?_, H.gro.trans hg, fun k hk hE => ?_, H.le, H.ext, H.hlen, ?_, H.tsz, H.slots, H.grps, ?_, ?_, fun k hk => ⟨(H.mine k hk).1, by rw [hsz]; exact (H.mine k hk).2⟩, H.used⟩
  · have hkb : k ≠ b := by rintro rfl; rw [hS] at hv; cases hv
    rw [cell_of_heap (hold k hkb)]
    exact H.wf k o v hv
  · have hkb : k ≠ b := by
      rintro rfl
      have := (H.mine k (by rw [hb]; simp)).1.low
      rcases this with h | h
      · exact hE h
      · omega
    have := H.keep k hk hE
    exact ⟨by rw [hold k hkb]; exact this.1, this.2⟩
  · refine H.heap.rows (Stab.le_refl S) (Ext.refl β) H.hlen fun j ds hj hne => .inl ⟨hj, fun k _ ho => ⟨ho, hother k ?_, fun o h => h⟩⟩
    rw [ho]
    simp only [ne_eq, Owner.heap.injEq]
    rintro rfl
    exact hne (hd ds hj)
  · intro B n hB
    obtain ⟨k1, k2, k3, k, z, k4, k5, k6, k7, k8⟩ := H.lblk B n hB
    exact ⟨k1, k2, k3, k, z, k4, k5.of_eq (hother k (by rw [k6]; simp)), k6, k7, k8⟩
  · intro g z hg
    obtain ⟨a', len, cap, g1, g2, g3, g4⟩ := H.free g z hg
    refine ⟨a', len, cap, g1, g2, g3, g4.imp id ?_⟩
    rintro ⟨sz, k, off, z', k1, k2, k3, k4, k5, k6⟩
    exact ⟨sz, k, off, z', k1, k2, k3.of_eq (hother k (by rw [k5]; simp)), k4, k5, k6⟩
end
section
variable {S : Stab} {β : List Blk} {h : Hp} {w : World}
theorem FR.cpost {e : Env} {h' : Hp} {a : Act} {N : Nat} {U : Nat → Prop} {w' : World} {S' : Stab} {β' : List Blk} {γ : Nat → Value} {lam : Nat → Option Nat} {ω : Nat → Owner} {hg : GOK β h w} (F : FR { w, S, β, E := HOwn β h, gok := hg } N U e h' a w' S' β' γ lam ω) {r : AV} {v : Value} (hv : VR S' β' r v) :
    CPost none S β h w (.ok r h') (.returned v) w' := ⟨S', β', v, rfl, hv, F.out, fun sz hsz => by cases hsz⟩
theorem cpost_turn (hg : GOK β h w) (hw : Wf S w) (hh : HeapX S β w h) {l b n : Nat} {cs cs' : List AV} {x y : Array Value} (hl : h[l]? = some cs) (hne : cs ≠ []) (hb : β[l]? = some (b, n)) (hrow : Row w b x) (hys : y.size = x.size)
    (hcs : VRs S β cs' (y.toList.take cs'.length)) (htag : ∀ t, InTag t cs' → InTag t cs) : CPost none S β h w (.ok (.tup []) (h.set l cs')) (.returned (.tuple #[])) (w.setRow b y) := by
  obtain ⟨γ, lam, ω, F⟩ := startF (args := []) (vs := []) (n := 0) hg hw hh (by simp [VRs]) (Nat.le_refl _) (by omega)
  exact (F.turnH hl hne ⟨n, hb⟩ hrow hys hcs htag).cpost (by simp only [VR]; exact ⟨[], rfl, by simp [VRs]⟩)
theorem cpost_dead (hg : GOK β h w) (hw : Wf S w) (hh : HeapX S β w h) {l b n : Nat} {cs : List AV} (hl : h[l]? = some cs) (hne : cs ≠ []) (hb : β[l]? = some (b, n)) {w' : World} (hgr : Gro w w') (hsz : w'.heap.size = w.heap.size) (hold : ∀ k, k ≠ b → w'.heap[k]? = w.heap[k]?)
    {r : AV} {v : Value} (hv : VR S β r v) : CPost none S β h w (.ok r (h.set l [])) (.returned v) w' := by
  obtain ⟨γ, lam, ω, F⟩ := startF (args := []) (vs := []) (n := 0) hg hw hh (by simp [VRs]) (Nat.le_refl _) (by omega)
  obtain ⟨b', n', k1, k2, k3, k4⟩ := F.heap.own hl hne
  rw [hb] at k1
  simp only [Option.some.injEq, Prod.mk.injEq] at k1
  obtain ⟨rfl, rfl⟩ := k1
  refine ((F.killH l).dead (l := l) (fun cs' h' => ?_) k3 k4 hgr hsz hold).cpost hv
  rw [List.getElem?_set] at h'
  simp only [if_true] at h'
  split at h'
  · simpa using h'.symm
  · cases h'
end
end Go.Av

/- A function that copies a slice, told of its argument's three forms. Conditions: what the evaluator gives for each form. -/
namespace Go.Av
variable [Dr]
theorem clone_sound {P : Program} {cx : Cx} (hT : TOK P cx.T) (hC : CallsOK P cx.own cx.call) (hI : IsoCall cx) {f : FuncId} {fn : Func} (hf : P.funcs[f]? = some fn) (hnt : cx.nt = fn.ntmps) {E : List AV → Hp → R AV}
    (h0 : ∀ h, E [] h = .ok (.sl []) h) (h1 : ∀ e es h, evBody cx (fixM 0) fn none [.sl (e :: es)] h = E (e :: es) h) (h2 : ∀ h, evBody cx (fixM 0) fn none [.hn] h = .ok (.sl []) h)
    (h3 : ∀ l off h, evBody cx (fixM 0) fn none [.hs l off 0 1 false] h = .ok (.sl []) h) {es : List AV} {h : Hp} {S : Stab} {β : List Blk} {w : World} {vs : List Value}
    (hr : E es h ≠ .fail) (hg : GOK β h w) (hw : Wf S w) (hh : HeapX S β w h) (hv : VRs S β [.sl es] vs) : Calls P f vs.toArray w (CPost none S β h w (E es h)) ∧ fn.body.isSome = true := by
  cases es with
  | cons e es =>
    rw [← h1] at hr ⊢
    exact body_sound hT hC hI 0 hf hnt hr hg hw hh hv
  | nil =>
    rw [h0]
    simp only [VRs] at hv
    obtain ⟨v, _, rfl, hv, rfl⟩ := hv
    have hv0 := hv
    simp only [VR] at hv
    obtain ⟨a, cap, rfl, hc, hn, hq⟩ := hv
    cases a with
    | none =>
      have hcap := hn rfl
      subst hcap
      have hv2 : VRs S β [.hn] [.slice none ([] : List AV).length 0] := by simp [VRs, VR]
      have := body_sound (own := none) hT hC hI 0 hf hnt (args := [.hn]) (h := h) (by rw [h2]; simp) hg hw hh hv2
      rw [h2] at this
      exact this
    | some q =>
      obtain ⟨hs, _⟩ := hq q rfl
      have hX : HeapX S [(q.block, q.off + cap)] w [[]] := ⟨rfl, fun _ => .no, fun l cs hl hne => by
        cases l with
        | zero => simp at hl; exact absurd hl hne
        | succ l => simp at hl⟩
      have hE : ∀ b, ¬ HOwn [(q.block, q.off + cap)] [[]] b := by
        rintro b ⟨l, cs, n, k1, k2, _⟩
        cases l with
        | zero => simp at k1; exact k2 k1
        | succ l => simp at k1
      have hv2 : VRs S [(q.block, q.off + cap)] [.hs 0 q.off 0 1 false] [.slice (some q) ([] : List AV).length cap] := by
        simp only [VRs, VR]
        rcases Nat.eq_zero_or_pos cap with h0 | h0
        · subst h0
          exact ⟨_, _, rfl, .inr ⟨trivial, q, rfl⟩, rfl⟩
        · have hq' : q = ⟨q.block, q.off, none⟩ := by
            have := hs h0
            cases q; simp_all
          exact ⟨_, _, rfl, .inl ⟨(q.block, q.off + cap), cap, rfl, (by show q.off + cap ≠ 0; omega), by rw [← hq']; rfl, Nat.zero_le _, by simp⟩, rfl⟩
      have := body_sound (own := none) hT hC hI 0 hf hnt (args := [.hs 0 q.off 0 1 false]) (h := [[]]) (by rw [h3]; simp) ⟨hg.1, fun b _ => hE b⟩ hw hX hv2
      rw [h3] at this
      refine ⟨this.1.mono fun en w' hp => ?_, this.2⟩
      obtain ⟨S', β', v, k1, k2, k3, _⟩ := hp
      obtain ⟨S2, j1, j2, _⟩ := iso_key hw hh hE k3
      exact ⟨S2, β, v, k1, j2 (.sl []) v k2, j1, fun sz hsz => by cases hsz⟩
end Go.Av

/- From a call of the evaluator to the form's words. Conditions: the program is good; the package variables hold what they are said to hold. -/
namespace Go.Av
variable [Dr]
open Go.RowKit Go.WideShapes Go.ChangeShapes
theorem Left.below {S S' : Stab} {β β' : List Blk} {w w' : World} {h' : Hp} (L : Left (HOwn [] []) S β w S' β' w' h') : Below w.heap.size w w' :=
  ⟨L.gro.os, L.gro.tape, L.gro.out, L.gro.size, fun k hk => (L.keep k hk (by rintro ⟨l, _, _, h1, _⟩; simp at h1)).1⟩
def allS (W : World) : Stab := fun b o => W.cell? ⟨b, o, none⟩
omit [Dr] in
theorem allS_wf (W : World) : Wf (allS W) W := fun _ _ _ h => h
omit [Dr] in
theorem gok_start {W : World} (h : GOKw W) : GOK [] [] W := ⟨h, fun b _ ho => by obtain ⟨l, _, _, h1, _⟩ := ho; simp at h1⟩
theorem law_calls {P : Program} {p : Pg} (G : GoodPg P p) (hO : OtherLim p) {f : FuncId} {args : List AV} {vs : List Value} {W : World} (hg : GOKw W) (hv : VRs (allS W) [] args vs)
    (ht : callW p f args [] = .ok (.bool true) []) : Calls P f vs.toArray W fun e W' => e = .returned (.bool true) ∧ Below W.heap.size W W' := by
  have h := (callW_sound G hO f args [] (allS W) [] W vs (by rw [ht]; simp) (gok_start hg) (allS_wf W) ⟨rfl, fun _ => .no, fun l cs hl => by simp at hl⟩ hv).1
  rw [ht] at h
  refine h.mono fun e W' hp => ?_
  obtain ⟨S', β', v, rfl, hv, L, _⟩ := hp
  simp only [VR] at hv
  subst hv
  exact ⟨rfl, L.below⟩
section
variable {H : Type} {enc : TypeId × Value → H} {P : Program}
omit [Dr] in
theorem post_of_below {f : Func} {s : ChangeSpec} {apart fresh handsOn again : Bool} {W W' : World} {args : Array Value} {v : Value} {ds gs : List (DataW H)} {before pa pv : List MemPlace}
    (hW : DataW.Whole enc P f.params.toList s.vars apart W args.toList ds gs before)
    (hres : ∀ (b : Nat) (sp : Nat → Bool) (hd : Bool), DataW.TrodAll enc P W' b sp hd f.resultTypes.toList (v.resultList f.resultTypes.size) (s.fn H (ds ++ gs)).results [])
    (hargs : ∀ sp : Nat → Bool, (∀ p ∈ before, sp p.block = true) → DataW.TrodAll enc P W' 0 sp true f.params.toList args.toList (s.fn H (ds ++ gs)).args pa)
    (hvars : ∀ sp : Nat → Bool, (∀ p ∈ before, sp p.block = true) → DataW.TrodVars enc P W' sp s.vars (s.fn H (ds ++ gs)).vars pv)
    (hps : before = pa ++ pv) (hb : Below W.heap.size W W')
    (hok : ∀ (j : Nat) (t : TypeId) (r : Value), f.resultTypes[j]? = some t → (v.resultList f.resultTypes.size)[j]? = some r → Value.okWide P W' .any 0 t r) :
    s.post enc P f apart fresh handsOn again W args v W' := by
  have hlt : ∀ p ∈ before, p.block < W.heap.size := fun p hp => hW.lt p hp
  have hold : ∀ p ∈ before, (fun b => decide (b < W.heap.size)) p.block = true := fun p hp => by simpa using hlt p hp
  refine ⟨ds, gs, before, [], pa, pv, hW, hres _ _ _, hargs _ hold, hvars _ hold, World.keptBut_mono (fun p hp => ⟨hp, ?_⟩) (hb.frame (· ∈ before)), fun _ => ?_⟩
  · rw [hps, List.mem_append] at hp
    exact Or.inr hp
  · obtain ⟨_, _, _, _, _, hz, hn⟩ := hW
    refine ⟨hok, _, _, ([] ++ pa) ++ pv, ⟨[] ++ pa, pv, trodAll_append (hargs _ (fun _ _ => rfl)) (hres _ _ _), hvars _ (fun _ _ => rfl), rfl, ?_, ?_⟩, ?_⟩
    · intro b off hp
      have hin : MemPlace.cell b off ∈ before := by rw [hps]; simpa using hp
      rw [hb.frozen (hlt _ hin)]
      exact hz b off hin
    · intro ha
      have := hn ha
      rw [hps] at this
      simpa using this
    · intro p hp _
      rw [hps]
      simpa using hp
end
end Go.Av

/- Arguments that a call leaves as they were are read again behind it. Conditions: the program's table of types. -/
namespace Go.Av
open Go.RowKit
section
variable {H : Type} {enc : TypeId × Value → H} {P : Program} {w w' : World}
theorem trodAll_carry {base : Nat} {spare : Nat → Bool} {held : Bool} : ∀ {ts : List TypeId} {vs : List Value} {ds : List (DataW H)} {ps : List MemPlace}, DataW.TrodAll enc P w base spare held ts vs ds ps → (∀ p ∈ ps, w.sameAt w' p) → DataW.TrodAll enc P w' base spare held ts vs ds ps
  | [], [], [], _, h, _ => h
  | _ :: _, _ :: _, _ :: _, _, ⟨p, q, ⟨n, h1⟩, h2, e⟩, hs => ⟨p, q, ⟨n, DataW.trod_carry n _ _ _ h1 (fun x hx => hs x (by rw [e]; exact List.mem_append_left _ hx))⟩, trodAll_carry h2 (fun x hx => hs x (by rw [e]; exact List.mem_append_right _ hx)), e⟩
theorem sameAt_below (hb : Below w.heap.size w w') {p : MemPlace} (hp : p.block < w.heap.size) : w.sameAt w' p := by
  cases p with
  | cell b off =>
    have := hb.block b hp
    show w'.cell? ⟨b, off, none⟩ = w.cell? ⟨b, off, none⟩
    simp only [World.cell?, this]
  | map b => exact hb.block b hp
theorem args_again {T : TypeId → Prop} (K : Kids P T) (hz : ∀ t e, T t → P.underlying t = some (.slice e) → 0 < P.cellsOf e) {ts : List TypeId} {vs : List Value} {ds : List (DataW H)} {ps : List MemPlace} (hT : ∀ t ∈ ts, T t)
    (h : DataW.TrodAll enc P w 0 (fun _ => true) true ts vs ds ps) (hlt : ∀ p ∈ ps, p.block < w.heap.size) (hb : Below w.heap.size w w') (sp : Nat → Bool) (hsp : ∀ p ∈ ps, sp p.block = true) : DataW.TrodAll enc P w' 0 sp true ts vs ds ps :=
  (trodAll_carry h fun p hp => sameAt_below hb (hlt p hp)).respare K hz hT hsp
end
theorem list_of {α : Type} (Q : Nat → α → Prop) : ∀ n, (∀ i, i < n → ∃ x, Q i x) → ∃ l : List α, l.length = n ∧ ∀ i x, l[i]? = some x → Q i x
  | 0, _ => ⟨[], rfl, fun i x h => by simp at h⟩
  | n + 1, h => by
    obtain ⟨l, h1, h2⟩ := list_of Q n fun i hi => h i (by omega)
    obtain ⟨y, hy⟩ := h n (by omega)
    refine ⟨l ++ [y], by simp [h1], fun i x hx => ?_⟩
    by_cases hi : i < n
    · rw [List.getElem?_append_left (by omega)] at hx
      exact h2 i x hx
    · rw [List.getElem?_append_right (by omega)] at hx
      have hin : i - l.length = 0 := by
        rcases Nat.eq_zero_or_pos (i - l.length) with h | h
        · exact h
        · rw [List.getElem?_eq_none (by simp; omega)] at hx; cases hx
      rw [hin] at hx
      simp only [List.getElem?_cons_zero, Option.some.injEq] at hx
      subst hx
      obtain rfl : i = n := by omega
      exact hy
end Go.Av

/- Arguments of any shape, read as typed values. Conditions: the program's types, as each rule names them. -/
namespace Go.Av
open Go.RowKit Go.WideShapes Go.ChangeShapes
section
variable {H : Type} (enc : TypeId × Value → H) (P : Program) (W : World)
def Rd {α : Type} (N : Nat) (t : TypeId) (cells : α → List AV) (Ok : α → Prop) : Prop := ∀ (base : Nat) (held : Bool) (n : Nat), n < N → ∀ (cs : List Value) (x : DataW H × List MemPlace), DataW.trod enc P W base (fun _ => true) held n t cs = some x → (∀ k ∈ x.1.weights P t, k ≤ reachBytes) → ∃ a : α, VRs (allS W) [] (cells a) cs ∧ Ok a
def RdFs {α : Type} (N : Nat) (tot : Nat) (o : Nat) (fs : List Field) (cells : α → List AV) (Ok : α → Prop) : Prop := ∀ (base : Nat) (held : Bool) (n : Nat), n < N → ∀ (cs : List Value) (xs : List (DataW H × List MemPlace)), cs.length = tot →
  xs.length = fs.length → (∀ (i : Nat) (f : Field), fs[i]? = some f → DataW.trod enc P W base (fun _ => true) held n f.type ((cs.drop f.offset).take (P.cellsOf f.type)) = xs[i]?) → (∀ k ∈ DataW.weightsEach P (fs.map (·.type)) (xs.map (·.1)), k ≤ reachBytes) → ∃ a : α, VRs (allS W) [] (cells a) (cs.drop o) ∧ Ok a
variable {enc P W} {α β : Type} {N : Nat} {t : TypeId}
theorem Rd.zero {cells : α → List AV} {Ok : α → Prop} : Rd enc P W 0 t cells Ok := fun _ _ n hn => absurd hn (by omega)
theorem Rd.le {cells : α → List AV} {Ok : α → Prop} (h : Rd enc P W N t cells Ok) {M : Nat} (hm : M ≤ N) : Rd enc P W M t cells Ok := fun b hd n hn => h b hd n (by omega)
theorem Rd.map {cells : α → List AV} {Ok : α → Prop} (h : Rd enc P W N t cells Ok) (g : α → β) {cells' : β → List AV} {Ok' : β → Prop} (hc : ∀ a, cells' (g a) = cells a) (ho : ∀ a, Ok a → Ok' (g a)) : Rd enc P W N t cells' Ok' := by
  intro b hd n hn cs x hx hw
  obtain ⟨a, h1, h2⟩ := h b hd n hn cs x hx hw
  exact ⟨g a, by rw [hc]; exact h1, ho a h2⟩
theorem rd_int {k : IntKind} (ht : P.underlying t = some (.int k)) : Rd enc P W N t (fun n : Int => [.int k n]) (fun n => (Lit.int k n).wf = true) := by
  intro b hd n hn cs x hx hw
  obtain ⟨b, rfl, _, hwf⟩ := DataW.trod_int ht hx
  exact ⟨b, by simp [VRs, VR], hwf⟩
theorem rd_str (ht : P.underlying t = some .string) : Rd enc P W N t (fun s : List UInt8 => [.str s]) (fun s => s.length ≤ reachBytes) := by
  intro b hd n hn cs x hx hw
  obtain ⟨s, rfl, rfl, _⟩ := DataW.trod_string ht hx
  exact ⟨s.data.toList, by simp [VRs, VR], hw _ (by simp [DataW.weights])⟩
def ElOf (cells : α → List AV) (ev : α → AV) (sz : Nat) : Prop := ∀ (a : α) (S : Stab) (β : List Blk) (vs : List Value), VRs S β (cells a) vs → vs.length = sz → ∃ v, VR S β (ev a) v ∧ v.cells.toList = vs
theorem elOf_agg' {cells : α → List AV} {ev : α → AV} {sz : Nat} (he : ∀ a, ev a = .agg (cells a)) : ElOf cells ev sz := fun a S β vs h hl => ⟨.agg vs.toArray, by rw [he]; simp only [VR]; exact ⟨vs, rfl, h⟩, by simp [Value.cells]⟩
theorem weightsAll_mem {e : TypeId} : ∀ {l : List (DataW H)} {d : DataW H}, d ∈ l → ∀ k ∈ d.weights P e, k ∈ DataW.weightsAll P e l
  | x :: l, d, hd, k, hk => by
    simp only [DataW.weightsAll, List.mem_append]
    rcases List.mem_cons.1 hd with rfl | hd
    · exact .inl hk
    · exact .inr (weightsAll_mem hd k hk)
theorem rd_slice {e : TypeId} {cells : α → List AV} {Ok : α → Prop} (h : Rd enc P W N e cells Ok) (ht : P.underlying t = some (.slice e)) {sz by_ : Nat} (hsz : P.cellsOf e = sz) (h0 : 0 < sz) (hby : P.bytesOf e = by_) {ev : α → AV} (hev : ElOf cells ev sz) :
    Rd enc P W N t (fun l : List α => [.sl (l.map ev)]) (fun l => l.length * by_ ≤ reachBytes ∧ ∀ a ∈ l, Ok a) := by
  intro base hd n hn cs x hx hw
  rcases DataW.trod_slice ht hx with ⟨rfl, rfl⟩ | ⟨a, len, cap, elems, rest, m, rfl, rfl, rfl, hb, hle, hm, hlen, hel, hsp, _⟩
  · exact ⟨[], by simp only [VRs, List.map_nil, VR]; exact ⟨_, _, rfl, ⟨none, 0, rfl, Nat.le_refl _, fun _ => rfl, fun q hq => by cases hq⟩, rfl⟩, by simp, fun a ha => by cases ha⟩
  obtain ⟨hrl, hre⟩ := hsp rfl
  rw [hsz] at hel hre
  simp only [DataW.weights, ht, List.mem_cons, List.mem_append, hby] at hw
  have hspot : 0 < cap → a.spot = none := by
    intro hc
    have : ∃ y, (W.cells? base (a.add 0) sz).bind (DataW.trod enc P W base (fun _ => true) hd m e) = some y := by
      by_cases h1 : 0 < len
      · have := hel 0 h1
        rw [List.getElem?_eq_getElem (by omega)] at this
        exact ⟨_, by simpa using this⟩
      · have := hre 0 (by omega)
        rw [List.getElem?_eq_getElem (by omega)] at this
        obtain rfl : len = 0 := by omega
        exact ⟨_, by simpa using this⟩
    obtain ⟨y, hy⟩ := this
    obtain ⟨cs, hcs, _⟩ := Option.bind_eq_some_iff.1 hy
    obtain ⟨_, hl, hc⟩ := World.cells?_some hcs
    have h2 := hc 0 h0
    rw [List.getElem?_eq_getElem (by omega)] at h2
    have h3 := World.cell?_spot h2
    have e : (a.add 0).add 0 = a := by unfold Addr.add; simp
    rwa [e] at h3
  have hx : ∀ i, i < len → ∃ y : α, (∃ v, VR (allS W) [] (ev y) v ∧ v.cells.size = sz ∧ cellsAt (allS W) a.block (a.off + i * sz) v.cells.toList) ∧ Ok y := by
    intro i hi
    have h1 := hel i hi
    rw [List.getElem?_eq_getElem (by omega)] at h1
    obtain ⟨cs, hcs, htr⟩ := Option.bind_eq_some_iff.1 h1
    obtain ⟨y, hy, hok⟩ := h base hd m (by omega) cs _ htr (fun k hk => hw k (.inr (.inl (weightsAll_mem (List.mem_map.2 ⟨_, List.getElem_mem _, rfl⟩) k hk))))
    obtain ⟨_, hl, hc⟩ := World.cells?_some hcs
    obtain ⟨v, hv, hvc⟩ := hev y _ _ cs hy hl
    refine ⟨y, ⟨v, hv, by rw [← Array.length_toList, hvc, hl], fun j u hj => ?_⟩, hok⟩
    rw [hvc] at hj
    have hjl : j < sz := by
      rcases Nat.lt_or_ge j cs.length with h | h
      · omega
      · rw [List.getElem?_eq_none h] at hj; cases hj
    have h2 := hc j hjl
    rw [hj] at h2
    unfold allS
    have hs := hspot (by omega)
    have e : (a.add (i * sz)).add j = ⟨a.block, a.off + i * sz + j, none⟩ := by
      obtain ⟨b, o, s⟩ := a
      simp only at hs
      subst hs
      rw [add_plain, add_plain]
    rw [← e]
    exact h2
  obtain ⟨l, hl1, hl2⟩ := list_of (fun i y => (∃ v, VR (allS W) [] (ev y) v ∧ v.cells.size = sz ∧ cellsAt (allS W) a.block (a.off + i * sz) v.cells.toList) ∧ Ok y) len hx
  refine ⟨l, ?_, ?_, fun y hy => ?_⟩
  · simp only [VRs, VR, List.length_map]
    refine ⟨_, _, rfl, ⟨some a, cap, by rw [hl1], by omega, (fun e => by cases e), fun q hq => ?_⟩, rfl⟩
    cases hq
    refine ⟨hspot, sz, .of_get fun i e he => ?_⟩
    rw [List.getElem?_map, Option.map_eq_some_iff] at he
    obtain ⟨y, hy, rfl⟩ := he
    exact (hl2 i y hy).1
  · have := hw _ (.inl rfl)
    simp only [List.length_map] at this
    have h3 := Nat.mul_le_mul_right by_ (show l.length ≤ elems.length + rest.length by omega)
    omega
  · obtain ⟨i, hi, e⟩ := List.getElem_of_mem hy
    exact (hl2 i y (by rw [List.getElem?_eq_getElem hi, e])).2
theorem rdFs_nil {tot : Nat} : RdFs enc P W N tot tot [] (fun _ : Unit => []) (fun _ => True) := fun base hd n hn cs xs hl _ _ _ => ⟨(), by simp [VRs, ← hl], trivial⟩
theorem rdFs_cons {tot o k : Nat} {f : Field} {fs : List Field} {c1 : α → List AV} {Ok1 : α → Prop} {c2 : β → List AV} {Ok2 : β → Prop} (h1 : Rd enc P W N f.type c1 Ok1) (ho : f.offset = o) (hk : P.cellsOf f.type = k) (h2 : RdFs enc P W N tot (o + k) fs c2 Ok2) :
    RdFs enc P W N tot o (f :: fs) (fun x : α × β => c1 x.1 ++ c2 x.2) (fun x => Ok1 x.1 ∧ Ok2 x.2) := by
  intro base hd n hn cs xs hl hx hf hw
  match xs, hx with
  | x :: xs, hx =>
    have hf0 := hf 0 f rfl
    rw [ho, hk] at hf0
    simp only [List.map_cons, DataW.weightsEach, List.mem_append] at hw
    obtain ⟨a, ha, oa⟩ := h1 base hd n hn _ x hf0 fun k hk => hw k (.inl hk)
    obtain ⟨b, hb, ob⟩ := h2 base hd n hn cs xs hl (by simpa using hx) (fun i g hg => by simpa using hf (i + 1) g (by simpa using hg)) fun k hk => hw k (.inr hk)
    refine ⟨(a, b), ?_, oa, ob⟩
    have := ha.append hb
    rwa [← List.drop_drop, List.take_append_drop] at this
theorem rd_struct {fs : Array Field} {tot : Nat} {cells : α → List AV} {Ok : α → Prop} (ht : P.underlying t = some (.struct fs)) (hc : P.cellsOf t = tot) (h : RdFs enc P W N tot 0 fs.toList cells Ok) : Rd enc P W (N + 1) t cells Ok := by
  intro base hd n hn cs x hx hw
  obtain ⟨xs, m, rfl, rfl, hl, hxs, hf⟩ := DataW.trod_struct ht hx
  simp only [DataW.weights, ht] at hw
  obtain ⟨a, h1, h2⟩ := h base hd m (by omega) cs xs (by rw [hl, hc]) (by simpa using hxs) (fun i f hi => hf i f (by simpa using hi)) hw
  exact ⟨a, by simpa using h1, h2⟩
theorem rd_arg {cells : α → List AV} {Ok : α → Prop} (h : ∀ N, Rd enc P W N t cells Ok) {base : Nat} {held : Bool} {v : Value} {d : DataW H} {p : List MemPlace} (hd : DataW.Trod enc P W base (fun _ => true) held t v d p) (hw : ∀ k ∈ d.weights P t, k ≤ reachBytes) :
    ∃ a : α, VRs (allS W) [] (cells a) v.cells.toList ∧ Ok a := by
  obtain ⟨n, hn⟩ := hd
  exact h (n + 1) base held n (by omega) _ _ hn hw
theorem rd_arg1 {f : α → AV} {Ok : α → Prop} (h : ∀ N, Rd enc P W N t (fun a => [f a]) Ok) {base : Nat} {held : Bool} {v : Value} {d : DataW H} {p : List MemPlace} (hv : v.cells.toList = [v]) (hd : DataW.Trod enc P W base (fun _ => true) held t v d p) (hw : ∀ k ∈ d.weights P t, k ≤ reachBytes) :
    ∃ a : α, VR (allS W) [] (f a) v ∧ Ok a := by
  obtain ⟨a, h1, h2⟩ := rd_arg h hd hw
  rw [hv] at h1
  simp only [VRs] at h1
  obtain ⟨y, ys, e, h1, rfl⟩ := h1
  cases e
  exact ⟨a, h1, h2⟩
theorem arg_int {k : IntKind} {r : Reach} {b0 : Nat} {f : α → AV} {Ok : α → Prop} (h : ∀ N, Rd enc P W N t (fun a => [f a]) Ok) (ht : P.underlying t = some (.int k)) {base : Nat} {held : Bool} {v : Value} {d : DataW H} {p : List MemPlace} (hok : Value.okWide P W r b0 t v)
    (hd : DataW.Trod enc P W base (fun _ => true) held t v d p) (hw : ∀ k ∈ d.weights P t, k ≤ reachBytes) : ∃ a : α, VR (allS W) [] (f a) v ∧ Ok a := by
  obtain ⟨a, rfl⟩ := okWide_int ht hok
  exact rd_arg1 h rfl hd hw
theorem arg_struct {fs : Array Field} {r : Reach} {b0 : Nat} {f : α → AV} {Ok : α → Prop} {cells : α → List AV} (h : ∀ N, Rd enc P W N t cells Ok) (hf : ∀ a, f a = .agg (cells a)) (ht : P.underlying t = some (.struct fs)) {base : Nat} {held : Bool} {v : Value} {d : DataW H} {p : List MemPlace} (hok : Value.okWide P W r b0 t v)
    (hd : DataW.Trod enc P W base (fun _ => true) held t v d p) (hw : ∀ k ∈ d.weights P t, k ≤ reachBytes) : ∃ a : α, VR (allS W) [] (f a) v ∧ Ok a := by
  obtain ⟨cs, rfl, _⟩ := okWide_struct ht hok
  obtain ⟨a, h1, h2⟩ := rd_arg h hd hw
  refine ⟨a, ?_, h2⟩
  rw [hf]
  simp only [VR]
  exact ⟨cs.toList, by simp, h1⟩
theorem each_light {ts : List TypeId} {ds : List (DataW H)} (h : (DataW.weightsEach P ts ds).all (· ≤ reachBytes) = true) {j : Nat} {u : TypeId} {d : DataW H} (ht : ts[j]? = some u) (hd : ds[j]? = some d) : ∀ k ∈ d.weights P u, k ≤ reachBytes := fun k hk => by
  have := List.all_eq_true.1 h _ (DataW.weights_mem_each ht hd k hk)
  simpa using this
end
end Go.Av

/- The types of the package api, and how their values stand as abstract values. No condition. -/
namespace Go.Av.Ap
abbrev Str := List UInt8
inductive Val where
  | mk (kind n : Int) (names : List Str) (values : List Val)
instance : Inhabited Val := ⟨.mk 0 0 [] []⟩
inductive Exp where
  | mk (op n : Int) (s m : Str) (names : List Str) (args : List Exp)
instance : Inhabited Exp := ⟨.mk 0 0 [] [] [] []⟩
inductive Ty where
  | mk (kind : Int) (fields : List (Str × Ty))
instance : Inhabited Ty := ⟨.mk 0 []⟩
abbrev Fld := Str × Ty
structure Fun where
  name : Str
  pub : Bool
  params : List Fld
  result : Ty
  effects : Int
  body : Exp
  deriving Inhabited
structure Mod where
  name : Str
  uses : List Str
  vars : List Fld
  init : List Exp
  funcs : List Fun
  moves : Bool
  old : List Fld
  forward : List Exp
  back : List Exp
  deriving Inhabited
def Val.kind : Val → Int | .mk k _ _ _ => k
def Val.n : Val → Int | .mk _ n _ _ => n
def Val.names : Val → List Str | .mk _ _ ns _ => ns
def Val.values : Val → List Val | .mk _ _ _ vs => vs
def Exp.op : Exp → Int | .mk o _ _ _ _ _ => o
def Exp.n : Exp → Int | .mk _ n _ _ _ _ => n
def Exp.s : Exp → Str | .mk _ _ s _ _ _ => s
def Exp.m : Exp → Str | .mk _ _ _ m _ _ => m
def Exp.names : Exp → List Str | .mk _ _ _ _ ns _ => ns
def Exp.args : Exp → List Exp | .mk _ _ _ _ _ es => es
def Ty.kind : Ty → Int | .mk k _ => k
def Ty.fields : Ty → List Fld | .mk _ fs => fs
@[simp] theorem Val.kind_mk (a b c d) : (Val.mk a b c d).kind = a := rfl
@[simp] theorem Val.n_mk (a b c d) : (Val.mk a b c d).n = b := rfl
@[simp] theorem Val.names_mk (a b c d) : (Val.mk a b c d).names = c := rfl
@[simp] theorem Val.values_mk (a b c d) : (Val.mk a b c d).values = d := rfl
def strs (l : List Str) : AV := .sl (l.map .str)
mutual
def Val.av : Val → AV
  | .mk k n ns vs => .agg [.int .i64 k, .int .i64 n, strs ns, .sl (valsAv vs)]
def valsAv : List Val → List AV
  | [] => []
  | v :: vs => v.av :: valsAv vs
end
mutual
def Exp.cells : Exp → List AV
  | .mk o n s m ns es => [.int .i64 o, .int .i64 n, .str s, .str m, strs ns, .sl (expsAv es)]
def expsAv : List Exp → List AV
  | [] => []
  | e :: es => .agg e.cells :: expsAv es
end
def Exp.av (e : Exp) : AV := .agg e.cells
mutual
def Ty.cells : Ty → List AV
  | .mk k fs => [.int .i64 k, .sl (fldsAv fs)]
def fldsAv : List (Str × Ty) → List AV
  | [] => []
  | f :: fs => fldAv f :: fldsAv fs
def fldAv : Str × Ty → AV
  | (n, t) => .agg (.str n :: t.cells)
end
def Ty.av (t : Ty) : AV := .agg t.cells
def Fun.av (f : Fun) : AV := .agg ([.str f.name, .bool f.pub, .sl (fldsAv f.params)] ++ f.result.cells ++ [.int .i64 f.effects] ++ f.body.cells)
def funs (l : List Fun) : AV := .sl (l.map Fun.av)
def Mod.av (m : Mod) : AV := .agg [.str m.name, strs m.uses, .sl (fldsAv m.vars), .sl (expsAv m.init), funs m.funcs, .bool m.moves, .sl (fldsAv m.old), .sl (expsAv m.forward), .sl (expsAv m.back)]
def vals (l : List Val) : AV := .sl (valsAv l)
def exps (l : List Exp) : AV := .sl (expsAv l)
def flds (l : List Fld) : AV := .sl (fldsAv l)
def mods (l : List Mod) : AV := .sl (l.map Mod.av)
def ints (l : List Int) : AV := .sl (l.map (.int .i64))
structure Vars where
  module : Str
  values : List Val
  deriving Inhabited
structure Deed where
  effect : Int
  arg : Int
  answer : Int
  deriving DecidableEq, Inhabited
structure Call where
  module : Str
  func : Str
  args : List Val
  deriving Inhabited
def Vars.av (v : Vars) : AV := .agg [.str v.module, vals v.values]
def Deed.av (d : Deed) : AV := .agg [.int .i64 d.effect, .int .i64 d.arg, .int .i64 d.answer]
def Call.av (c : Call) : AV := .agg [.str c.module, .str c.func, vals c.args]
def varss (l : List Vars) : AV := .sl (l.map Vars.av)
def deeds (l : List Deed) : AV := .sl (l.map Deed.av)
def calls (l : List Call) : AV := .sl (l.map Call.av)
structure Out where
  err : Int
  value : Val
  deeds : List Deed
  calls : List Call
  state : List Vars
def Out.av (o : Out) : AV := .agg [.int .i64 o.err, .int .i64 o.value.kind, .int .i64 o.value.n, strs o.value.names, vals o.value.values, Ap.deeds o.deeds, Ap.calls o.calls, varss o.state]
theorem valsAv_map : (l : List Val) → valsAv l = l.map Val.av
  | [] => rfl
  | v :: l => by simp [valsAv, valsAv_map l]
theorem expsAv_map : (l : List Exp) → expsAv l = l.map Exp.av
  | [] => rfl
  | v :: l => by simp [expsAv, expsAv_map l, Exp.av]
theorem fldsAv_map : (l : List Fld) → fldsAv l = l.map fldAv
  | [] => rfl
  | v :: l => by simp [fldsAv, fldsAv_map l]
theorem Val.av_eq (v : Val) : v.av = .agg [.int .i64 v.kind, .int .i64 v.n, strs v.names, vals v.values] := by cases v; rfl
theorem Exp.cells_eq (e : Exp) : e.cells = [.int .i64 e.op, .int .i64 e.n, .str e.s, .str e.m, strs e.names, exps e.args] := by cases e; rfl
theorem Ty.cells_eq (t : Ty) : t.cells = [.int .i64 t.kind, flds t.fields] := by cases t; simp [Ty.cells, flds, Ty.kind, Ty.fields]
theorem fldAv_eq (f : Fld) : fldAv f = .agg [.str f.1, .int .i64 f.2.kind, flds f.2.fields] := by obtain ⟨n, t⟩ := f; simp [fldAv, Ty.cells_eq]
@[simp] theorem acells_val (v : Val) : acells v.av = [.int .i64 v.kind, .int .i64 v.n, strs v.names, vals v.values] := by rw [v.av_eq]; rfl
@[simp] theorem acells_exp (e : Exp) : acells e.av = [.int .i64 e.op, .int .i64 e.n, .str e.s, .str e.m, strs e.names, exps e.args] := by rw [Exp.av, e.cells_eq]; rfl
@[simp] theorem acells_fld (f : Fld) : acells (fldAv f) = [.str f.1, .int .i64 f.2.kind, flds f.2.fields] := by rw [fldAv_eq]; rfl
@[simp] theorem acells_ty (t : Ty) : acells t.av = [.int .i64 t.kind, flds t.fields] := by rw [Ty.av, t.cells_eq]; rfl
@[simp] theorem acells_fun (f : Fun) : acells f.av = [.str f.name, .bool f.pub, flds f.params, .int .i64 f.result.kind, flds f.result.fields, .int .i64 f.effects, .int .i64 f.body.op, .int .i64 f.body.n, .str f.body.s, .str f.body.m, strs f.body.names, exps f.body.args] := by
  simp [Fun.av, acells, Ty.cells_eq, Exp.cells_eq, flds]
@[simp] theorem acells_mod (m : Mod) : acells m.av = [.str m.name, strs m.uses, flds m.vars, exps m.init, funs m.funcs, .bool m.moves, flds m.old, exps m.forward, exps m.back] := rfl
@[simp] theorem fold_val (v : Val) : AV.agg [.int .i64 v.kind, .int .i64 v.n, strs v.names, vals v.values] = v.av := (v.av_eq).symm
@[simp] theorem fold_exp (e : Exp) : AV.agg [.int .i64 e.op, .int .i64 e.n, .str e.s, .str e.m, strs e.names, exps e.args] = e.av := by rw [Exp.av, e.cells_eq]
@[simp] theorem fold_ty (t : Ty) : AV.agg [.int .i64 t.kind, flds t.fields] = t.av := by rw [Ty.av, t.cells_eq]
@[simp] theorem fold_fld (f : Fld) : AV.agg [.str f.1, .int .i64 f.2.kind, flds f.2.fields] = fldAv f := (fldAv_eq f).symm
@[simp] theorem fold_fun (f : Fun) : AV.agg [.str f.name, .bool f.pub, flds f.params, .int .i64 f.result.kind, flds f.result.fields, .int .i64 f.effects, .int .i64 f.body.op, .int .i64 f.body.n, .str f.body.s, .str f.body.m, strs f.body.names, exps f.body.args] = f.av := by
  simp [Fun.av, Ty.cells_eq, Exp.cells_eq, flds]
@[simp] theorem fold_mod (m : Mod) : AV.agg [.str m.name, strs m.uses, flds m.vars, exps m.init, funs m.funcs, .bool m.moves, flds m.old, exps m.forward, exps m.back] = m.av := rfl
theorem cls_map {α : Type} (g : Nat → Nat → Nat → Nat → Bool → AV) (f : α → AV) (h : ∀ x, cl g (f x) = f x) : (l : List α) → cls g (l.map f) = l.map f
  | [] => rfl
  | x :: l => by simp [cls, h x, cls_map g f h l]
@[simp] theorem cl_strs (g : Nat → Nat → Nat → Nat → Bool → AV) (l : List Str) : cl g (strs l) = strs l := by
  simp [strs, cl, cls_map g AV.str (fun _ => rfl) l]
@[simp] theorem cl_ints (g : Nat → Nat → Nat → Nat → Bool → AV) (l : List Int) : cl g (ints l) = ints l := by
  simp [ints, cl, cls_map g (AV.int .i64) (fun _ => rfl) l]
mutual
theorem Val.cl_av (g : Nat → Nat → Nat → Nat → Bool → AV) : (v : Val) → cl g v.av = v.av
  | .mk k n ns vs => by simp [Val.av, cl, cls, vals_cl g vs]
theorem vals_cl (g : Nat → Nat → Nat → Nat → Bool → AV) : (l : List Val) → cls g (valsAv l) = valsAv l
  | [] => rfl
  | v :: l => by simp [valsAv, cls, Val.cl_av g v, vals_cl g l]
end
mutual
theorem Exp.cl_cells (g : Nat → Nat → Nat → Nat → Bool → AV) : (e : Exp) → cls g e.cells = e.cells
  | .mk o n s m ns es => by simp [Exp.cells, cl, cls, exps_cl g es]
theorem exps_cl (g : Nat → Nat → Nat → Nat → Bool → AV) : (l : List Exp) → cls g (expsAv l) = expsAv l
  | [] => rfl
  | e :: l => by simp [expsAv, cls, cl, Exp.cl_cells g e, exps_cl g l]
end
mutual
theorem Ty.cl_cells (g : Nat → Nat → Nat → Nat → Bool → AV) : (t : Ty) → cls g t.cells = t.cells
  | .mk k fs => by simp [Ty.cells, cl, cls, flds_cl g fs]
theorem flds_cl (g : Nat → Nat → Nat → Nat → Bool → AV) : (l : List (Str × Ty)) → cls g (fldsAv l) = fldsAv l
  | [] => rfl
  | f :: l => by simp [fldsAv, cls, fld_cl g f, flds_cl g l]
theorem fld_cl (g : Nat → Nat → Nat → Nat → Bool → AV) : (f : Str × Ty) → cl g (fldAv f) = fldAv f
  | (n, t) => by simp [fldAv, cl, cls, Ty.cl_cells g t]
end
@[simp] theorem cl_val (g : Nat → Nat → Nat → Nat → Bool → AV) (v : Val) : cl g v.av = v.av := v.cl_av g
@[simp] theorem cl_vals (g : Nat → Nat → Nat → Nat → Bool → AV) (l : List Val) : cl g (vals l) = vals l := by simp [vals, cl, vals_cl]
@[simp] theorem cl_exp (g : Nat → Nat → Nat → Nat → Bool → AV) (e : Exp) : cl g e.av = e.av := by simp [Exp.av, cl, Exp.cl_cells]
@[simp] theorem cl_exps (g : Nat → Nat → Nat → Nat → Bool → AV) (l : List Exp) : cl g (exps l) = exps l := by simp [exps, cl, exps_cl]
@[simp] theorem cl_ty (g : Nat → Nat → Nat → Nat → Bool → AV) (t : Ty) : cl g t.av = t.av := by simp [Ty.av, cl, Ty.cl_cells]
@[simp] theorem cl_fld (g : Nat → Nat → Nat → Nat → Bool → AV) (f : Fld) : cl g (fldAv f) = fldAv f := fld_cl g f
@[simp] theorem cl_flds (g : Nat → Nat → Nat → Nat → Bool → AV) (l : List Fld) : cl g (flds l) = flds l := by simp [flds, cl, flds_cl]
theorem cls_append (g : Nat → Nat → Nat → Nat → Bool → AV) : (a b : List AV) → cls g (a ++ b) = cls g a ++ cls g b
  | [], b => rfl
  | x :: a, b => by simp [cls, cls_append g a b]
@[simp] theorem cl_fun (g : Nat → Nat → Nat → Nat → Bool → AV) (f : Fun) : cl g f.av = f.av := by
  simp [Fun.av, cl, cls, cls_append, flds_cl, Ty.cl_cells, Exp.cl_cells]
@[simp] theorem cl_funs (g : Nat → Nat → Nat → Nat → Bool → AV) (l : List Fun) : cl g (funs l) = funs l := by simp [funs, cl, cls_map g Fun.av (cl_fun g)]
@[simp] theorem cl_mod (g : Nat → Nat → Nat → Nat → Bool → AV) (m : Mod) : cl g m.av = m.av := by
  simp [Mod.av, cl, cls, flds_cl, exps_cl, cl_funs]
@[simp] theorem cl_mods (g : Nat → Nat → Nat → Nat → Bool → AV) (l : List Mod) : cl g (mods l) = mods l := by simp [mods, cl, cls_map g Mod.av (cl_mod g)]
@[simp] theorem cl_int (g : Nat → Nat → Nat → Nat → Bool → AV) (k : IntKind) (n : Int) : cl g (.int k n) = .int k n := rfl
@[simp] theorem cl_bool (g : Nat → Nat → Nat → Nat → Bool → AV) (b : Bool) : cl g (.bool b) = .bool b := rfl
@[simp] theorem cl_str (g : Nat → Nat → Nat → Nat → Bool → AV) (s : Str) : cl g (.str s) = .str s := rfl
@[simp] theorem cl_vars (g : Nat → Nat → Nat → Nat → Bool → AV) (v : Vars) : cl g v.av = v.av := by simp [Vars.av, cl, cls]
@[simp] theorem cl_deed (g : Nat → Nat → Nat → Nat → Bool → AV) (v : Deed) : cl g v.av = v.av := by simp [Deed.av, cl, cls]
@[simp] theorem cl_call (g : Nat → Nat → Nat → Nat → Bool → AV) (v : Call) : cl g v.av = v.av := by simp [Call.av, cl, cls]
@[simp] theorem cl_varss (g : Nat → Nat → Nat → Nat → Bool → AV) (l : List Vars) : cl g (varss l) = varss l := by simp [varss, cl, cls_map g Vars.av (cl_vars g)]
@[simp] theorem cl_deeds (g : Nat → Nat → Nat → Nat → Bool → AV) (l : List Deed) : cl g (deeds l) = deeds l := by simp [deeds, cl, cls_map g Deed.av (cl_deed g)]
@[simp] theorem cl_calls (g : Nat → Nat → Nat → Nat → Bool → AV) (l : List Call) : cl g (calls l) = calls l := by simp [calls, cl, cls_map g Call.av (cl_call g)]
@[simp] theorem cl_out (g : Nat → Nat → Nat → Nat → Bool → AV) (o : Out) : cl g o.av = o.av := by simp [Out.av, cl, cls]
@[simp] theorem acells_vars (v : Vars) : acells v.av = [.str v.module, vals v.values] := rfl
@[simp] theorem acells_deed (v : Deed) : acells v.av = [.int .i64 v.effect, .int .i64 v.arg, .int .i64 v.answer] := rfl
@[simp] theorem acells_call (v : Call) : acells v.av = [.str v.module, .str v.func, vals v.args] := rfl
@[simp] theorem acells_out (o : Out) : acells o.av = [.int .i64 o.err, .int .i64 o.value.kind, .int .i64 o.value.n, strs o.value.names, vals o.value.values, deeds o.deeds, calls o.calls, varss o.state] := rfl
@[simp] theorem fold_vars (v : Vars) : AV.agg [.str v.module, vals v.values] = v.av := rfl
@[simp] theorem fold_deed (v : Deed) : AV.agg [.int .i64 v.effect, .int .i64 v.arg, .int .i64 v.answer] = v.av := rfl
@[simp] theorem fold_call (v : Call) : AV.agg [.str v.module, .str v.func, vals v.args] = v.av := rfl
@[simp] theorem fold_out (o : Out) : AV.agg [.int .i64 o.err, .int .i64 o.value.kind, .int .i64 o.value.n, strs o.value.names, vals o.value.values, deeds o.deeds, calls o.calls, varss o.state] = o.av := rfl
@[simp] theorem size_vars (v : Vars) : sizeA v.av = some 2 := rfl
@[simp] theorem size_deed (v : Deed) : sizeA v.av = some 3 := rfl
@[simp] theorem size_call (v : Call) : sizeA v.av = some 3 := rfl
@[simp] theorem size_out (v : Out) : sizeA v.av = some 8 := rfl
@[simp] theorem okEl_vars (v : Vars) : okEl 2 v.av = true := by simp [okEl, okCell, vals]
@[simp] theorem okEl_deed (v : Deed) : okEl 3 v.av = true := by simp [okEl, okCell]
@[simp] theorem okEl_call (v : Call) : okEl 3 v.av = true := by simp [okEl, okCell, vals]
@[simp] theorem okEl_out (v : Out) : okEl 8 v.av = true := by simp [okEl, okCell, vals, strs, deeds, calls, varss]
def Clean (a : AV) : Prop := ∀ g, cl g a = a
theorem Clean.frz {a : AV} (h : Clean a) (d : Nat) (hp : Hp) : frz d hp a = a := by
  cases d with
  | zero => exact h _
  | succ d => exact h _
theorem isoP_pure {a : AV} (h : Clean a) : isoP (M.pure a) = M.pure a := by
  funext hp
  simp only [isoP, M.pure, h.frz]
@[simp] theorem isoP_bool (b : Bool) : isoP (M.pure (.bool b)) = M.pure (.bool b) := isoP_pure fun _ => rfl
@[simp] theorem isoP_int (k : IntKind) (n : Int) : isoP (M.pure (.int k n)) = M.pure (.int k n) := isoP_pure fun _ => rfl
@[simp] theorem isoP_str (s : Str) : isoP (M.pure (.str s)) = M.pure (.str s) := isoP_pure fun _ => rfl
@[simp] theorem isoP_val (v : Val) : isoP (M.pure v.av) = M.pure v.av := isoP_pure fun g => cl_val g v
@[simp] theorem isoP_vals (v : List Val) : isoP (M.pure (vals v)) = M.pure (vals v) := isoP_pure fun g => cl_vals g v
@[simp] theorem isoP_exp (v : Exp) : isoP (M.pure v.av) = M.pure v.av := isoP_pure fun g => cl_exp g v
@[simp] theorem isoP_fun (v : Fun) : isoP (M.pure v.av) = M.pure v.av := isoP_pure fun g => cl_fun g v
@[simp] theorem size_val (v : Val) : sizeA v.av = some 4 := by rw [v.av_eq]; rfl
@[simp] theorem size_exp (e : Exp) : sizeA e.av = some 6 := by rw [Exp.av, e.cells_eq]; rfl
@[simp] theorem size_fld (f : Fld) : sizeA (fldAv f) = some 3 := by rw [fldAv_eq]; rfl
@[simp] theorem size_ty (t : Ty) : sizeA t.av = some 2 := by rw [Ty.av, t.cells_eq]; rfl
@[simp] theorem size_fun (f : Fun) : sizeA f.av = some 12 := by simp [Fun.av, sizeA, Ty.cells_eq, Exp.cells_eq]
@[simp] theorem size_mod (m : Mod) : sizeA m.av = some 9 := rfl
@[simp] theorem okEl_val (v : Val) : okEl 4 v.av = true := by simp [okEl, okCell, strs, vals]
@[simp] theorem okEl_exp (e : Exp) : okEl 6 e.av = true := by simp [okEl, okCell, strs, exps]
@[simp] theorem okEl_fld (f : Fld) : okEl 3 (fldAv f) = true := by simp [okEl, okCell, flds]
@[simp] theorem okEl_fun (f : Fun) : okEl 12 f.av = true := by simp [okEl, okCell, flds, strs, exps]
@[simp] theorem okEl_mod (m : Mod) : okEl 9 m.av = true := by simp [okEl, okCell, flds, strs, exps, funs]
@[simp] theorem okEl_str (s : Str) : okEl 1 (.str s) = true := rfl
@[simp] theorem okEl_int (k : IntKind) (n : Int) : okEl 1 (.int k n) = true := rfl
theorem okSz_map {α : Type} {sz : Nat} {f : α → AV} (h : ∀ x, okEl sz (f x) = true) (l : List α) : okSz sz (l.map f) = true := by simp [okSz, h]
@[simp] theorem okSz_strs (l : List Str) : okSz 1 (l.map AV.str) = true := okSz_map okEl_str l
@[simp] theorem okSz_ints (l : List Int) : okSz 1 (l.map (AV.int .i64)) = true := okSz_map (okEl_int .i64) l
@[simp] theorem okSz_vals (l : List Val) : okSz 4 (valsAv l) = true := by rw [valsAv_map]; exact okSz_map okEl_val l
@[simp] theorem okSz_exps (l : List Exp) : okSz 6 (expsAv l) = true := by rw [expsAv_map]; exact okSz_map okEl_exp l
@[simp] theorem okSz_flds (l : List Fld) : okSz 3 (fldsAv l) = true := by rw [fldsAv_map]; exact okSz_map okEl_fld l
@[simp] theorem okSz_funs (l : List Fun) : okSz 12 (l.map Fun.av) = true := okSz_map okEl_fun l
@[simp] theorem okSz_mods (l : List Mod) : okSz 9 (l.map Mod.av) = true := okSz_map okEl_mod l
theorem indexAddrA_map {T : TT} {t e : Nat} {ti ei : TI} (ht : T t = some ti) (hk : ti.kind = .slice e) (he : T e = some ei) {α : Type} {f : α → AV} (hs : ∀ x, sizeA (f x) = some ei.size) {l : List α} {i : Nat} {x : α} (h : l[i]? = some x) :
    indexAddrA T t (.sl (l.map f)) (.int .i64 (i : Int)) = some (.ip (acells (f x))) := by
  unfold indexAddrA
  rw [ht]
  simp only [hk, he]
  rw [if_neg (by omega)]
  have : (l.map f)[(i : Int).toNat]? = some (f x) := by rw [Int.toNat_natCast, List.getElem?_map, h]; rfl
  rw [this]
  simp only
  rw [if_pos (hs x)]
theorem indexAddrA_int {T : TT} {t e : Nat} {ti ei : TI} (ht : T t = some ti) (hk : ti.kind = .slice e) (he : T e = some ei) {α : Type} [Inhabited α] {f : α → AV} (hs : ∀ x, sizeA (f x) = some ei.size) {l : List α} {n : Int} (h0 : 0 ≤ n) (h : n < (l.length : Int)) :
    indexAddrA T t (.sl (l.map f)) (.int .i64 n) = some (.ip (acells (f l[n.toNat]!))) := by
  have hlt : n.toNat < l.length := by omega
  have := indexAddrA_map ht hk he hs (l := l) (i := n.toNat) (x := l[n.toNat]!) (by rw [List.getElem!_eq_getElem?_getD, List.getElem?_eq_getElem hlt]; rfl)
  rw [show ((n.toNat : Nat) : Int) = n by omega] at this
  exact this
theorem appA_map {T : TT} {t e : Nat} {ti ei : TI} (ht : T t = some ti) (hk : ti.kind = .slice e) (he : T e = some ei) {α : Type} {f : α → AV} (hs : ∀ x, okEl ei.size (f x) = true) {a b : List α} (h : (a.length + b.length) * ei.bytes ≤ 140737488355328) (h0 : 0 < ei.bytes) :
    appA T t (.sl (a.map f)) (.sl (b.map f)) = some (.sl ((a ++ b).map f)) := by
  unfold appA
  rw [ht]
  simp only [hk, he, elsOf]
  rw [okSz_map hs, okSz_map hs]
  simp [h, h0, strOk]
end Go.Av.Ap

/- More types of the package api: interfaces and their functions, versions. No condition. -/
namespace Go.Av.Ap
def tys (l : List Ty) : AV := .sl (l.map Ty.av)
structure Sig where
  name : Str
  params : List Ty
  result : Ty
  effects : Int
  deriving Inhabited
structure Face where
  module : Str
  funcs : List Sig
  deriving Inhabited
structure Vsn where
  major : Int
  minor : Int
  patch : Int
  deriving Inhabited, DecidableEq
def Sig.cells (s : Sig) : List AV := [.str s.name, tys s.params, .int .i64 s.result.kind, flds s.result.fields, .int .i64 s.effects]
def Sig.av (s : Sig) : AV := .agg s.cells
def sigs (l : List Sig) : AV := .sl (l.map Sig.av)
def Face.cells (f : Face) : List AV := [.str f.module, sigs f.funcs]
def Face.av (f : Face) : AV := .agg f.cells
def faces (l : List Face) : AV := .sl (l.map Face.av)
def Vsn.av (v : Vsn) : AV := .agg [.int .i64 v.major, .int .i64 v.minor, .int .i64 v.patch]
@[simp] theorem acells_sig (s : Sig) : acells s.av = [.str s.name, tys s.params, .int .i64 s.result.kind, flds s.result.fields, .int .i64 s.effects] := rfl
@[simp] theorem acells_face (f : Face) : acells f.av = [.str f.module, sigs f.funcs] := rfl
@[simp] theorem acells_vsn (v : Vsn) : acells v.av = [.int .i64 v.major, .int .i64 v.minor, .int .i64 v.patch] := rfl
@[simp] theorem fold_sig (s : Sig) : AV.agg [.str s.name, tys s.params, .int .i64 s.result.kind, flds s.result.fields, .int .i64 s.effects] = s.av := rfl
@[simp] theorem fold_face (f : Face) : AV.agg [.str f.module, sigs f.funcs] = f.av := rfl
@[simp] theorem fold_vsn (v : Vsn) : AV.agg [.int .i64 v.major, .int .i64 v.minor, .int .i64 v.patch] = v.av := rfl
@[simp] theorem okEl_ty (t : Ty) : okEl 2 t.av = true := by simp [okEl, okCell, flds]
@[simp] theorem okSz_tys (l : List Ty) : okSz 2 (l.map Ty.av) = true := okSz_map okEl_ty l
@[simp] theorem size_sig (s : Sig) : sizeA s.av = some 5 := rfl
@[simp] theorem size_face (s : Face) : sizeA s.av = some 2 := rfl
@[simp] theorem size_vsn (s : Vsn) : sizeA s.av = some 3 := rfl
@[simp] theorem okEl_sig (s : Sig) : okEl 5 s.av = true := by simp [okEl, okCell, flds, tys]
@[simp] theorem okEl_face (s : Face) : okEl 2 s.av = true := by simp [okEl, okCell, sigs]
@[simp] theorem okEl_vsn (s : Vsn) : okEl 3 s.av = true := rfl
@[simp] theorem okSz_sigs (l : List Sig) : okSz 5 (l.map Sig.av) = true := okSz_map okEl_sig l
@[simp] theorem okSz_faces (l : List Face) : okSz 2 (l.map Face.av) = true := okSz_map okEl_face l
@[simp] theorem cl_tys (g : Nat → Nat → Nat → Nat → Bool → AV) (l : List Ty) : cl g (tys l) = tys l := by simp [tys, cl, cls_map g Ty.av (cl_ty g)]
@[simp] theorem cl_sig (g : Nat → Nat → Nat → Nat → Bool → AV) (s : Sig) : cl g s.av = s.av := by unfold Sig.av Sig.cells; simp only [cl, cls, cl_tys, cl_flds]
@[simp] theorem cl_sigs (g : Nat → Nat → Nat → Nat → Bool → AV) (l : List Sig) : cl g (sigs l) = sigs l := by simp [sigs, cl, cls_map g Sig.av (cl_sig g)]
@[simp] theorem cl_face (g : Nat → Nat → Nat → Nat → Bool → AV) (s : Face) : cl g s.av = s.av := by unfold Face.av Face.cells; simp only [cl, cls, cl_sigs]
@[simp] theorem cl_faces (g : Nat → Nat → Nat → Nat → Bool → AV) (l : List Face) : cl g (faces l) = faces l := by simp [faces, cl, cls_map g Face.av (cl_face g)]
@[simp] theorem cl_vsn (g : Nat → Nat → Nat → Nat → Bool → AV) (s : Vsn) : cl g s.av = s.av := by unfold Vsn.av; simp only [cl, cls]
@[simp] theorem isoP_ty (v : Ty) : isoP (M.pure v.av) = M.pure v.av := isoP_pure fun g => cl_ty g v
@[simp] theorem isoP_sig (v : Sig) : isoP (M.pure v.av) = M.pure v.av := isoP_pure fun g => cl_sig g v
@[simp] theorem isoP_face (v : Face) : isoP (M.pure v.av) = M.pure v.av := isoP_pure fun g => cl_face g v
end Go.Av.Ap

/- Rules by which shallow programs are simplified. No condition. -/
namespace Go.Av
attribute [simp] bnd_pure bnd_some bnd_fail bnd_throw
@[simp] theorem condM_bool {α : Type} (b : Bool) (x y : M α) : condM (.bool b) x y = if b = true then x else y := by cases b <;> rfl
def gv (b w : Bool) (y : AV) : AV := bif b == w then y else .tup []
@[simp] theorem gv_ff (y : AV) : gv false false y = y := rfl
@[simp] theorem gv_tt (y : AV) : gv true true y = y := rfl
@[simp] theorem gv_ft (y : AV) : gv false true y = .tup [] := rfl
@[simp] theorem gv_tf (y : AV) : gv true false y = .tup [] := rfl
@[simp high] theorem guardM_pure1 (b w : Bool) (y : AV) : guardM (.bool b) w 1 (M.pure [y]) = M.pure [gv b w y] := by cases b <;> cases w <;> rfl
@[simp high] theorem guardM_gv (b w c w2 : Bool) (y : AV) : guardM (gv b w (.bool c)) w2 1 (M.pure [y]) = M.pure [gv b w (gv c w2 y)] := by cases b <;> cases w <;> cases c <;> cases w2 <;> rfl
@[simp high] theorem guardM_or (b w c e : Bool) : guardM (.bool b) w 1 (bnd (lft (pickA (gv b w (.bool c)) (.bool true) (gv b w (gv c false (.bool e))))) fun v => M.pure [v]) = M.pure [gv b w (.bool (c || e))] := by
  cases b <;> cases w <;> cases c <;> rfl
@[simp high] theorem guardM_and (b w c e : Bool) : guardM (.bool b) w 1 (bnd (lft (pickA (gv b w (.bool c)) (gv b w (gv c true (.bool e))) (.bool false))) fun v => M.pure [v]) = M.pure [gv b w (.bool (c && e))] := by
  cases b <;> cases w <;> cases c <;> rfl
@[simp high] theorem pickA_and (b c : Bool) : pickA (.bool b) (gv b true (.bool c)) (.bool false) = some (.bool (b && c)) := by cases b <;> rfl
@[simp high] theorem pickA_or (b c : Bool) : pickA (.bool b) (.bool true) (gv b false (.bool c)) = some (.bool (b || c)) := by cases b <;> rfl
@[simp] theorem guardM_skip1 (w : Bool) (n : Nat) (m : M (List AV)) : guardM (.bool !w) w n m = M.pure (List.replicate n (.tup [])) := by cases w <;> rfl
@[simp] theorem guardM_take1 (w : Bool) (n : Nat) (m : M (List AV)) : guardM (.bool w) w n m = m := by cases w <;> rfl
@[simp] theorem guardM_ft (n : Nat) (m : M (List AV)) : guardM (.bool false) true n m = M.pure (List.replicate n (.tup [])) := rfl
@[simp] theorem guardM_tf (n : Nat) (m : M (List AV)) : guardM (.bool true) false n m = M.pure (List.replicate n (.tup [])) := rfl
@[simp] theorem guardM_tup (w : Bool) (n : Nat) (m : M (List AV)) : guardM (.tup []) w n m = M.pure (List.replicate n (.tup [])) := rfl
@[simp] theorem pickA_true (x y : AV) : pickA (.bool true) x y = some x := rfl
@[simp] theorem pickA_false (x y : AV) : pickA (.bool false) x y = some y := rfl
@[simp] theorem nth_zero (x : AV) (l : List AV) : nth (x :: l) 0 = x := rfl
@[simp] theorem nth_succ (x : AV) (l : List AV) (n : Nat) : nth (x :: l) (n + 1) = nth l n := rfl
@[simp] theorem jn_def {α : Type} (k : List AV → M α) (m : (List AV → M α) → M α) : jn k m = m k := rfl
@[simp] theorem noPan_pure {α : Type} (a : α) : noPan (M.pure a) = M.pure a := rfl
@[simp] theorem unA_not (b : Bool) : unA .not (.bool b) = some (.bool !b) := rfl
@[simp] theorem extractA_tup (l : List AV) (i : Nat) : extractA (.tup l) i = l[i]? := rfl
@[simp] theorem mkIface_nil : True := trivial
@[simp] theorem nilChkA_hp (l k : Nat) : nilChkA (.hp l k) = some (.hp l k) := rfl
@[simp] theorem nilChkA_ip (cs : List AV) : nilChkA (.ip cs) = some (.ip cs) := rfl
@[simp] theorem acells_str (s : List UInt8) : acells (.str s) = [.str s] := rfl
@[simp] theorem acells_int (k : IntKind) (n : Int) : acells (.int k n) = [.int k n] := rfl
@[simp] theorem acells_agg (cs : List AV) : acells (.agg cs) = cs := rfl
@[simp] theorem bin_add (T : TT) (t : Nat) (a b : Int) : binA T .add t (.int .i64 a) (.int .i64 b) = some (.int .i64 (IntKind.i64.wrap (a + b))) := rfl
@[simp] theorem bin_sub (T : TT) (t : Nat) (a b : Int) : binA T .sub t (.int .i64 a) (.int .i64 b) = some (.int .i64 (IntKind.i64.wrap (a - b))) := rfl
@[simp] theorem bin_mul (T : TT) (t : Nat) (a b : Int) : binA T .mul t (.int .i64 a) (.int .i64 b) = some (.int .i64 (IntKind.i64.wrap (a * b))) := rfl
@[simp] theorem bin_lss (T : TT) (t : Nat) (a b : Int) : binA T .lss t (.int .i64 a) (.int .i64 b) = some (.bool (decide (a < b))) := rfl
@[simp] theorem bin_leq (T : TT) (t : Nat) (a b : Int) : binA T .leq t (.int .i64 a) (.int .i64 b) = some (.bool (decide (a ≤ b))) := rfl
@[simp] theorem bin_gtr (T : TT) (t : Nat) (a b : Int) : binA T .gtr t (.int .i64 a) (.int .i64 b) = some (.bool (decide (b < a))) := rfl
@[simp] theorem bin_geq (T : TT) (t : Nat) (a b : Int) : binA T .geq t (.int .i64 a) (.int .i64 b) = some (.bool (decide (b ≤ a))) := rfl
@[simp] theorem bin_eql (T : TT) (t : Nat) (a b : Int) : binA T .eql t (.int .i64 a) (.int .i64 b) = some (.bool (a == b)) := rfl
@[simp] theorem bin_neq (T : TT) (t : Nat) (a b : Int) : binA T .neq t (.int .i64 a) (.int .i64 b) = some (.bool (a != b)) := rfl
@[simp] theorem str_eql (T : TT) (t : Nat) (a b : List UInt8) : binA T .eql t (.str a) (.str b) = some (.bool (a == b)) := rfl
@[simp] theorem str_neq (T : TT) (t : Nat) (a b : List UInt8) : binA T .neq t (.str a) (.str b) = some (.bool !(a == b)) := rfl
@[simp] theorem str_lss (T : TT) (t : Nat) (a b : List UInt8) : binA T .lss t (.str a) (.str b) = some (.bool (strLess a b)) := rfl
@[simp] theorem str_geq (T : TT) (t : Nat) (a b : List UInt8) : binA T .geq t (.str a) (.str b) = some (.bool !(strLess a b)) := rfl
@[simp] theorem cellsM_of {n : Nat} {x : AV} (h : okEl n x = true) : cellsM n x = M.pure (.agg (acells x)) := by
  unfold cellsM cellsN
  rw [h]
  rfl
@[simp] theorem cellsNil_of {n : Nat} {x : AV} (h : okEl n x = true) : cellsNil n [] x = M.pure (.agg (acells x)) := by
  unfold cellsNil cellsN
  rw [h]
  rfl
@[simp] theorem minsA_one (b : Bool) (x : AV) : minsA b [x] = some x := by simp [minsA]
@[simp] theorem minsA_two (b : Bool) (a c : Int) : minsA b [.int .i64 a, .int .i64 c] = some (.int .i64 (if b = true then max a c else min a c)) := by
  cases b
  · simp only [minsA, minA, cond_false]
    congr 2
    simp only [Int.min_def]
    split <;> split <;> simp_all <;> omega
  · simp only [minsA, minA, cond_true]
    congr 2
    simp only [Int.max_def]
    split <;> split <;> simp_all <;> omega
theorem wrap_in {x : Int} (h1 : -9223372036854775808 ≤ x) (h2 : x ≤ 9223372036854775807) : IntKind.i64.wrap x = x := IntWalk.i64_in _ ⟨h1, h2⟩
theorem wrap_nat {n : Nat} (h : n ≤ 4611686018427387904) : IntKind.i64.wrap (n : Int) = (n : Int) := IntWalk.i64_in _ (by omega)
theorem wrap_add1 {n : Nat} (h : n ≤ 4611686018427387904) : IntKind.i64.wrap ((n : Int) + 1) = ((n + 1 : Nat) : Int) := by
  rw [IntWalk.i64_in _ (by omega)]; omega
theorem wrap_sub1 {n : Nat} (h : n ≤ 4611686018427387904) : IntKind.i64.wrap (((n + 1 : Nat) : Int) - 1) = (n : Int) := by
  rw [IntWalk.i64_in _ (by omega)]; omega
namespace Ap
mutual
def Val.sz : Val → Nat
  | .mk _ _ ns vs => 1 + ns.length + valsSz vs
def valsSz : List Val → Nat
  | [] => 0
  | v :: vs => v.sz + valsSz vs
end
end Ap
end Go.Av
namespace Go.Av
def idxAt {α : Type} (F : α → Bool) : List α → Int → Int
  | [], _ => -1
  | x :: l, i => if F x = true then i else idxAt F l (i + 1)
theorem idxAt_ge {α : Type} (F : α → Bool) : (l : List α) → (i : Int) → 0 ≤ i → (0 ≤ idxAt F l i ↔ l.any F = true)
  | [], i, _ => by simp [idxAt]
  | x :: l, i, h => by
    simp only [idxAt]
    split
    · rename_i hx; simp [hx, h]
    · rename_i hx; rw [idxAt_ge F l (i + 1) (by omega)]; simp [hx]
theorem idxAt_any {α : Type} (F : α → Bool) (l : List α) : decide (0 ≤ idxAt F l 0) = l.any F := by
  have := idxAt_ge F l 0 (by omega)
  cases h : l.any F with
  | true => simp [this.2 h]
  | false => simp only [decide_eq_false_iff_not]; intro hh; rw [this.1 hh] at h; cases h
end Go.Av
namespace Go.Av
@[simp] theorem natCast_beq (a b : Nat) : ((a : Int) == (b : Int)) = (a == b) := by rw [Bool.eq_iff_iff]; simp; omega
@[simp] theorem natCast_beq0 (a : Nat) : ((a : Int) == 0) = (a == 0) := by rw [Bool.eq_iff_iff]; simp
@[simp] theorem natCast_bne (a b : Nat) : ((a : Int) != (b : Int)) = (a != b) := by rw [Bool.eq_iff_iff]; simp; omega
end Go.Av
namespace Go.Av
def all2 {α β : Type} (F : α → β → Bool) : List α → List β → Bool
  | x :: l, y :: r => F x y && all2 F l r
  | [], [] => true
  | _, _ => false
theorem all2_drop {α β : Type} (F : α → β → Bool) (a : List α) (b : List β) (i : Nat) (h1 : i < a.length) (h2 : i < b.length) : all2 F (a.drop i) (b.drop i) = (F a[i] b[i] && all2 F (a.drop (i + 1)) (b.drop (i + 1))) := by
  rw [List.drop_eq_getElem_cons h1, List.drop_eq_getElem_cons h2]
  rfl
theorem all2_length {α β : Type} (F : α → β → Bool) : (a : List α) → (b : List β) → a.length ≠ b.length → all2 F a b = false
  | [], [], h => absurd rfl h
  | [], _ :: _, _ => rfl
  | _ :: _, [], _ => rfl
  | x :: a, y :: b, h => by
    have := all2_length F a b (by simpa using h)
    simp [all2, this]
end Go.Av
namespace Go.Av
open Ap
@[simp high] theorem cellsM_val (x : Val) : cellsM 4 (Val.av x) = M.pure (Val.av x) := by rw [cellsM_of (okEl_val x), acells_val, fold_val]
@[simp high] theorem cellsNil_val (x : Val) : cellsNil 4 [] (Val.av x) = M.pure (Val.av x) := by rw [cellsNil_of (okEl_val x), acells_val, fold_val]
@[simp high] theorem cellsM_exp (x : Exp) : cellsM 6 (Exp.av x) = M.pure (Exp.av x) := by rw [cellsM_of (okEl_exp x), acells_exp, fold_exp]
@[simp high] theorem cellsNil_exp (x : Exp) : cellsNil 6 [] (Exp.av x) = M.pure (Exp.av x) := by rw [cellsNil_of (okEl_exp x), acells_exp, fold_exp]
@[simp high] theorem cellsM_fld (x : Fld) : cellsM 3 (fldAv x) = M.pure (fldAv x) := by rw [cellsM_of (okEl_fld x), acells_fld, fold_fld]
@[simp high] theorem cellsNil_fld (x : Fld) : cellsNil 3 [] (fldAv x) = M.pure (fldAv x) := by rw [cellsNil_of (okEl_fld x), acells_fld, fold_fld]
@[simp high] theorem cellsM_fun (x : Fun) : cellsM 12 (Fun.av x) = M.pure (Fun.av x) := by rw [cellsM_of (okEl_fun x), acells_fun, fold_fun]
@[simp high] theorem cellsNil_fun (x : Fun) : cellsNil 12 [] (Fun.av x) = M.pure (Fun.av x) := by rw [cellsNil_of (okEl_fun x), acells_fun, fold_fun]
@[simp high] theorem cellsM_mod (x : Mod) : cellsM 9 (Mod.av x) = M.pure (Mod.av x) := by rw [cellsM_of (okEl_mod x), acells_mod, fold_mod]
@[simp high] theorem cellsNil_mod (x : Mod) : cellsNil 9 [] (Mod.av x) = M.pure (Mod.av x) := by rw [cellsNil_of (okEl_mod x), acells_mod, fold_mod]
@[simp high] theorem cellsM_vars (x : Vars) : cellsM 2 (Vars.av x) = M.pure (Vars.av x) := by rw [cellsM_of (okEl_vars x), acells_vars, fold_vars]
@[simp high] theorem cellsNil_vars (x : Vars) : cellsNil 2 [] (Vars.av x) = M.pure (Vars.av x) := by rw [cellsNil_of (okEl_vars x), acells_vars, fold_vars]
@[simp high] theorem cellsM_deed (x : Deed) : cellsM 3 (Deed.av x) = M.pure (Deed.av x) := by rw [cellsM_of (okEl_deed x), acells_deed, fold_deed]
@[simp high] theorem cellsNil_deed (x : Deed) : cellsNil 3 [] (Deed.av x) = M.pure (Deed.av x) := by rw [cellsNil_of (okEl_deed x), acells_deed, fold_deed]
@[simp high] theorem cellsM_call (x : Ap.Call) : cellsM 3 (Ap.Call.av x) = M.pure (Ap.Call.av x) := by rw [cellsM_of (okEl_call x), acells_call, fold_call]
@[simp high] theorem cellsNil_call (x : Ap.Call) : cellsNil 3 [] (Ap.Call.av x) = M.pure (Ap.Call.av x) := by rw [cellsNil_of (okEl_call x), acells_call, fold_call]
@[simp high] theorem cellsM_out (x : Ap.Out) : cellsM 8 (Ap.Out.av x) = M.pure (Ap.Out.av x) := by rw [cellsM_of (okEl_out x), acells_out, fold_out]
@[simp high] theorem cellsNil_out (x : Ap.Out) : cellsNil 8 [] (Ap.Out.av x) = M.pure (Ap.Out.av x) := by rw [cellsNil_of (okEl_out x), acells_out, fold_out]
@[simp] theorem okEl_ty (t : Ty) : okEl 2 t.av = true := by simp [okEl, okCell, flds]
@[simp high] theorem cellsM_ty (x : Ty) : cellsM 2 (Ty.av x) = M.pure (Ty.av x) := by rw [cellsM_of (okEl_ty x), acells_ty, fold_ty]
@[simp high] theorem cellsNil_ty (x : Ty) : cellsNil 2 [] (Ty.av x) = M.pure (Ty.av x) := by rw [cellsNil_of (okEl_ty x), acells_ty, fold_ty]
end Go.Av
namespace Go.Av
@[simp] theorem ite_pure_bool (c : Prop) [Decidable c] (a b : Bool) : (if c then (M.pure (.bool a) : M AV) else M.pure (.bool b)) = M.pure (.bool (if c then a else b)) := by split <;> rfl
@[simp] theorem ite_pure_int (c : Prop) [Decidable c] (a b : Int) : (if c then (M.pure (.int .i64 a) : M AV) else M.pure (.int .i64 b)) = M.pure (.int .i64 (if c then a else b)) := by split <;> rfl
end Go.Av

/- Counting loops of shallow programs as plain recursions. No condition. -/
namespace Go.Av
theorem fix_all {F : (List AV → M AV) → List AV → M AV} (hF : ∀ vs, fixW F vs = F (fixW F) vs) (st : Nat → List AV) (n : Nat) (G : Nat → Bool)
    (hend : F (fixW F) (st n) = M.pure (.bool true)) (hstep : ∀ k, k < n → F (fixW F) (st k) = if G k = true then fixW F (st (k + 1)) else M.pure (.bool false)) :
    ∀ k, k ≤ n → fixW F (st k) = M.pure (.bool ((List.range' k (n - k)).all G)) := by
  have key : ∀ r k, n - k = r → k ≤ n → fixW F (st k) = M.pure (.bool ((List.range' k r).all G)) := by
    intro r
    induction r with
    | zero =>
      intro k hr hk
      obtain rfl : k = n := by omega
      rw [hF, hend]
      rfl
    | succ r ih =>
      intro k hr hk
      rw [hF, hstep k (by omega), ih (k + 1) (by omega) (by omega)]
      simp only [List.range'_succ, List.all_cons]
      cases G k <;> rfl
  exact fun k hk => key (n - k) k rfl hk
theorem all_range' {α : Type} [Inhabited α] (P : α → Bool) (l : List α) : (List.range' 0 l.length).all (fun k => P l[k]!) = l.all P := by
  rw [Bool.eq_iff_iff]
  simp only [List.all_eq_true, List.mem_range'_1]
  constructor
  · intro h x hx
    obtain ⟨i, hi, rfl⟩ := List.getElem_of_mem hx
    have := h i ⟨Nat.zero_le _, by omega⟩
    rwa [getElem!_pos l i hi] at this
  · intro h k hk
    have hk' : k < l.length := by omega
    rw [getElem!_pos l k hk']
    exact h _ (List.getElem_mem hk')
theorem all_range2 {α β : Type} [Inhabited α] [Inhabited β] (P : α → β → Bool) : (a : List α) → (b : List β) → a.length = b.length → (List.range' 0 a.length).all (fun k => P a[k]! b[k]!) = all2 P a b
  | [], [], _ => rfl
  | x :: a, y :: b, h => by
    have ih := all_range2 P a b (by simpa using h)
    simp only [List.length_cons, List.range'_succ, List.all_cons, all2]
    congr 1
    rw [← ih]
    rw [Bool.eq_iff_iff]
    simp only [List.all_eq_true, List.mem_range'_1]
    constructor
    · intro h k hk
      have := h (k + 1) (by omega)
      simpa using this
    · intro h k hk
      obtain ⟨j, rfl⟩ : ∃ j, k = j + 1 := ⟨k - 1, by omega⟩
      simpa using h j (by omega)
  | [], _ :: _, h => by simp at h
  | _ :: _, [], h => by simp at h
end Go.Av

/- The law's guards on sizes, as pure functions. No condition. -/
namespace Go.Av.Ap
open Go Go.Av
def Val.limN : Nat → Val → Prop
  | 0, _ => True
  | n + 1, v => v.names.length ≤ 140737488355328 ∧ v.values.length ≤ 140737488355328 ∧ ∀ x ∈ v.values, x.limN n
def Val.Lim (v : Val) : Prop := ∀ n, v.limN n
def Exp.limN : Nat → Exp → Prop
  | 0, _ => True
  | n + 1, v => v.names.length ≤ 8796093022208 ∧ v.args.length ≤ 140737488355328 ∧ ∀ x ∈ v.args, x.limN n
def Exp.Lim (v : Exp) : Prop := ∀ n, v.limN n
def Ty.limN : Nat → Ty → Prop
  | 0, _ => True
  | n + 1, v => v.fields.length ≤ 140737488355328 ∧ ∀ x ∈ v.fields, x.2.limN n
def Ty.Lim (v : Ty) : Prop := ∀ n, v.limN n
theorem Val.Lim.names {v : Val} (h : v.Lim) : v.names.length ≤ 140737488355328 := (h 1).1
theorem Val.Lim.len {v : Val} (h : v.Lim) : v.values.length ≤ 140737488355328 := (h 1).2.1
theorem Val.Lim.kid {v : Val} (h : v.Lim) {x : Val} (hx : x ∈ v.values) : x.Lim := fun n => (h (n + 1)).2.2 x hx
theorem Exp.Lim.names {v : Exp} (h : v.Lim) : v.names.length ≤ 8796093022208 := (h 1).1
theorem Exp.Lim.len {v : Exp} (h : v.Lim) : v.args.length ≤ 140737488355328 := (h 1).2.1
theorem Exp.Lim.kid {v : Exp} (h : v.Lim) {x : Exp} (hx : x ∈ v.args) : x.Lim := fun n => (h (n + 1)).2.2 x hx
theorem Ty.Lim.len {v : Ty} (h : v.Lim) : v.fields.length ≤ 140737488355328 := (h 1).1
theorem Ty.Lim.kid {v : Ty} (h : v.Lim) {x : Fld} (hx : x ∈ v.fields) : x.2.Lim := fun n => (h (n + 1)).2 x hx
structure Fun.Lim (f : Fun) : Prop where
  params : f.params.length ≤ 140737488355328
  pty : ∀ x ∈ f.params, x.2.Lim
  result : f.result.Lim
  body : f.body.Lim
structure Mod.Lim (m : Mod) : Prop where
  uses : m.uses.length ≤ 140737488355328
  vars : m.vars.length ≤ 140737488355328
  vty : ∀ x ∈ m.vars, x.2.Lim
  init : m.init.length ≤ 140737488355328
  ies : ∀ e ∈ m.init, e.Lim
  funcs : m.funcs.length ≤ 140737488355328
  fns : ∀ f ∈ m.funcs, f.Lim
  old : m.old.length ≤ 140737488355328
  oty : ∀ x ∈ m.old, x.2.Lim
  forward : m.forward.length ≤ 140737488355328
  fes : ∀ e ∈ m.forward, e.Lim
  back : m.back.length ≤ 140737488355328
  bes : ∀ e ∈ m.back, e.Lim
end Go.Av.Ap

/- What the functions on types, interfaces and changes compute, as plain functions. No condition. -/
namespace Go.Av.Ap
open Go Go.Av
def letterB (b : UInt8) : Bool := decide (97 ≤ b.toNat) && decide (b.toNat ≤ 122)
def digitB (b : UInt8) : Bool := decide (48 ≤ b.toNat) && decide (b.toNat ≤ 57)
def alnumB (b : UInt8) : Bool := letterB b || digitB b
def wordP (s : Str) : Bool := !(s == []) && letterB (s.headD 0) && decide (s.length ≤ 20) && ((s.takeWhile alnumB).length == s.length)
def reservedS : Str := [32, 97, 110, 100, 32, 98, 97, 99, 107, 32, 98, 111, 111, 108, 32, 99, 108, 111, 99, 107, 32, 101, 108, 115, 101, 32, 102, 97, 108, 115, 101, 32, 102, 105, 108, 101, 115, 32, 102, 110, 32, 102, 111, 114, 119, 97, 114, 100, 32, 103, 101, 116, 32, 105, 102, 32, 105, 110, 32, 105, 110, 116, 32, 108, 101, 116, 32, 109, 111, 100, 117, 108, 101, 32, 109, 111, 118, 101, 32, 110, 101, 116, 32, 110, 111, 116, 32, 111, 114, 32, 112, 117, 98, 32, 115, 101, 99, 114, 101, 116, 115, 32, 115, 101, 116, 32, 116, 104, 101, 110, 32, 116, 114, 117, 101, 32, 117, 115, 101, 32, 118, 97, 114, 32]
def nameP (s : Str) : Bool := wordP s && !(Lib.contains reservedS ([32] ++ s ++ [32]))
theorem wordP_len {s : Str} (h : wordP s = true) : s.length ≤ 20 := by
  unfold wordP at h
  simp only [Bool.and_eq_true, decide_eq_true_eq] at h
  exact h.1.2
def aheadB (p f : Str) : Bool := !(strLess f p || f == p)
def ascQ {α : Type} (Q : α → α → Bool) : List α → Bool
  | x :: y :: r => Q x y && ascQ Q (y :: r)
  | _ => true
theorem ascQ_iff {α : Type} [Inhabited α] (Q : α → α → Bool) : (l : List α) → (ascQ Q l = true ↔ ∀ k, k + 1 < l.length → Q l[k]! l[k + 1]! = true)
  | [] => by simp [ascQ]
  | [x] => by simp [ascQ]
  | x :: y :: r => by
    simp only [ascQ, Bool.and_eq_true, ascQ_iff Q (y :: r)]
    constructor
    · rintro ⟨h1, h2⟩ k hk
      cases k with
      | zero => simpa using h1
      | succ k => simpa using h2 k (by simpa using hk)
    · intro h
      refine ⟨by simpa using h 0 (by simp), fun k hk => ?_⟩
      simpa using h (k + 1) (by simpa using hk)
theorem all_asc {α : Type} [Inhabited α] (P : α → Bool) (Q : α → α → Bool) (l : List α) : (List.range' 0 l.length).all (fun k => P l[k]! && (decide (k = 0) || Q l[k - 1]! l[k]!)) = (l.all P && ascQ Q l) := by
  rw [Bool.eq_iff_iff, Bool.and_eq_true, ← all_range' P l, ascQ_iff]
  simp only [List.all_eq_true, List.mem_range'_1, Bool.and_eq_true, Bool.or_eq_true, decide_eq_true_eq]
  constructor
  · intro h
    refine ⟨fun k hk => (h k hk).1, fun k hk => ?_⟩
    have := (h (k + 1) ⟨Nat.zero_le _, by omega⟩).2
    rcases this with h0 | h1
    · omega
    · simpa using h1
  · rintro ⟨h1, h2⟩ k hk
    refine ⟨h1 k hk, ?_⟩
    cases k with
    | zero => exact .inl rfl
    | succ k => exact .inr (by simpa using h2 k (by omega))
def rightN : Nat → Ty → Bool
  | 0, _ => false
  | d + 1, t => decide (0 ≤ t.kind) && decide (t.kind < 3) && decide (t.fields.length ≤ 8) && (t.kind == 2 || t.fields.length == 0) && (t.fields.all (fun f => nameP f.1 && rightN d f.2) && ascQ (fun a b => aheadB a.1 b.1) t.fields)
theorem rightN_succ (d : Nat) (t : Ty) : rightN (d + 1) t = (decide (0 ≤ t.kind) && decide (t.kind < 3) && decide (t.fields.length ≤ 8) && (t.kind == 2 || t.fields.length == 0) && (t.fields.all (fun f => nameP f.1 && rightN d f.2) && ascQ (fun a b => aheadB a.1 b.1) t.fields)) := rfl
abbrev rightT (t : Ty) : Bool := rightN 4 t
mutual
def belowB : Ty → Ty → Bool
  | .mk k fs, a => a.kind == k && belowFs fs a.fields
def belowFs : List (Str × Ty) → List Fld → Bool
  | [], _ => true
  | f :: fs, l => belowF f l && belowFs fs l
def belowF : Str × Ty → List Fld → Bool
  | (n, t), l => match lastF (fun z => z.1 == n) l with
    | some z => belowB t z.2
    | none => false
end
def belowT (a b : Ty) : Bool := belowB b a
theorem belowFs_all : (fs : List Fld) → (l : List Fld) → belowFs fs l = fs.all fun f => belowF f l
  | [], _ => rfl
  | f :: fs, l => by simp [belowFs, belowFs_all fs l]
theorem belowT_eq (a b : Ty) : belowT a b = (a.kind == b.kind && b.fields.all fun f => match lastF (fun z => z.1 == f.1) a.fields with | some z => belowT z.2 f.2 | none => false) := by
  cases b with
  | mk k fs =>
    show belowB (.mk k fs) a = _
    simp only [belowB, belowFs_all, Ty.kind, Ty.fields]
    congr 2
    funext f
    obtain ⟨n, t⟩ := f
    simp only [belowF, belowT]
def subT (a b : Ty) : Bool := rightT a && rightT b && belowT a b
def exceeds (a b : Int) : Int := IntKind.i64.wrap (BitVec.ofInt 64 a &&& ~~~ BitVec.ofInt 64 b).toNat
def subS (a b : Sig) : Bool := all2 subT b.params a.params && subT a.result b.result && (exceeds a.effects b.effects == 0)
def rightS (s : Sig) : Bool := nameP s.name && decide (s.params.length ≤ 6) && (exceeds s.effects 15 == 0) && rightT s.result && s.params.all rightT
def rightFc (f : Face) : Bool := nameP f.module && decide (f.funcs.length ≤ 30) && (f.funcs.all rightS && ascQ (fun a b => strLess a.name b.name) f.funcs)
def findS (f : Face) (name : Str) : Option Sig := f.funcs.find? fun s => s.name == name
def keepsB (now : Face) (f : Sig) : Bool := match findS now f.name with
  | some g => subS g f
  | none => false
def lostS (old now : Face) : Option Sig := old.funcs.find? fun f => !(keepsB now f)
def matchF (old now : Face) : Bool := old.module == now.module && rightFc old && rightFc now
def compareF (old now : Face) : Int × Str := if matchF old now = true then (match lostS old now with
    | some f => (2, f.name)
    | none => match lostS now old with
      | some _ => (1, [])
      | none => (0, [])) else (2, [])
structure Sig.Lim (s : Sig) : Prop where
  plen : s.params.length ≤ 140737488355328
  ptys : ∀ t ∈ s.params, t.Lim
  result : s.result.Lim
structure Face.Lim (f : Face) : Prop where
  len : f.funcs.length ≤ 140737488355328
  sigs : ∀ s ∈ f.funcs, s.Lim
@[simp] theorem cellsM_sig (x : Sig) : cellsM 5 x.av = M.pure x.av := by rw [cellsM_of (okEl_sig x), acells_sig, fold_sig]
@[simp] theorem cellsNil_sig (x : Sig) : cellsNil 5 [] x.av = M.pure x.av := by rw [cellsNil_of (okEl_sig x), acells_sig, fold_sig]
end Go.Av.Ap

/- Laws of the comparison of interfaces: it is reflexive on right ones, symmetric in 'the same' and transitive. No condition. -/
namespace Go.Av.Ap
open Go Go.Av
theorem strLess_irrefl : (a : Str) → strLess a a = false
  | [] => rfl
  | x :: a => by simp [strLess, strLess_irrefl a]
theorem strLess_trans : (a b c : Str) → strLess a b = true → strLess b c = true → strLess a c = true
  | _, [], c, h, _ => by cases ‹Str› <;> simp [strLess] at h
  | _, _ :: _, [], _, h => by simp [strLess] at h
  | [], _ :: _, _ :: _, _, _ => by simp [strLess]
  | x :: a, y :: b, z :: c, h1, h2 => by
    simp only [strLess, Bool.or_eq_true, Bool.and_eq_true, decide_eq_true_eq, beq_iff_eq, UInt8.lt_iff_toNat_lt] at h1 h2 ⊢
    rcases h1 with h1 | ⟨rfl, h1⟩
    · rcases h2 with h2 | ⟨rfl, h2⟩
      · exact .inl (by omega)
      · exact .inl h1
    · rcases h2 with h2 | ⟨rfl, h2⟩
      · exact .inl h2
      · exact .inr ⟨rfl, strLess_trans a b c h1 h2⟩
theorem strLess_total : (a b : Str) → strLess a b = false → a ≠ b → strLess b a = true
  | [], [], _, h => absurd rfl h
  | [], _ :: _, h, _ => by simp [strLess] at h
  | _ :: _, [], _, _ => by simp [strLess]
  | x :: a, y :: b, h1, h2 => by
    simp only [strLess, Bool.or_eq_false_iff, decide_eq_false_iff_not, Bool.or_eq_true, Bool.and_eq_true, decide_eq_true_eq, beq_iff_eq, UInt8.lt_iff_toNat_lt] at h1 ⊢
    by_cases e : x = y
    · subst e
      refine .inr ⟨rfl, strLess_total a b ?_ fun e => h2 (by rw [e])⟩
      simpa using h1.2
    · refine .inl ?_
      have : x.toNat ≠ y.toNat := fun e' => e (UInt8.toNat_inj.1 e')
      omega
theorem aheadB_iff (p f : Str) : aheadB p f = true ↔ strLess p f = true := by
  unfold aheadB
  rw [Bool.not_eq_true', Bool.or_eq_false_iff]
  constructor
  · rintro ⟨h1, h2⟩
    exact strLess_total f p h1 (beq_eq_false_iff_ne.1 h2)
  · intro h
    refine ⟨?_, ?_⟩
    · cases hc : strLess f p with
      | false => rfl
      | true => exact absurd (strLess_trans _ _ _ h hc) (by simp [strLess_irrefl])
    · rw [beq_eq_false_iff_ne]
      rintro rfl
      rw [strLess_irrefl] at h
      cases h
theorem lastF_sat {α : Type} {p : α → Bool} : {l : List α} → {x : α} → lastF p l = some x → p x = true ∧ x ∈ l
  | z :: l, x, h => by
    unfold lastF at h
    cases hl : lastF p l with
    | some y =>
      rw [hl] at h
      cases h
      exact ⟨(lastF_sat hl).1, by simp [(lastF_sat hl).2]⟩
    | none =>
      rw [hl] at h
      cases hz : p z with
      | false => rw [hz] at h; cases h
      | true =>
        rw [hz] at h
        cases h
        exact ⟨hz, by simp⟩
theorem fld_lt {t : Ty} {f : Fld} (h : f ∈ t.fields) : SizeOf.sizeOf f.2 < SizeOf.sizeOf t := by
  cases t with
  | mk k fs =>
    have h1 : SizeOf.sizeOf f < SizeOf.sizeOf fs := List.sizeOf_lt_of_mem h
    obtain ⟨n, u⟩ := f
    simp only [Prod.mk.sizeOf_spec] at h1
    simp only [Ty.mk.sizeOf_spec]
    omega
theorem exceeds_iff (a b : Int) : (exceeds a b == 0) = true ↔ BitVec.ofInt 64 a &&& ~~~ BitVec.ofInt 64 b = 0#64 := by
  unfold exceeds
  generalize BitVec.ofInt 64 a &&& ~~~ BitVec.ofInt 64 b = v
  have hv := v.isLt
  rw [beq_iff_eq]
  constructor
  · intro h
    apply BitVec.eq_of_toNat_eq
    show v.toNat = 0
    have e : IntKind.i64.wrap (v.toNat : Int) = if decide ((v.toNat : Int) % 18446744073709551616 ≥ 9223372036854775808) = true then (v.toNat : Int) % 18446744073709551616 - 18446744073709551616 else (v.toNat : Int) % 18446744073709551616 := rfl
    rw [e] at h
    split at h <;> omega
  · intro h
    rw [h]
    rfl
theorem findS_name {f : Face} {n : Str} {s : Sig} (h : findS f n = some s) : s.name = n ∧ s ∈ f.funcs := ⟨beq_iff_eq.1 (List.find?_some (p := fun s : Sig => s.name == n) h), List.mem_of_find?_eq_some h⟩
theorem matchF_iff (a b : Face) : matchF a b = true ↔ a.module = b.module ∧ rightFc a = true ∧ rightFc b = true := by
  unfold matchF
  simp only [Bool.and_eq_true, beq_iff_eq, and_assoc]
end Go.Av.Ap

/- The names of the reference are the names of the program. No condition. -/
namespace Go.Av.Ap
open Go Go.Av
def anyTail (b : Str) : Str → Bool
  | [] => b.isEmpty
  | x :: l => b.isPrefixOf (x :: l) || anyTail b l
theorem contains_tail (b : Str) : (a : Str) → Lib.contains a b = anyTail b a
  | [] => by
    cases b <;> rfl
  | x :: l => by
    have ih := contains_tail b l
    unfold Lib.contains at ih ⊢
    unfold Lib.index anyTail
    rw [← ih]
    cases h : b.isPrefixOf (x :: l) with
    | true => simp
    | false =>
      have hg := Lib.index_ge l b
      by_cases h1 : Lib.index l b = -1
      · simp [h1]
      · have h2 : (Lib.index l b == -1) = false := beq_eq_false_iff_ne.2 h1
        have h3 : decide (0 ≤ Lib.index l b) = true := decide_eq_true (by omega)
        have h4 : decide (0 ≤ Lib.index l b + 1) = true := decide_eq_true (by omega)
        simp only [Bool.false_eq_true, if_false, h2, Bool.false_or, h3, h4]
def blockOf : Str → Option Str
  | [] => none
  | x :: r => if x = 32 then some [] else (blockOf r).map (x :: ·)
def blocks : Str → List Str
  | [] => []
  | x :: r => if x = 32 then (match blockOf r with
      | some w => w :: blocks r
      | none => blocks r) else blocks r
theorem block_pre : (s t : Str) → (∀ x ∈ s, x ≠ 32) → (s ++ [32]).isPrefixOf t = (blockOf t == some s)
  | [], [], _ => rfl
  | [], x :: r, _ => by
    simp only [List.nil_append, List.isPrefixOf, Bool.and_true, blockOf]
    by_cases h : x = 32
    · subst h; simp
    · have : ((32 : UInt8) == x) = false := beq_eq_false_iff_ne.2 fun e => h e.symm
      rw [this, if_neg h]
      cases blockOf r <;> simp
  | a :: s, [], _ => rfl
  | a :: s, x :: r, h => by
    have ih := block_pre s r fun y hy => h y (by simp [hy])
    have ha := h a (by simp)
    simp only [List.cons_append, List.isPrefixOf, ih, blockOf]
    by_cases hx : x = 32
    · subst hx
      have : (a == (32 : UInt8)) = false := beq_eq_false_iff_ne.2 ha
      rw [this, if_pos rfl]
      simp
    · rw [if_neg hx]
      cases hb : blockOf r with
      | none => simp
      | some w =>
        rw [Bool.eq_iff_iff]
        simp only [Bool.and_eq_true, beq_iff_eq, Option.some.injEq, Option.map_some, List.cons.injEq]
        exact ⟨fun ⟨e1, e2⟩ => ⟨e1.symm, e2⟩, fun ⟨e1, e2⟩ => ⟨e1.symm, e2⟩⟩
theorem tail_blocks (s : Str) (h : ∀ x ∈ s, x ≠ 32) : (l : Str) → anyTail ([32] ++ s ++ [32]) l = (blocks l).contains s
  | [] => rfl
  | x :: r => by
    have ih := tail_blocks s h r
    unfold anyTail blocks
    rw [ih]
    have e : ([32] ++ s ++ [32] : Str).isPrefixOf (x :: r) = ((32 : UInt8) == x && (s ++ [32]).isPrefixOf r) := rfl
    rw [e, block_pre s r h]
    by_cases hx : x = 32
    · subst hx
      rw [if_pos rfl]
      cases hb : blockOf r with
      | none => simp
      | some w =>
        simp only [beq_self_eq_true, Bool.true_and, List.contains_cons]
        congr 1
        rw [Bool.eq_iff_iff, beq_iff_eq, beq_iff_eq, Option.some.injEq]
        exact eq_comm
    · have : ((32 : UInt8) == x) = false := beq_eq_false_iff_ne.2 fun e => hx e.symm
      rw [if_neg hx, this]
      simp
def reservedL : List Str := [[97, 110, 100], [98, 97, 99, 107], [98, 111, 111, 108], [99, 108, 111, 99, 107], [101, 108, 115, 101], [102, 97, 108, 115, 101], [102, 105, 108, 101, 115], [102, 110], [102, 111, 114, 119, 97, 114, 100], [103, 101, 116], [105, 102], [105, 110], [105, 110, 116], [108, 101, 116], [109, 111, 100, 117, 108, 101], [109, 111, 118, 101], [110, 101, 116], [110, 111, 116], [111, 114], [112, 117, 98], [115, 101, 99, 114, 101, 116, 115], [115, 101, 116], [116, 104, 101, 110], [116, 114, 117, 101], [117, 115, 101], [118, 97, 114]]
theorem blocks_reserved : blocks reservedS = reservedL := by decide +kernel
theorem take_all {α : Type} (p : α → Bool) : (l : List α) → ((l.takeWhile p).length == l.length) = l.all p
  | [] => rfl
  | x :: l => by
    cases h : p x with
    | true => simp [h, ← take_all p l]
    | false => simp [h]
theorem wordP_eq (s : Str) : wordP s = (!(s == []) && decide (s.length ≤ 20) && letterB (s.headD 0) && (s.drop 1).all alnumB) := by
  unfold wordP
  rw [take_all]
  cases s with
  | nil => rfl
  | cons x s =>
    simp only [List.headD_cons, List.all_cons, List.drop_succ_cons, List.drop_zero]
    have e : ((x :: s : Str) == []) = false := rfl
    rw [e]
    have h : alnumB x = (letterB x || digitB x) := rfl
    cases hl : letterB x <;> simp [h, hl]
theorem word_no32 {s : Str} (h : wordP s = true) : ∀ x ∈ s, x ≠ 32 := by
  unfold wordP at h
  rw [take_all] at h
  simp only [Bool.and_eq_true, List.all_eq_true] at h
  rintro x hx rfl
  have := h.2 _ hx
  revert this
  decide
theorem nameP_ref (s : Str) : nameP s = (wordP s && !(reservedL.contains s)) := by
  unfold nameP
  cases h : wordP s with
  | false => rfl
  | true => rw [contains_tail, tail_blocks s (word_no32 h), blocks_reserved]
end Go.Av.Ap

/- A slice of told elements in a row of the heap. No condition. -/
namespace Go.Av.Ap
open Go Go.Av
section
variable {α : Type} {f : α → AV} {sz : Nat}
def rowOf (f : α → AV) (l : List α) : List AV := (l.map f).flatMap acells
theorem rowOf_cons (x : α) (l : List α) : rowOf f (x :: l) = acells (f x) ++ rowOf f l := by simp [rowOf]
theorem rowOf_len (hs : ∀ x, (acells (f x)).length = sz) : (l : List α) → (rowOf f l).length = l.length * sz
  | [] => by simp [rowOf]
  | x :: l => by rw [rowOf_cons, List.length_append, hs, rowOf_len hs l, List.length_cons, Nat.succ_mul]; omega
theorem rowOf_chunk (hs : ∀ x, (acells (f x)).length = sz) : (l : List α) → (i : Nat) → (h : i < l.length) → ((rowOf f l).drop (i * sz)).take sz = acells (f l[i])
  | x :: l, 0, _ => by
    rw [rowOf_cons, Nat.zero_mul, List.drop_zero, List.take_left' (hs x)]
    rfl
  | x :: l, i + 1, h => by
    rw [rowOf_cons, show (i + 1) * sz = (acells (f x)).length + i * sz by rw [hs, Nat.succ_mul]; omega, List.drop_append, List.drop_eq_nil_of_le (by omega), Nat.add_sub_cancel_left, List.nil_append]
    simpa using rowOf_chunk hs l i (by simpa using h)
theorem setCells_same {cs xs : List AV} {off : Nat} (h : (cs.drop off).take xs.length = xs) : setCells cs off xs = cs := by
  unfold setCells
  conv => lhs; rw [← h]
  rw [List.append_assoc]
  have : cs.take off ++ ((cs.drop off).take xs.length ++ cs.drop (off + ((cs.drop off).take xs.length).length)) = cs := by
    rw [h, ← List.drop_drop]
    conv => lhs; rw [show xs ++ List.drop xs.length (List.drop off cs) = (cs.drop off).take xs.length ++ List.drop xs.length (List.drop off cs) by rw [h]]
    rw [List.take_append_drop, List.take_append_drop]
  exact this
theorem frz_rowOf (hs : ∀ x, (acells (f x)).length = sz) (hag : ∀ x, f x = .agg (acells (f x))) (hcl : ∀ x g, cl g (f x) = f x) (hz : 0 < sz) {h : Hp} {q : Nat} {l : List α} (hq : h[q]? = some (rowOf f l)) (d : Nat) :
    frz (d + 1) h (.hs q 0 l.length sz true) = .sl (l.map f) := by
  have hlen := rowOf_len (f := f) hs l
  simp only [frz, cl, hq]
  have h1 : (decide (0 + l.length * sz ≤ (rowOf f l).length) && decide (0 < sz) && (true || (Nat.beq sz 1 && (rowOf f l).all okCell))) = true := by
    simp [hlen, hz]
  rw [h1, cond_true]
  congr 1
  apply List.ext_getElem
  · simp
  · intro i h2 h3
    have hi : i < l.length := by simpa using h2
    simp only [List.getElem_map, List.getElem_range, Nat.zero_add, cond_true]
    rw [rowOf_chunk hs l i hi, ← hag]
    cases d with
    | zero => exact hcl _ _
    | succ d => exact hcl _ _
theorem cloneH_map {T : TT} {t e : Nat} {ti ei : TI} (ht : T t = some ti) (hk : ti.kind = .slice e) (he : T e = some ei) (h4 : ei.size = sz) (hag : ei.agg = true) (hb : 0 < ei.bytes) (hz : 0 < sz) (hok : ∀ x, okEl sz (f x) = true) (call : FuncId → List AV → M AV) (l : List α) (hc : l.length * ei.bytes ≤ 140737488355328) (h : Hp) :
    cloneH T t call [.sl (l.map f)] h = if l = [] then .ok (.sl []) h else .ok (.hs h.length 0 l.length sz true) (h ++ [rowOf f l]) := by
  have h1 : okSz sz (l.map f) = true := okSz_map hok l
  cases l with
  | nil => simp [cloneH, appH, ht, hk, he, elsOf, hb, h4, strOk, okSz, hz]
  | cons v l =>
    have hne : ((v :: l).map f).isEmpty = false := rfl
    unfold cloneH appH
    simp only [ht, hk, he, elsOf, h4, h1, hb, hz, strOk, decide_true, Bool.and_self, Bool.and_true, cond_true, hne, cond_false, List.length_map, hag]
    rw [decide_eq_true hc]
    simp [rowOf]
end
theorem loadH_row {T : TT} {t : Nat} {ti : TI} {q off : Nat} {cs : List AV} {h : Hp} (ht : T t = some ti) (hag : ti.agg = true) (hq : h[q]? = some cs) (hle : off + ti.size ≤ cs.length) : loadH T t (.hp q off) h = .ok (.agg ((cs.drop off).take ti.size)) h := by
  simp only [loadH, ht, hq, hag, cond_true]
  rw [if_pos hle]
theorem storeH_same {T : TT} {t : Nat} {ti : TI} {q off : Nat} {cs : List AV} {v : AV} {h : Hp} (ht : T t = some ti) (hq : h[q]? = some cs) (hok : okEl ti.size v = true) (hle : off + ti.size ≤ cs.length) (h0 : 0 < ti.size) (hsame : (cs.drop off).take (acells v).length = acells v) :
    storeH T t (.hp q off) v h = .ok (.tup []) h := by
  simp only [storeH, ht, hq, hok, decide_eq_true hle, decide_eq_true h0, Bool.and_self, cond_true]
  rw [setCells_same hsame]
  congr 1
  obtain ⟨hlt, hk⟩ := List.getElem?_eq_some_iff.1 hq
  rw [← hk]
  exact List.set_getElem_self hlt
end Go.Av.Ap

/- Laws of the comparison of functions: fewer effects, and records of which less is asked. No condition. -/
namespace Go.Av.Ap
open Go Go.Av
def andI (a b : Int) : Int := IntKind.i64.wrap (BitVec.ofInt 64 a &&& BitVec.ofInt 64 b).toNat
theorem wrap64 (n : Nat) (h : n < 18446744073709551616) : IntKind.i64.wrap (n : Int) = if 9223372036854775808 ≤ n then (n : Int) - 18446744073709551616 else (n : Int) := by
  have e : IntKind.i64.wrap (n : Int) = if decide ((n : Int) % 18446744073709551616 ≥ 9223372036854775808) = true then (n : Int) % 18446744073709551616 - 18446744073709551616 else (n : Int) % 18446744073709551616 := rfl
  rw [e]
  have : (n : Int) % 18446744073709551616 = n := by omega
  rw [this]
  simp only [decide_eq_true_eq]
  split <;> split <;> omega
theorem of_wrap (v : BitVec 64) : BitVec.ofInt 64 (IntKind.i64.wrap (v.toNat : Int)) = v := by
  have hv := v.isLt
  rw [wrap64 _ hv]
  apply BitVec.eq_of_toNat_eq
  rw [BitVec.toNat_ofInt]
  split <;> simp <;> omega
theorem wrap_of {a : Int} (h1 : -9223372036854775808 ≤ a) (h2 : a ≤ 9223372036854775807) : IntKind.i64.wrap ((BitVec.ofInt 64 a).toNat : Int) = a := by
  have hv := (BitVec.ofInt 64 a).isLt
  rw [wrap64 _ hv, BitVec.toNat_ofInt]
  simp
  split <;> omega
theorem and_of_exceeds {a b : Int} (h1 : -9223372036854775808 ≤ a) (h2 : a ≤ 9223372036854775807) (h : (exceeds a b == 0) = true) : andI a b = a := by
  rw [exceeds_iff] at h
  have : BitVec.ofInt 64 a &&& BitVec.ofInt 64 b = BitVec.ofInt 64 a := by
    generalize BitVec.ofInt 64 a = x at *
    generalize BitVec.ofInt 64 b = y at *
    apply BitVec.eq_of_getLsbD_eq
    intro i hi
    have e1 := congrArg (·.getLsbD i) h
    simp only [BitVec.getLsbD_and, BitVec.getLsbD_not, hi, decide_true, Bool.true_and, BitVec.getLsbD_zero] at e1 ⊢
    generalize x.getLsbD i = p at *
    generalize y.getLsbD i = q at *
    clear h
    revert p q
    decide
  unfold andI
  rw [this, wrap_of h1 h2]
structure Sig.Room (s : Sig) : Prop where
  pb : s.params.length * 32 ≤ 140737488355328
  fb : ∀ t ∈ s.params, t.fields.length * 48 ≤ 140737488355328
  e1 : -9223372036854775808 ≤ s.effects
  e2 : s.effects ≤ 9223372036854775807
end Go.Av.Ap
