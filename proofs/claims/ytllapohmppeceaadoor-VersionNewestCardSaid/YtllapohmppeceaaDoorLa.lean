/- The abstract evaluator of the model, part 1: its soundness holds for every program whose table of types is the evaluator's. No further condition. -/
import Derived.Calls
import Derived.Lib.ItoaNum
import Derived.WalkKit

/- Abstract values, the relation to the model's values, and the result monad of the abstract evaluator. No condition. -/
namespace Go.Av

/-- Abstract values. sl: an immutable slice by value (nil or not); ip: a pointer to immutable cells by value; hp, hs: into the abstract heap; hn: a nil slice. -/
inductive AV where
  | any
  | bool (b : Bool)
  | int (k : IntKind) (n : Int)
  | str (s : List UInt8)
  | nilp | nilf | nili
  | agg (cs : List AV)
  | tup (vs : List AV)
  | sl (es : List AV)
  | ip (cs : List AV)
  | hp (l off : Nat)
  | hs (l off len sz : Nat) (ag : Bool)
  | hn
  | fn (f : Fn) (first captured : List AV)
  | iface (t : TypeId) (v : AV)
  deriving Inhabited

/-- A row of the heap: its number, its size. -/
abbrev Blk := Nat × Nat
/-- The stable cells: block, offset. -/
abbrev Stab := Nat → Nat → Option Value

def cellsAt (S : Stab) (b off : Nat) (vs : List Value) : Prop := ∀ (j : Nat) (v : Value), vs[j]? = some v → S b (off + j) = some v

mutual
def VR (S : Stab) (β : List Blk) : AV → Value → Prop
  | .any, _ => True
  | .bool b, v => v = .bool b
  | .int k n, v => v = .int k n
  | .str s, v => ∃ x : ByteArray, v = .string x ∧ x.data.toList = s
  | .nilp, v => v = .pointer none
  | .nilf, v => v = .nilFunc
  | .nili, v => v = .nilIface
  | .agg cs, v => ∃ vs : List Value, v = .agg vs.toArray ∧ VRs S β cs vs
  | .tup cs, v => ∃ vs : List Value, v = .tuple vs.toArray ∧ VRs S β cs vs
  | .sl es, v => ∃ a cap, v = .slice a es.length cap ∧ es.length ≤ cap ∧
      (a = none → cap = 0) ∧ ∀ q, a = some q → q.spot = none ∧ ∃ sz, ElsAt S β es q.block q.off sz
  | .ip cs, v => ∃ b off vs, v = .pointer (some ⟨b, off, none⟩) ∧ VRs S β cs vs ∧ cellsAt S b off vs
  | .hp l off, v => ∃ b : Blk, β[l]? = some b ∧ v = .pointer (some ⟨b.1, off, none⟩)
  | .hs l off len sz _, v => ∃ (b : Blk) (cap : Nat), β[l]? = some b ∧ v = .slice (some ⟨b.1, off, none⟩) len cap ∧ len ≤ cap ∧ off + cap * sz ≤ b.2
  | .hn, v => v = .slice none 0 0
  | .fn f a c, v => ∃ x y : List Value, v = .func f x.toArray y.toArray ∧ VRs S β a x ∧ VRs S β c y
  | .iface t a, v => ∃ x, v = .iface t x ∧ VR S β a x
def VRs (S : Stab) (β : List Blk) : List AV → List Value → Prop
  | [], vs => vs = []
  | c :: cs, vs => ∃ x xs, vs = x :: xs ∧ VR S β c x ∧ VRs S β cs xs
def ElsAt (S : Stab) (β : List Blk) : List AV → Nat → Nat → Nat → Prop
  | [], _, _, _ => True
  | e :: es, b, off, sz => (∃ v, VR S β e v ∧ v.cells.size = sz ∧ cellsAt S b off v.cells.toList) ∧ ElsAt S β es b (off + sz) sz
end

/-- Cells of an abstract value, as Value.cells. -/
def acells : AV → List AV
  | .agg cs => cs
  | .any => []
  | x => [x]

/-- How many cells the value takes, where that is known. -/
def sizeA : AV → Option Nat
  | .any => none
  | .agg cs => some cs.length
  | _ => some 1

/-- S' has all that S has. -/
def Stab.le (S S' : Stab) : Prop := ∀ b o v, S b o = some v → S' b o = some v
theorem Stab.le_refl (S : Stab) : S.le S := fun _ _ _ h => h
theorem Stab.le_trans {S T U : Stab} (h : S.le T) (g : T.le U) : S.le U := fun b o v x => g b o v (h b o v x)

theorem cellsAt.mono {S S' : Stab} (h : S.le S') {b off : Nat} {vs : List Value} (c : cellsAt S b off vs) : cellsAt S' b off vs :=
  fun j v x => h _ _ _ (c j v x)

/-- β' continues β. -/
def Ext (β β' : List Blk) : Prop := ∀ (l : Nat) (b : Blk), β[l]? = some b → β'[l]? = some b
theorem Ext.refl (β : List Blk) : Ext β β := fun _ _ h => h
theorem Ext.trans {a b c : List Blk} (h : Ext a b) (g : Ext b c) : Ext a c := fun l x y => g l x (h l x y)

mutual
theorem VR.mono {S S' : Stab} {β β' : List Blk} (h : S.le S') (g : Ext β β') : (a : AV) → (v : Value) → VR S β a v → VR S' β' a v
  | .any, _, _ => by simp [VR]
  | .bool _, _, x => by simpa [VR] using x
  | .int _ _, _, x => by simpa [VR] using x
  | .str _, _, x => by simpa [VR] using x
  | .nilp, _, x => by simpa [VR] using x
  | .nilf, _, x => by simpa [VR] using x
  | .nili, _, x => by simpa [VR] using x
  | .agg cs, v, x => by
    simp only [VR] at x ⊢
    obtain ⟨vs, rfl, y⟩ := x
    exact ⟨vs, rfl, VRs.mono h g cs vs y⟩
  | .tup cs, v, x => by
    simp only [VR] at x ⊢
    obtain ⟨vs, rfl, y⟩ := x
    exact ⟨vs, rfl, VRs.mono h g cs vs y⟩
  | .sl es, v, x => by
    simp only [VR] at x ⊢
    obtain ⟨a, cap, rfl, hc, hn, hq⟩ := x
    refine ⟨a, cap, rfl, hc, hn, fun q e => ?_⟩
    obtain ⟨hs, sz, he⟩ := hq q e
    exact ⟨hs, sz, ElsAt.mono h g es _ _ _ he⟩
  | .ip cs, v, x => by
    simp only [VR] at x ⊢
    obtain ⟨b, off, vs, rfl, y, z⟩ := x
    exact ⟨b, off, vs, rfl, VRs.mono h g cs vs y, z.mono h⟩
  | .hp l off, v, x => by
    simp only [VR] at x ⊢
    obtain ⟨b, hb, rfl⟩ := x
    exact ⟨b, g l b hb, rfl⟩
  | .hn, _, x => by simpa [VR] using x
  | .hs l off len _ _, v, x => by
    simp only [VR] at x ⊢
    obtain ⟨b, cap, hb, rfl, hc, hs⟩ := x
    exact ⟨b, cap, g l b hb, rfl, hc, hs⟩
  | .fn f a c, v, x => by
    simp only [VR] at x ⊢
    obtain ⟨x, y, rfl, hx, hy⟩ := x
    exact ⟨x, y, rfl, VRs.mono h g a x hx, VRs.mono h g c y hy⟩
  | .iface t a, v, x => by
    simp only [VR] at x ⊢
    obtain ⟨y, rfl, hy⟩ := x
    exact ⟨y, rfl, VR.mono h g a y hy⟩
theorem VRs.mono {S S' : Stab} {β β' : List Blk} (h : S.le S') (g : Ext β β') : (cs : List AV) → (vs : List Value) → VRs S β cs vs → VRs S' β' cs vs
  | [], _, x => by simpa [VRs] using x
  | c :: cs, vs, x => by
    simp only [VRs] at x ⊢
    obtain ⟨y, ys, rfl, hy, hys⟩ := x
    exact ⟨y, ys, rfl, VR.mono h g c y hy, VRs.mono h g cs ys hys⟩
theorem ElsAt.mono {S S' : Stab} {β β' : List Blk} (h : S.le S') (g : Ext β β') : (es : List AV) → (b off sz : Nat) → ElsAt S β es b off sz → ElsAt S' β' es b off sz
  | [], _, _, _, _ => by simp [ElsAt]
  | e :: es, b, off, sz, x => by
    simp only [ElsAt] at x ⊢
    obtain ⟨⟨v, hv, hs, hc⟩, hes⟩ := x
    exact ⟨⟨v, VR.mono h g e v hv, hs, hc.mono h⟩, ElsAt.mono h g es b (off + sz) sz hes⟩
end

theorem VRs.length {S : Stab} {β : List Blk} : {cs : List AV} → {vs : List Value} → VRs S β cs vs → vs.length = cs.length
  | [], _, h => by simp [VRs] at h; simp [h]
  | c :: cs, vs, h => by
    simp only [VRs] at h
    obtain ⟨y, ys, rfl, _, hys⟩ := h
    simp [VRs.length hys]

theorem VRs.get {S : Stab} {β : List Blk} : {cs : List AV} → {vs : List Value} → VRs S β cs vs → ∀ {i : Nat} {c : AV}, cs[i]? = some c → ∃ v, vs[i]? = some v ∧ VR S β c v
  | [], _, _, i, c, h => by simp at h
  | c :: cs, vs, h, i, d, hd => by
    simp only [VRs] at h
    obtain ⟨y, ys, rfl, hy, hys⟩ := h
    cases i with
    | zero => simp at hd; subst hd; exact ⟨y, by simp, hy⟩
    | succ i => simpa using VRs.get hys (by simpa using hd)

theorem VRs.of_get {S : Stab} {β : List Blk} : {cs : List AV} → {vs : List Value} → vs.length = cs.length →
    (∀ (i : Nat) (c : AV) (v : Value), cs[i]? = some c → vs[i]? = some v → VR S β c v) → VRs S β cs vs
  | [], vs, h, _ => by simp [VRs]; simpa using h
  | c :: cs, [], h, _ => by simp at h
  | c :: cs, v :: vs, h, g => by
    simp only [VRs]
    exact ⟨v, vs, rfl, g 0 c v (by simp) (by simp), VRs.of_get (by simpa using h) fun i c' v' h1 h2 => g (i + 1) c' v' (by simpa using h1) (by simpa using h2)⟩

theorem VRs.drop {S : Stab} {β : List Blk} {cs : List AV} {vs : List Value} (h : VRs S β cs vs) (n : Nat) : VRs S β (cs.drop n) (vs.drop n) := by
  refine .of_get (by simp [h.length]) fun i c v hc hv => ?_
  rw [List.getElem?_drop] at hc hv
  obtain ⟨v', hv', hr⟩ := h.get hc
  rw [hv] at hv'
  cases hv'
  exact hr

theorem VRs.take {S : Stab} {β : List Blk} {cs : List AV} {vs : List Value} (h : VRs S β cs vs) (n : Nat) : VRs S β (cs.take n) (vs.take n) := by
  refine .of_get (by simp [h.length]) fun i c v hc hv => ?_
  rw [List.getElem?_take] at hc hv
  split at hc
  · rename_i hlt
    rw [if_pos hlt] at hv
    obtain ⟨v', hv', hr⟩ := h.get hc
    rw [hv] at hv'
    cases hv'
    exact hr
  · simp at hc

theorem VRs.append {S : Stab} {β : List Blk} {cs ds : List AV} {vs ws : List Value} (h : VRs S β cs vs) (g : VRs S β ds ws) : VRs S β (cs ++ ds) (vs ++ ws) := by
  induction cs generalizing vs with
  | nil => simp [VRs] at h; subst h; simpa using g
  | cons c cs ih =>
    simp only [VRs, List.cons_append] at h ⊢
    obtain ⟨y, ys, rfl, hy, hys⟩ := h
    exact ⟨y, ys ++ ws, rfl, hy, ih hys⟩

/-- A value's cells are related to the abstract cells, where the size is known. -/
theorem VR.cells {S : Stab} {β : List Blk} {a : AV} {v : Value} (h : VR S β a v) {n : Nat} (hn : sizeA a = some n) : v.cells.size = n ∧ VRs S β (acells a) v.cells.toList ∧ (acells a).length = n := by
  cases a <;> simp only [sizeA, Option.some.injEq, reduceCtorEq] at hn <;> subst hn <;> simp only [VR] at h <;> simp only [acells, VRs, VR]
  case agg cs =>
    obtain ⟨vs, rfl, hv⟩ := h
    simp [Value.cells, hv, hv.length]
  case bool => subst h; simp [Value.cells]
  case hn => subst h; simp [Value.cells]
  case int => subst h; simp [Value.cells]
  case nilp => subst h; simp [Value.cells]
  case nilf => subst h; simp [Value.cells]
  case nili => subst h; simp [Value.cells]
  case str => obtain ⟨x, rfl, hx⟩ := h; simp [Value.cells, hx]
  case tup => obtain ⟨x, rfl, hx⟩ := h; simp [Value.cells, hx]
  case hp => obtain ⟨b, hb, rfl⟩ := h; exact ⟨by simp [Value.cells], ⟨_, _, rfl, ⟨b, hb, rfl⟩, rfl⟩, rfl⟩
  case hs => obtain ⟨b, c, hb, rfl, hc⟩ := h; exact ⟨by simp [Value.cells], ⟨_, _, rfl, ⟨b, c, hb, rfl, hc⟩, rfl⟩, rfl⟩
  case iface => obtain ⟨x, rfl, hx⟩ := h; simp [Value.cells, hx]
  case fn => obtain ⟨x, y, rfl, hx, hy⟩ := h; exact ⟨by simp [Value.cells], ⟨_, _, rfl, ⟨x, y, rfl, hx, hy⟩, rfl⟩, rfl⟩
  case ip => obtain ⟨b, o, vs, rfl, hx, hc⟩ := h; exact ⟨by simp [Value.cells], ⟨_, _, rfl, ⟨b, o, vs, rfl, hx, hc⟩, rfl⟩, rfl⟩
  case sl => obtain ⟨x, c, rfl, h1, h2, h3⟩ := h; exact ⟨by simp [Value.cells], ⟨_, _, rfl, ⟨x, c, rfl, h1, h2, h3⟩, rfl⟩, rfl⟩

theorem VR.acells {S : Stab} {β : List Blk} {a : AV} {v : Value} (h : VR S β a v) : ∃ vs : List Value, VRs S β (acells a) vs ∧ ∀ (j : Nat) (x : Value), vs[j]? = some x → v.cells.toList[j]? = some x := by
  cases hs : sizeA a with
  | some n => exact ⟨_, (h.cells hs).2.1, fun _ _ h => h⟩
  | none =>
    cases a <;> simp [sizeA] at hs
    exact ⟨[], by simp [Av.acells, VRs], fun j x h => by simp at h⟩

theorem ElsAt.get {S : Stab} {β : List Blk} {sz b : Nat} : {es : List AV} → {off : Nat} → ElsAt S β es b off sz → ∀ {i : Nat} {e : AV}, es[i]? = some e →
    ∃ v, VR S β e v ∧ v.cells.size = sz ∧ cellsAt S b (off + i * sz) v.cells.toList
  | [], _, _, i, e, h => by simp at h
  | d :: es, off, h, i, e, he => by
    simp only [ElsAt] at h
    obtain ⟨⟨v, hv, hs, hc⟩, hes⟩ := h
    cases i with
    | zero => simp at he; subst he; exact ⟨v, hv, hs, by simpa using hc⟩
    | succ i =>
      obtain ⟨v', hv', hs', hc'⟩ := ElsAt.get hes (i := i) (by simpa using he)
      exact ⟨v', hv', hs', by rw [show off + (i + 1) * sz = off + sz + i * sz by rw [Nat.succ_mul]; omega]; exact hc'⟩

theorem ElsAt.of_get {S : Stab} {β : List Blk} {sz b : Nat} : {es : List AV} → {off : Nat} →
    (∀ i e, es[i]? = some e → ∃ v, VR S β e v ∧ v.cells.size = sz ∧ cellsAt S b (off + i * sz) v.cells.toList) → ElsAt S β es b off sz
  | [], _, _ => by simp [ElsAt]
  | d :: es, off, h => by
    simp only [ElsAt]
    refine ⟨by simpa using h 0 d (by simp), .of_get fun i e he => ?_⟩
    obtain ⟨v', hv', hs', hc'⟩ := h (i + 1) e (by simpa using he)
    exact ⟨v', hv', hs', by rw [show off + sz + i * sz = off + (i + 1) * sz by rw [Nat.succ_mul]; omega]; exact hc'⟩

theorem ElsAt.drop {S : Stab} {β : List Blk} {es : List AV} {b off sz : Nat} (h : ElsAt S β es b off sz) (n : Nat) : ElsAt S β (es.drop n) b (off + n * sz) sz := by
  refine .of_get fun i e he => ?_
  rw [List.getElem?_drop] at he
  obtain ⟨v, h1, h2, h3⟩ := h.get he
  exact ⟨v, h1, h2, by rw [show off + n * sz + i * sz = off + (n + i) * sz by rw [Nat.add_mul]; omega]; exact h3⟩

theorem ElsAt.take {S : Stab} {β : List Blk} {es : List AV} {b off sz : Nat} (h : ElsAt S β es b off sz) (n : Nat) : ElsAt S β (es.take n) b off sz := by
  refine .of_get fun i e he => ?_
  rw [List.getElem?_take] at he
  split at he
  · exact h.get he
  · simp at he

theorem ElsAt.append {S : Stab} {β : List Blk} {es fs : List AV} {b off sz : Nat} (h : ElsAt S β es b off sz) (g : ElsAt S β fs b (off + es.length * sz) sz) : ElsAt S β (es ++ fs) b off sz := by
  refine .of_get fun i e he => ?_
  rw [List.getElem?_append] at he
  split at he
  · exact h.get he
  · rename_i hlt
    obtain ⟨v, h1, h2, h3⟩ := g.get he
    refine ⟨v, h1, h2, ?_⟩
    rw [show off + i * sz = off + es.length * sz + (i - es.length) * sz by rw [Nat.sub_mul]; have := Nat.mul_le_mul_right sz (Nat.le_of_not_lt hlt); omega]
    exact h3

/-! ### Results -/
abbrev Hp := List (List AV)

inductive R (α : Type) where
  | ok (a : α) (h : Hp)
  | pan (v : AV) (h : Hp)
  | fail

def M (α : Type) := Hp → R α
def M.pure {α : Type} (a : α) : M α := fun h => .ok a h
def bnd {α β : Type} (m : M α) (f : α → M β) : M β := fun h =>
  match m h with
  | .ok a h' => f a h'
  | .pan v h' => .pan v h'
  | .fail => .fail
def M.fail {α : Type} : M α := fun _ => .fail
def lft {α : Type} (o : Option α) : M α := fun h => match o with | some a => .ok a h | none => .fail
def throwM {α : Type} (v : AV) : M α := fun h => .pan v h
/-- A branch. -/
def condM {α : Type} (c : AV) (x y : M α) : M α := match c with
  | .bool true => x
  | .bool false => y
  | _ => M.fail
/-- A join point. -/
def jn {α : Type} (k : List AV → M α) (m : (List AV → M α) → M α) : M α := m k
/-- A guarded group of operations, with n slots of results. -/
def guardM (c : AV) (want : Bool) (n : Nat) (m : M (List AV)) : M (List AV) := match c with
  | .bool b => bif b == want then m else M.pure (List.replicate n (.tup []))
  | .tup [] => M.pure (List.replicate n (.tup []))
  | _ => M.fail
def fixM {α : Type} : Nat → ((List AV → M α) → List AV → M α) → List AV → M α
  | 0, _, _ => M.fail
  | n + 1, F, vs => F (fixM n F) vs
def nth (l : List AV) (i : Nat) : AV := l.getD i .any

theorem bnd_pure {α β : Type} (a : α) (f : α → M β) : bnd (M.pure a) f = f a := rfl
theorem bnd_some {α β : Type} (a : α) (f : α → M β) : bnd (lft (some a)) f = f a := rfl
theorem bnd_none {α β : Type} (f : α → M β) : bnd (lft none) f = M.fail := rfl
theorem bnd_fail {α β : Type} (f : α → M β) : bnd (M.fail) f = M.fail := rfl
theorem bnd_throw {α β : Type} (v : AV) (f : α → M β) : bnd (throwM v) f = throwM v := rfl
theorem bnd_bnd {α β γ : Type} (m : M α) (f : α → M β) (g : β → M γ) : bnd (bnd m f) g = bnd m fun a => bnd (f a) g := by
  funext h; simp only [bnd]; cases m h <;> rfl
theorem bnd_id {α : Type} (m : M α) : bnd m M.pure = m := by
  funext h; simp only [bnd]; cases hm : m h <;> rfl

end Go.Av

/- What the calls lean on of the package variables: strconv's two errors, its table of powers of ten, the length up to which bytealg looks for strings. No condition. -/
namespace Go.Av
/-- So many of the first rows are package variables that the calls lean on. -/
def gN : Nat := 4
/-- They hold what they are said to hold. -/
structure GOKw (w : World) : Prop where
  syn : ∃ t p, w.cell? ⟨0, 0, none⟩ = some (.iface t p)
  rng : ∃ t p, w.cell? ⟨1, 0, none⟩ = some (.iface t p)
  pow : ∃ t fr, w.heap[2]? = some (.cells (Lib.pow10Tab.map fun z => Value.int .u64 z).toArray t fr)
  max : ∃ m, w.cell? ⟨3, 0, none⟩ = some (.int .i64 m)
theorem GOKw.mono {w w' : World} (hk : ∀ b, b < gN → w'.heap[b]? = w.heap[b]?) (h : GOKw w) : GOKw w' := by
  have hc : ∀ b, b < gN → ∀ o, w'.cell? ⟨b, o, none⟩ = w.cell? ⟨b, o, none⟩ := fun b hb o => by simp [World.cell?, hk b hb]
  exact ⟨by rw [hc 0 (by decide)]; exact h.syn, by rw [hc 1 (by decide)]; exact h.rng, by rw [hk 2 (by decide)]; exact h.pow, by rw [hc 3 (by decide)]; exact h.max⟩
theorem GOKw.lt {w : World} (h : GOKw w) : gN ≤ w.heap.size := by
  obtain ⟨m, hm⟩ := h.max
  unfold gN
  rcases Nat.lt_or_ge 3 w.heap.size with h | h
  · exact h
  · simp [World.cell?, Array.getElem?_eq_none h] at hm
end Go.Av

/- The abstract evaluator of the model's code. No condition. -/
namespace Go.Av

/-! ### Types -/
inductive TK where
  | other | bool | int (k : IntKind) | str | slice (elem : Nat) | struct | array (len elem : Nat) | iface | ptr | func

structure TI where
  agg : Bool
  size : Nat
  bytes : Nat
  kind : TK
  /-- fields: offset, type, named -/
  offs : List (Nat × Nat × Bool) := []
  zero : List AV := []
  /-- may be compared as a struct, by the model -/
  eqok : Bool := false

abbrev TT := Nat → Option TI

/-! ### Constants -/
def cA1 : Value → AV
  | .bool b => .bool b
  | .int k n => .int k n
  | .string s => .str s.data.toList
  | .pointer none => .nilp
  | .slice none 0 0 => .sl []
  | .nilFunc => .nilf
  | .nilIface => .nili
  | _ => .any
def cA : Value → AV
  | .agg cs => .agg (cs.toList.map cA1)
  | .tuple vs => bif vs.isEmpty then .tup [] else .any
  | v => cA1 v

/-! ### Pure operations -/
def partA (ti : TI) (cs : List AV) (off : Nat) : Option AV :=
  bif ti.agg then some (.agg ((cs.drop off).take ti.size)) else cs[off]?

mutual
def eqA (T : TT) : Nat → Nat → AV → AV → Option Bool
  | 0, _, _, _ => none
  | d + 1, t, x, y => match T t with
    | none => none
    | some ti => match ti.kind, x, y with
      | .bool, .bool a, .bool b => some (a == b)
      | .int _, .int k a, .int k' b => if k = k' then some (a == b) else none
      | .str, .str a, .str b => some (a == b)
      | .ptr, .nilp, .nilp => some true
      | .ptr, .nilp, .ip _ => some false
      | .ptr, .ip _, .nilp => some false
      | .ptr, .nilp, .hp _ _ => some false
      | .ptr, .hp _ _, .nilp => some false
      | .iface, .nili, .iface _ _ => some false
      | .iface, .iface _ _, .nili => some false
      | .struct, .agg xs, .agg ys => bif ti.eqok then eqFs T d ti.offs xs ys else none
      | .slice _, .hn, .hn => some true
      | .slice _, .sl (_ :: _), .hn => some false
      | .slice _, .hs _ _ _ _ _, .hn => some false
      | .iface, .nili, .nili => some true
      | _, _, _ => none
def eqFs (T : TT) : Nat → List (Nat × Nat × Bool) → List AV → List AV → Option Bool
  | _, [], _, _ => some true
  | 0, _ :: _, _, _ => none
  | d + 1, (o, t, named) :: fs, xs, ys =>
    bif named then
      match T t with
      | none => none
      | some ti => match partA ti xs o, partA ti ys o with
        | some a, some b => match eqA T d t a b with
          | some true => eqFs T d fs xs ys
          | some false => some false
          | none => none
        | _, _ => none
    else eqFs T d fs xs ys
end

def strLess : List UInt8 → List UInt8 → Bool
  | _, [] => false
  | [], _ :: _ => true
  | a :: x, b :: y => a < b || (a == b && strLess x y)

def intA (op : BinOp) (k : IntKind) (a b : Int) : Option AV :=
  match op with
  | .add => some (.int k (k.wrap (a + b)))
  | .sub => some (.int k (k.wrap (a - b)))
  | .mul => some (.int k (k.wrap (a * b)))
  | .quo => if b = 0 then none else some (.int k (k.wrap (a.tdiv b)))
  | .rem => if b = 0 then none else some (.int k (a.tmod b))
  | .and => some (.int k (k.wrap (BitVec.ofInt k.bits a &&& BitVec.ofInt k.bits b).toNat))
  | .or => some (.int k (k.wrap (BitVec.ofInt k.bits a ||| BitVec.ofInt k.bits b).toNat))
  | .xor => some (.int k (k.wrap (BitVec.ofInt k.bits a ^^^ BitVec.ofInt k.bits b).toNat))
  | .andNot => some (.int k (k.wrap (BitVec.ofInt k.bits a &&& ~~~ BitVec.ofInt k.bits b).toNat))
  | .eql => some (.bool (a == b))
  | .neq => some (.bool (a != b))
  | .lss => some (.bool (a < b))
  | .leq => some (.bool (a ≤ b))
  | .gtr => some (.bool (a > b))
  | .geq => some (.bool (a ≥ b))
  | _ => none

def strA (op : BinOp) (a b : List UInt8) : Option AV :=
  match op with
  | .add => if a.length + b.length ≤ 4611686018427387904 then some (.str (a ++ b)) else none
  | .eql => some (.bool (a == b))
  | .neq => some (.bool !(a == b))
  | .lss => some (.bool (strLess a b))
  | .leq => some (.bool (strLess a b || a == b))
  | .gtr => some (.bool !(strLess a b || a == b))
  | .geq => some (.bool !(strLess a b))
  | _ => none

def shA (op : BinOp) (k : IntKind) (a b : Int) : Option AV :=
  if b < 0 then none else
  match op with
  | .shl => some (.int k (k.wrap (a * 2 ^ (min b.toNat k.bits))))
  | .shr => some (.int k (a.fdiv (2 ^ (min b.toNat k.bits))))
  | _ => none

def isShift : BinOp → Bool
  | .shl | .shr => true
  | _ => false

def binA (T : TT) (op : BinOp) (t : TypeId) (x y : AV) : Option AV :=
  match x, y with
  | .int k a, .int k' b => bif isShift op then shA op k a b else if k = k' then intA op k a b else none
  | .str a, .str b => strA op a b
  | x, y => match op with
    | .eql => (eqA T 20 t x y).map .bool
    | .neq => (eqA T 20 t x y).map fun b => .bool !b
    | _ => none

def unA (op : UnOp) (x : AV) : Option AV :=
  match op, x with
  | .not, .bool b => some (.bool !b)
  | .neg, .int k n => some (.int k (k.wrap (0 - n)))
  | _, _ => none

def convA (T : TT) (src dst : TypeId) (x : AV) : Option AV :=
  match T src, T dst with
  | some _, some d => match d.kind, x with
    | .int k, .int _ n => some (.int k (k.wrap n))
    | .str, .str s => some (.str s)
    | _, _ => none
  | _, _ => none

def fieldAddrA (T : TT) (t : TypeId) (x : AV) (f : Nat) : Option AV :=
  match T t with
  | none => none
  | some ti => match ti.offs[f]? with
    | none => none
    | some (o, ft, _) => match T ft with
      | none => none
      | some fi => if fi.size = 0 then none else
        match x with
        | .ip cs => some (.ip (cs.drop o))
        | .hp l off => some (.hp l (off + o))
        | _ => none

def indexAddrA (T : TT) (t : TypeId) (x i : AV) : Option AV :=
  match T t, i with
  | some ti, .int _ n => match ti.kind, x with
    | .slice e, .sl es => match T e with
      | some ei => if n < 0 then none else match es[n.toNat]? with
        | some a => if sizeA a = some ei.size then some (.ip (acells a)) else none
        | none => none
      | none => none
    | .slice e, .hs l off len _ _ => match T e with
      | some ei => if 0 ≤ n ∧ n < len then some (.hp l (off + n.toNat * ei.size)) else none
      | none => none
    | .array m e, .ip cs => match T e with
      | some ei => if 0 ≤ n ∧ n < m then some (.ip (cs.drop (n.toNat * ei.size))) else none
      | none => none
    | .array m e, .hp l off => match T e with
      | some ei => if 0 ≤ n ∧ n < m then some (.hp l (off + n.toNat * ei.size)) else none
      | none => none
    | _, _ => none
  | _, _ => none

def loadA (T : TT) (t : TypeId) (x : AV) : Option AV :=
  match T t, x with
  | some ti, .ip cs => bif ti.agg then (if ti.size ≤ cs.length then some (.agg (cs.take ti.size)) else none) else cs.head?
  | _, _ => none

def nilChkA : AV → Option AV
  | .ip cs => some (.ip cs)
  | .hp l off => some (.hp l off)
  | .iface t v => some (.iface t v)
  | .fn (.func f) a c => some (.fn (.func f) a c)
  | _ => none

def indexStrA (T : TT) (t : TypeId) (x i : AV) : Option AV :=
  match T t, i with
  | some ti, .int _ n => match ti.kind, x with
    | .str, .str s => if n < 0 then none else s[n.toNat]?.map fun b => .int .u8 b.toNat
    | .array m e, .agg cs => match T e with
      | some ei => if 0 ≤ n ∧ n < m then partA ei cs (n.toNat * ei.size) else none
      | none => none
    | _, _ => none
  | _, _ => none

def fieldA (T : TT) (t : TypeId) (x : AV) (f : Nat) : Option AV :=
  match T t, x with
  | some ti, .agg cs => match ti.kind, ti.offs[f]? with
    | .struct, some (o, ft, _) => match T ft with
      | some fi => partA fi cs o
      | none => none
    | _, _ => none
  | _, _ => none

def boundA (x : Option AV) (dflt most : Nat) : Option Nat :=
  match x with
  | none => some dflt
  | some (.int _ n) => if 0 ≤ n ∧ n ≤ most then some n.toNat else none
  | some _ => none

/-- What one cell may hold. -/
def okCell : AV → Bool
  | .any | .agg _ | .tup _ => false
  | _ => true
/-- A value that fills sz cells. -/
def okEl (sz : Nat) (e : AV) : Bool := sizeA e == some sz && (acells e).all okCell
def okSz (sz : Nat) (es : List AV) : Bool := es.all (okEl sz)

/-- A slice expression; with a third index it has to be the second one. -/
def sliceA (T : TT) (t : TypeId) (x : AV) (lo hi mx : Option AV) : Option AV :=
  match T t with
  | none => none
  | some ti => match ti.kind, x with
    | .str, .str s => match mx with
      | some _ => none
      | none => match boundA hi s.length s.length with
        | none => none
        | some h => match boundA lo 0 h with
          | none => none
          | some l => some (.str ((s.take h).drop l))
    | .slice e, .sl es => match T e with
      | none => none
      | some ei => match boundA hi es.length es.length with
        | none => none
        | some h => match boundA lo 0 h with
          | none => none
          | some l => bif decide (l = 0) || okSz ei.size es then
            (match mx with
            | none => some (.sl ((es.take h).drop l))
            | some m => match hi, boundA (some m) 0 es.length with
              | some _, some m' => if m' = h then some (.sl ((es.take h).drop l)) else none
              | _, _ => none)
            else none
    | .slice e, .hs l0 off len sz ag => match T e with
      | none => none
      | some ei => match mx with
        | some _ => none
        | none => match boundA hi len len with
          | none => none
          | some h => match boundA lo 0 h with
            | none => none
            | some l => if ei.size = sz then (if l < h then some (.hs l0 (off + l * sz) (h - l) sz ag) else some (.sl [])) else none
    | _, _ => none

def setCells (cs : List AV) (off : Nat) (xs : List AV) : List AV := cs.take off ++ xs ++ cs.drop (off + xs.length)

def fillA (place : Nat → Option (Nat × Nat)) (cs : List AV) : List (Nat × AV) → Option (List AV)
  | [] => some cs
  | (i, v) :: rest => match place i with
    | none => none
    | some (off, size) => if sizeA v = some size ∧ off + size ≤ cs.length then fillA place (setCells cs off (acells v)) rest else none

def fieldSizes (T : TT) : List (Nat × Nat × Bool) → Option (List (Nat × Nat))
  | [] => some []
  | (o, t, _) :: fs => match T t, fieldSizes T fs with
    | some ti, some r => some ((o, ti.size) :: r)
    | _, _ => none

/-- Zero cells: in a told value nil slices are hn. -/
def zerosOf (told : Bool) (ti : TI) : List AV := bif told then ti.zero.map (fun | .sl [] => .hn | x => x) else ti.zero

def buildA (T : TT) (told : Bool) (t : TypeId) (parts : List (Nat × AV)) : Option AV :=
  match T t with
  | none => none
  | some ti => match ti.kind with
    | .struct => match fieldSizes T ti.offs with
      | none => none
      | some pl => (fillA (fun i => pl[i]?) (zerosOf told ti) parts).map .agg
    | .array _ e => match T e with
      | none => none
      | some ei => (fillA (fun i => some (i * ei.size, ei.size)) (zerosOf told ti) parts).map .agg
    | _ => none

def zeroEl (ti : TI) : AV := bif ti.agg then .agg ti.zero else nth ti.zero 0

def fillEls (sz : Nat) (es : List AV) : List (Nat × AV) → Option (List AV)
  | [] => some es
  | (i, v) :: rest => if sizeA v = some sz ∧ i < es.length then fillEls sz (es.set i v) rest else none

def buildSliceA (T : TT) (t : TypeId) (len : Nat) (parts : List (Nat × AV)) : Option AV :=
  match T t with
  | none => none
  | some ti => match ti.kind with
    | .slice e => match T e with
      | none => none
      | some ei => if len * ei.size ≤ 16777216 ∧ sizeA (zeroEl ei) = some ei.size then (fillEls ei.size (List.replicate len (zeroEl ei)) parts).map .sl else none
    | _ => none

def makeSliceA (T : TT) (t : TypeId) (len cap : AV) : Option AV :=
  match T t, len, cap with
  | some ti, .int .i64 n, .int .i64 c => match ti.kind with
    | .slice e => match T e with
      | none => none
      | some ei => if 0 ≤ n ∧ n ≤ c ∧ c ≤ 140737488355328 ∧ ei.bytes * c ≤ 140737488355328 ∧ sizeA (zeroEl ei) = some ei.size then some (.sl (List.replicate n.toNat (zeroEl ei))) else none
    | _ => none
  | _, _, _ => none

def elsOf : AV → Option (List AV)
  | .sl es => some es
  | .hn => some []
  | .hs _ _ 0 _ _ => some []
  | .str s => some (s.map fun b => .int .u8 b.toNat)
  | _ => none

/-- A string may be appended to bytes alone. -/
def strOk : AV → Nat → Bool
  | .str _, n => Nat.beq n 1
  | _, _ => true

/-- By-value append. -/
def appA (T : TT) (t : TypeId) (x y : AV) : Option AV :=
  match T t with
  | none => none
  | some ti => match ti.kind with
    | .slice e => match T e with
      | none => none
      | some ei => match x, elsOf y with
        | .sl as, some bs => bif okSz ei.size as && okSz ei.size bs && decide ((as.length + bs.length) * ei.bytes ≤ 140737488355328) && decide (0 < ei.bytes) && strOk y ei.size then some (.sl (as ++ bs)) else none
        | _, _ => none
    | _ => none

def lenA (T : TT) (t : TypeId) (x : AV) : Option AV :=
  match T t with
  | none => none
  | some ti => match ti.kind, x with
    | .slice _, .sl es => some (.int .i64 es.length)
    | .slice _, .hs _ _ n _ _ => some (.int .i64 n)
    | .slice _, .hn => some (.int .i64 0)
    | .str, .str s => some (.int .i64 s.length)
    | .array n _, _ => some (.int .i64 n)
    | _, _ => none

def minA (big : Bool) : AV → AV → Option AV
  | .int k x, .int _ y => some (.int k (bif big then (if y > x then y else x) else (if y < x then y else x)))
  | _, _ => none
def minsA (big : Bool) : List AV → Option AV
  | [] => none
  | [x] => some x
  | x :: y :: r => match minA big x y with
    | some z => minsA big (z :: r)
    | none => none
  termination_by l => l.length

def extractA (x : AV) (i : Nat) : Option AV := match x with
  | .tup vs => vs[i]?
  | _ => none

def pickA (c a b : AV) : Option AV := match c with
  | .bool true => some a
  | .bool false => some b
  | _ => none

def mkIfaceA (T : TT) (t : TypeId) (x : AV) : Option AV := match T t with
  | none => none
  | some ti => match ti.kind with
    | .iface => none
    | _ => some (.iface t x)

/-! ### The abstract heap -/
def newH (cs : List AV) : M AV := fun h => .ok (.hp h.length 0) (h ++ [cs])
def loadH (T : TT) (t : TypeId) (x : AV) : M AV := fun h =>
  match x with
  | .hp l off => match T t, h[l]? with
    | some ti, some cs => bif ti.agg then (if off + ti.size ≤ cs.length then .ok (.agg ((cs.drop off).take ti.size)) h else .fail)
      else match cs[off]? with
        | some v => .ok v h
        | none => .fail
    | _, _ => .fail
  | x => match loadA T t x with
    | some v => .ok v h
    | none => .fail
def storeH (T : TT) (t : TypeId) (x v : AV) : M AV := fun h =>
  match x, T t with
  | .hp l off, some ti => match h[l]? with
    | some cs => bif okEl ti.size v && decide (off + ti.size ≤ cs.length) && decide (0 < ti.size) then .ok (.tup []) (h.set l (setCells cs off (acells v))) else .fail
    | none => .fail
  | _, _ => .fail
/-- An append whose result lies in the abstract heap. -/
def appH (T : TT) (t : TypeId) (z : Bool) (x y : AV) : M AV := fun h =>
  match T t with
  | none => .fail
  | some ti => match ti.kind with
    | .slice e => match T e with
      | none => .fail
      | some ei => match elsOf y with
        | none => .fail
        | some bs => bif okSz ei.size bs && decide (0 < ei.bytes) && decide (0 < ei.size) && strOk y ei.size then
            match x with
            | .hn => bif bs.isEmpty then .ok .hn h else
              bif decide (bs.length * ei.bytes ≤ 140737488355328) then .ok (.hs h.length 0 bs.length ei.size ei.agg) (h ++ [bs.flatMap acells]) else .fail
            | .sl [] => bif z then (bif bs.isEmpty then .ok (.sl []) h else
              bif decide (bs.length * ei.bytes ≤ 140737488355328) then .ok (.hs h.length 0 bs.length ei.size ei.agg) (h ++ [bs.flatMap acells]) else .fail) else .fail
            | .hs l 0 len sz ag => match h[l]? with
              | none => .fail
              | some cs => bif sz == ei.size && ag == ei.agg && cs.all okCell && decide (cs.length = len * sz) && decide (0 < len) && decide ((len + bs.length) * ei.bytes ≤ 140737488355328) then
                  (bif bs.isEmpty then .ok (.hs l 0 len sz ag) h
                  else .ok (.hs h.length 0 (len + bs.length) sz ag) ((h.set l []) ++ [cs ++ bs.flatMap acells]))
                else .fail
            | _ => .fail
          else .fail
    | _ => .fail

/-- The cells of a slice in the heap become zero cells. -/
def clearH (T : TT) (t : TypeId) (x : AV) : M AV := fun h =>
  match T t with
  | none => .fail
  | some ti => match ti.kind with
    | .slice e => match T e with
      | none => .fail
      | some ei => match x with
        | .sl [] => .ok (.tup []) h
        | .hs l off len sz _ => match h[l]? with
          | none => .fail
          | some cs => bif Nat.beq sz ei.size && decide (off + len * sz ≤ cs.length) && decide (0 < len) && decide (0 < sz) && ei.zero.all okCell then
              .ok (.tup []) (h.set l (setCells cs off (List.replicate len ei.zero).flatten)) else .fail
        | _ => .fail
    | _ => .fail

/-! ### Cleaning: what leaves an isolated call -/
mutual
def cl (g : Nat → Nat → Nat → Nat → Bool → AV) : AV → AV
  | .agg cs => .agg (cls g cs)
  | .tup cs => .tup (cls g cs)
  | .sl es => .sl (cls g es)
  | .ip cs => .ip (cls g cs)
  | .hp _ _ => .any
  | .hs l off len sz ag => g l off len sz ag
  | .hn => .sl []
  | .fn f a c => .fn f (cls g a) (cls g c)
  | .iface t v => .iface t (cl g v)
  | .any => .any
  | .bool b => .bool b
  | .int k n => .int k n
  | .str s => .str s
  | .nilp => .nilp
  | .nilf => .nilf
  | .nili => .nili
def cls (g : Nat → Nat → Nat → Nat → Bool → AV) : List AV → List AV
  | [] => []
  | c :: cs => cl g c :: cls g cs
end
def noHs : Nat → Nat → Nat → Nat → Bool → AV := fun _ _ _ _ _ => .any
def frz : Nat → Hp → AV → AV
  | 0, _, a => cl noHs a
  | d + 1, h, a => cl (fun l off len sz ag => match h[l]? with
      | some cs => bif decide (off + len * sz ≤ cs.length) && decide (0 < sz) && (ag || (Nat.beq sz 1 && cs.all okCell)) then
          .sl ((List.range len).map fun i => frz d h (bif ag then .agg ((cs.drop (off + i * sz)).take sz) else nth cs (off + i * sz))) else .any
      | none => .any) a

/-! ### Environments -/
inductive SV where
  | val (a : AV)
  | loc (B off : Nat)
structure Ent where
  v : SV
  g : Option Nat
def Ent.none : Ent := ⟨.val .any, .none⟩
def lookE : List (Nat × Ent) → Nat → Ent
  | [], _ => Ent.none
  | (k, e) :: r, t => bif Nat.beq k t then e else lookE r t
structure Env where
  sl : List (Nat × Ent)
  al : List (Nat × Option Nat)
  nx : Nat
  lb : List (Nat × Nat)
def Env.get (e : Env) (t : Nat) : Ent := lookE e.sl t
def Env.set (e : Env) (t : Nat) (x : Ent) : Env := { e with sl := (t, x) :: e.sl }
def Ent.av (x : Ent) : AV := match x.v with
  | .val a => a
  | .loc _ _ => .any
def Env.av (e : Env) (t : Nat) : AV := (e.get t).av
def opnd (e : Env) : Operand → AV
  | .tmp t => e.av t
  | .const v => cA v
  | .func f => .fn (.func f) [] []
  | .global _ => .any

/-- F: immutable from the start; L: local cells; H: in the heap; S: local till the first store of the whole, then immutable. -/
inductive Kind where
  | F | L | H | S
  deriving DecidableEq

/-- What is carried into a loop or a join: slots with their ownership (none: not owned; some sz), local pointers, local blocks. -/
structure JA where
  vals : List (Nat × Option Nat)
  locs : List (Nat × Nat × Nat) := []
  lbs : List (Nat × Nat) := []
  /-- here all rows of the heap become immutable -/
  fz : Bool := false

structure Ann where
  iso : Bool := true
  kinds : List (Nat × Kind) := []
  hl : List Nat := []
  /-- results of appends that lie in the heap -/
  ha : List Nat := []
  /-- built values whose nil slices are told -/
  hb : List Nat := []
  joins : List (Nat × JA) := []
  loops : List (Nat × JA) := []
  ords : List (Nat × List Nat) := []
  /-- at the first store to a local variable, by its slot: which of its cells are nil slices that may grow -/
  nils : List (Nat × List Nat) := []
  /-- results of loads with which all rows of the heap become immutable -/
  fz : List Nat := []
  /-- built slices that nobody owns -/
  no : List Nat := []
  /-- results of loads that read no local memory -/
  nl : List Nat := []
  /-- pointers through which local memory alone is written -/
  lw : List Nat := []
  deriving Inhabited

def findK (l : List (Nat × Kind)) (t : Nat) (dflt : Kind) : Kind := match l with
  | [] => dflt
  | (k, x) :: r => bif Nat.beq k t then x else findK r t dflt
def findJ (l : List (Nat × JA)) (t : Nat) : Option JA := match l with
  | [] => none
  | (k, x) :: r => bif Nat.beq k t then some x else findJ r t
def findO (l : List (Nat × List Nat)) (t : Nat) : Option (List Nat) := match l with
  | [] => none
  | (k, x) :: r => bif Nat.beq k t then some x else findO r t
def memN (l : List Nat) (t : Nat) : Bool := match l with
  | [] => false
  | k :: r => bif Nat.beq k t then true else memN r t
def memO (l : List Nat) : Option Nat → Bool
  | some t => memN l t
  | none => false

/-- The context of the evaluation of one function. -/
structure Cx where
  T : TT
  call : FuncId → List AV → M AV
  own : FuncId → Option Nat
  iso : FuncId → Bool
  /-- calls that only make new rows -/
  nw : FuncId → Bool := fun _ => false
  nt : Nat
  ann : Ann

def aliveG (al : List (Nat × Option Nat)) (g : Nat) : Option (Option Nat) := match al with
  | [] => none
  | (k, x) :: r => bif Nat.beq k g then some x else aliveG r g
def dropG (al : List (Nat × Option Nat)) (g : Nat) : List (Nat × Option Nat) := match al with
  | [] => []
  | (k, x) :: r => bif Nat.beq k g then dropG r g else (k, x) :: dropG r g

def lbase (d : Nat) : Nat := 1000 * (d + 1)

def getLs (e : Env) (B : Nat) : Nat → List AV
  | 0 => []
  | n + 1 => getLs e B n ++ [e.av (B + n)]
def lbSize (l : List (Nat × Nat)) (B : Nat) : Option Nat := match l with
  | [] => none
  | (k, x) :: r => bif Nat.beq k B then some x else lbSize r B
/-- n cells from off on lie in the local block B. -/
def inLb (e : Env) (B off n : Nat) : Bool := match lbSize e.lb B with
  | some m => decide (off + n ≤ m) && decide (1000 ≤ B)
  | none => false

/-- The cells of a value of n cells. -/
def cellsN (n : Nat) (x : AV) : Option (List AV) := bif okEl n x then some (acells x) else none

def callV (call : FuncId → List AV → M AV) (f : AV) (args : List AV) : M AV := match f with
  | .fn (.func g) a c => call g (a ++ args ++ c)
  | _ => M.fail

def elemSize (T : TT) (t : TypeId) : Option Nat := match T t with
  | some ti => match ti.kind with
    | .slice e => (T e).map (·.size)
    | _ => none
  | none => none

def isNilConst : Operand → Bool
  | .const (.slice none 0 0) => true
  | _ => false

/-- An operand of a comparison: the literal nil slice is told. -/
def opndN (e : Env) (x : Operand) : AV := bif isNilConst x then .hn else opnd e x

/-- An argument; the literal nil slice may be told. -/
def opndT (told : Bool) (e : Env) (x : Operand) : AV := bif told then opndN e x else opnd e x

/-- What an operation does to an environment: the entry of its result, local cells, groups, a local block. -/
structure Upd where
  ent : Ent
  ls : List (Nat × Ent) := []
  drop : Option Nat := none
  add : List (Nat × Option Nat) := []
  lb : Option (Nat × Nat) := none
  unlb : Option Nat := none
def Upd.ofV (a : AV) : Upd := { ent := ⟨.val a, none⟩ }
def Upd.own (a : AV) (gid : Nat) (sz : Option Nat) : Upd := { ent := ⟨.val a, some gid⟩, add := [(gid, sz)] }
def dropO (al : List (Nat × Option Nat)) : Option Nat → List (Nat × Option Nat)
  | some g => dropG al g
  | none => al
def dropB (l : List (Nat × Nat)) (B : Nat) : List (Nat × Nat) := match l with
  | [] => []
  | (k, x) :: r => bif Nat.beq k B then dropB r B else (k, x) :: dropB r B
def dropLb (l : List (Nat × Nat)) : Option Nat → List (Nat × Nat)
  | some B => dropB l B
  | none => l
def addO {α : Type} (l : List α) : Option α → List α
  | some x => x :: l
  | none => l
def slD (d : Option Tmp) (x : Ent) (r : List (Nat × Ent)) : List (Nat × Ent) := match d with
  | some t => (t, x) :: r
  | none => r
def Env.upd (e : Env) (d : Option Tmp) (u : Upd) : Env :=
  { sl := slD d u.ent (u.ls ++ e.sl), al := u.add ++ dropO e.al u.drop, nx := e.nx, lb := addO (dropLb e.lb u.unlb) u.lb }

/-- An operation: what is computed, and what becomes of the environment. -/
inductive Act1 where
  | bad
  | stat (u : Upd)
  | dyn (m : M AV) (sh : AV → Upd)
  | thr (v : AV)

/-- n local cells from B on; those at offs are nil slices that open groups. -/
def lsOf (B : Nat) (cs : List AV) (offs : List Nat) (gid n : Nat) : List (Nat × Ent) :=
  (List.range n).map fun i => (B + i, bif memN offs i then ⟨.val (.sl []), some (gid + i)⟩ else ⟨.val (nth cs i), none⟩)
def gsOf (offs : List Nat) (gid : Nat) : List (Nat × Option Nat) := offs.map fun i => (gid + i, none)
def isHn : AV → Bool
  | .hn => true
  | _ => false
def nilsAt (cs : List AV) (offs : List Nat) (n : Nat) : Bool := offs.all fun i => decide (i < n) && isHn (nth cs i)
def findN (l : List (Nat × List Nat)) (t : Nat) : List Nat := match findO l t with
  | some x => x
  | none => []
/-- No slot points to local cells from B on. -/
def locFree (l : List (Nat × Ent)) (B : Nat) : Bool := l.all fun x => match x.2.v with
  | .loc C _ => !(Nat.beq C B)
  | .val _ => true

def isAppT (T : TT) (t : Nat) : Bool := match T t with
  | some ti => (match ti.kind with | .slice _ | .str => true | _ => false)
  | none => false
def szOk (z : Option Nat) (s : Option Nat) : Bool := match z with
  | none => true
  | some n => (match s with | some m => Nat.beq n m | none => false)

/-- A value of n cells, as an aggregate of its cells. -/
def cellsM (n : Nat) (x : AV) : M AV := lft ((cellsN n x).map .agg)
/-- A value of one cell. -/
def cell1M (x : AV) : M AV := lft (bif okCell x then some x else none)
/-- The same, where some cells have to be nil slices. -/
def cellsNil (n : Nat) (offs : List Nat) (x : AV) : M AV := lft (match cellsN n x with
  | some cs => bif nilsAt cs offs n then some (.agg cs) else none
  | none => none)

/-- All rows become immutable. -/
def fzM (v : AV) : M AV := fun h => .ok (frz 6 h v) (h.map fun _ => [])
/-- An owned slice without spare places. -/
def noSpare (e : Env) : Operand → Bool
  | .tmp s => (match (e.get s).g with
    | some g => (match aliveG e.al g with | some none => true | _ => false)
    | none => false)
  | _ => false

def opCall (cx : Cx) (e : Env) (gid : Nat) (o : Oper) (c : Call) : Act1 :=
  match c.callee with
  | .value (.func f) => bif memO cx.ann.fz o.dst then (bif !(cx.iso f) && !(cx.nw f) && (cx.own f).isNone then .dyn (bnd (cx.call f (c.args.toList.map (opnd e))) fzM) .ofV else .bad) else
    .dyn (cx.call f (c.args.toList.map (opndT (memO cx.ann.hb o.dst) e))) fun v => match cx.own f with | some sz => .own v gid (some sz) | none => .ofV v
  | .value f => .dyn (callV cx.call (opnd e f) (c.args.toList.map (opnd e))) .ofV
  | .builtin .len => match c.argTypes.toList, c.args.toList with
    | t :: _, x :: _ => .dyn (lft (lenA cx.T t (opnd e x))) .ofV
    | _, _ => .bad
  | .builtin .clear => match c.argTypes.toList, c.args.toList with
    | t :: _, x :: _ => .dyn (clearH cx.T t (opnd e x)) .ofV
    | _, _ => .bad
  | .builtin .min => .dyn (lft (minsA false (c.args.toList.map (opnd e)))) .ofV
  | .builtin .max => .dyn (lft (minsA true (c.args.toList.map (opnd e)))) .ofV
  | .builtin .append => match c.argTypes.toList, c.args.toList with
    | [t, u], [x, y] =>
      bif !(isAppT cx.T u) then .bad else
      bif memO cx.ann.ha o.dst then .dyn (appH cx.T t (noSpare e x) (opnd e x) (opnd e y)) .ofV
      else bif isNilConst x then .dyn (lft (appA cx.T t (.sl []) (opnd e y))) fun v => .own v gid (elemSize cx.T t)
      else match x with
        | .tmp s => match (e.get s).g with
          | none => .bad
          | some g => match aliveG e.al g with
            | none => .bad
            | some z => bif szOk z (elemSize cx.T t) then
                .dyn (lft (appA cx.T t (opnd e x) (opnd e y))) fun v => { Upd.own v gid (elemSize cx.T t) with drop := some g }
              else .bad
        | _ => .bad
    | _, _ => .bad
  | _ => .bad

def opLoad (cx : Cx) (e : Env) (d : Option Tmp) (t : TypeId) (p : Nat) : Act1 :=
  match (e.get p).v with
  | .loc B off => match cx.T t with
    | none => .bad
    | some ti => bif inLb e B off ti.size then
        (bif ti.agg then .stat (.ofV (.agg (getLs e (B + off) ti.size))) else bif decide (ti.size = 1) then .stat { ent := e.get (B + off) } else .bad)
      else .bad
  | .val a => bif memO cx.ann.hl d then .dyn (loadH cx.T t a) .ofV else .dyn (lft (loadA cx.T t a)) .ofV

def fzA : Act1 → Act1
  | .bad => .bad
  | .stat u => .dyn (fzM u.ent.av) .ofV
  | .dyn m sh => .dyn (bnd m fun v => fzM (sh v).ent.av) .ofV
  | .thr v => .thr v

def isS : Kind → Bool
  | .S => true
  | _ => false
/-- A pointer to the whole of the local block of slot p. -/
def wholeB (e : Env) (B off p n : Nat) : Bool := Nat.beq off 0 && Nat.beq B (lbase p) && (match lbSize e.lb B with
  | some m => Nat.beq m n
  | none => false)

def opStore (cx : Cx) (e : Env) (gid : Nat) (t : TypeId) (p : Nat) (y : Operand) : Act1 :=
  match (e.get p).v with
  | .loc B off => match cx.T t with
    | none => .bad
    | some ti => bif inLb e B off ti.size then
        (bif isS (findK cx.ann.kinds p .L) then (bif wholeB e B off p ti.size then
            .dyn (cellsM ti.size (opnd e y)) fun v => { Upd.ofV (.tup []) with ls := [(p, ⟨.val (.ip (acells v)), none⟩)], unlb := some B }
          else .bad)
        else
        bif ti.agg then
          (match findN cx.ann.nils p with
          | offs => .dyn (cellsNil ti.size offs (opnd e y)) fun v => { Upd.ofV (.tup []) with ls := lsOf (B + off) (acells v) offs gid ti.size, add := gsOf offs gid })
        else bif decide (ti.size = 1) then (match y with
          | .tmp s => match (e.get s).v with
            | .val a => .dyn (cell1M a) fun _ => { Upd.ofV (.tup []) with ls := [(B + off, e.get s)] }
            | .loc _ _ => .bad
          | y => bif isNilConst y then .stat { Upd.ofV (.tup []) with ls := [(B + off, ⟨.val (.sl []), some gid⟩)], add := [(gid, none)] }
            else .dyn (cell1M (opnd e y)) fun v => { Upd.ofV (.tup []) with ls := [(B + off, ⟨.val v, none⟩)] }) else .bad)
      else .bad
  | .val a => .dyn (storeH cx.T t a (opnd e y)) .ofV

def opField (cx : Cx) (e : Env) (t : TypeId) (p f : Nat) : Act1 :=
  match (e.get p).v with
  | .loc B off => match cx.T t with
    | none => .bad
    | some ti => match ti.offs[f]? with
      | none => .bad
      | some (o', ft, _) => match cx.T ft with
        | none => .bad
        | some fi => bif decide (fi.size = 0) then .bad else .stat { ent := ⟨.loc B (off + o'), none⟩ }
  | .val a => .dyn (lft (fieldAddrA cx.T t a f)) .ofV

def constInt : Operand → Option Int
  | .const (.int _ n) => some n
  | _ => none

def opIndexAddr (cx : Cx) (e : Env) (t : TypeId) (p : Nat) (i : Operand) : Act1 :=
  match (e.get p).v with
  | .loc B off => match cx.T t, constInt i with
    | some ti, some n => match ti.kind with
      | .array m el => match cx.T el with
        | none => .bad
        | some ei => bif decide (0 ≤ n ∧ n < m) then .stat { ent := ⟨.loc B (off + n.toNat * ei.size), none⟩ } else .bad
      | _ => .bad
    | _, _ => .bad
  | .val a => .dyn (lft (indexAddrA cx.T t a (opnd e i))) .ofV

def opAlloc (cx : Cx) (e : Env) (gid s : Nat) (t : TypeId) : Act1 :=
  match cx.T t with
  | none => .bad
  | some ti => match findK cx.ann.kinds s .L with
    | .F => .stat (.ofV (.ip ti.zero))
    | .H => .dyn (newH (zerosOf (memN cx.ann.hb s) ti)) .ofV
    | _ => match findN cx.ann.nils s with
      | offs => bif decide (ti.size < 1000) && locFree e.sl (lbase s) && nilsAt (zerosOf true ti) offs ti.size then
          .stat { ent := ⟨.loc (lbase s) 0, none⟩, ls := lsOf (lbase s) (zerosOf (memN cx.ann.hb s) ti) offs gid ti.size, add := gsOf offs gid, lb := some (lbase s, ti.size) } else .bad

def opBox (cx : Cx) (e : Env) (s : Nat) (t : TypeId) (x : Operand) : Act1 :=
  match findK cx.ann.kinds s .F with
  | .F => .stat (.ofV (.ip (acells (opnd e x))))
  | .H => .dyn (newH (acells (opnd e x))) .ofV
  | _ => match cx.T t with
    | none => .bad
    | some ti => bif decide (ti.size < 1000) && locFree e.sl (lbase s) then
        .dyn (cellsM ti.size (opnd e x)) fun v => { ent := ⟨.loc (lbase s) 0, none⟩, ls := lsOf (lbase s) (acells v) [] 0 ti.size, lb := some (lbase s, ti.size) }
      else .bad

def opMove (told : Bool) (e : Env) (gid : Nat) (x : Operand) : Act1 := match x with
  | .tmp t => .stat { ent := e.get t }
  | x => bif isNilConst x then (bif told then .stat (.ofV .hn) else .stat (.own (.sl []) gid none)) else .stat (.ofV (opnd e x))

def isLocE (x : Ent) : Bool := match x.v with
  | .loc _ _ => true
  | .val _ => false

def panM : AV → M AV
  | .iface t v => throwM (.iface t v)
  | _ => M.fail

def isLit : Operand → Bool
  | .const _ => true
  | _ => false
/-- A comparison of two interface values, neither of them a literal. -/
def ifcCmp (T : TT) (op : BinOp) (t : TypeId) (x y : Operand) : Bool :=
  (match op with | .eql | .neq => true | _ => false) && (match T t with | some ti => (match ti.kind with | .iface => true | _ => false) | none => false) && !(isLit x) && !(isLit y)

/-- One operation, its guard left aside; gid names the group that it may open. -/
def opD (cx : Cx) (e : Env) (gid : Nat) (o : Oper) : Act1 :=
  match o.op with
  | .move x => opMove (memO cx.ann.hb o.dst) e gid x
  | .assign x => opMove (memO cx.ann.hb o.dst) e gid x
  | .pick c a b => .dyn (lft (pickA (opnd e c) (opnd e a) (opnd e b))) .ofV
  | .box t x => match o.dst with
    | none => .bad
    | some s => opBox cx e s t x
  | .alloc t => match o.dst with
    | none => .bad
    | some s => opAlloc cx e gid s t
  | .load t x => match x with
    | .tmp p => bif memO cx.ann.nl o.dst && isLocE (e.get p) then .bad else bif memO cx.ann.fz o.dst then fzA (opLoad cx e o.dst t p) else opLoad cx e o.dst t p
    | _ => .bad
  | .store t x y => match x, o.dst with
    | .tmp p, none => bif memN cx.ann.lw p && !(isLocE (e.get p)) then .bad else opStore cx e gid t p y
    | _, _ => .bad
  | .build t parts => .dyn (lft (buildA cx.T (memO cx.ann.hb o.dst) t (parts.toList.map fun p => (p.1, opnd e p.2)))) .ofV
  | .buildSlice t n parts => .dyn (lft (buildSliceA cx.T t n (parts.toList.map fun p => (p.1, opnd e p.2)))) fun v => bif memO cx.ann.no o.dst then .ofV v else .own v gid none
  | .nilCheck x => match x with
    | .tmp p => match (e.get p).v with
      | .loc _ _ => .stat { ent := e.get p }
      | .val a => .dyn (lft (nilChkA a)) .ofV
    | _ => .bad
  | .binOp op t x y _ => bif ifcCmp cx.T op t x y then .bad else .dyn (lft (binA cx.T op t (opndN e x) (opndN e y))) .ofV
  | .unOp op _ x => .dyn (lft (unA op (opnd e x))) .ofV
  | .convert s t x => .dyn (lft (convA cx.T s t (opnd e x))) .ofV
  | .makeInterface t x => .dyn (lft (mkIfaceA cx.T t (opnd e x))) .ofV
  | .makeFunc f a c => .stat (.ofV (.fn f (a.toList.map (opnd e)) (c.toList.map (opnd e))))
  | .makeSlice t n c => .dyn (lft (makeSliceA cx.T t (opnd e n) (opnd e c))) fun v => .own v gid (elemSize cx.T t)
  | .slice t x lo hi mx =>
    .dyn (lft (sliceA cx.T t (opnd e x) (lo.map (opnd e)) (hi.map (opnd e)) (mx.map (opnd e)))) fun v => bif mx.isSome then .own v gid none else .ofV v
  | .fieldAddr t x f => match x with
    | .tmp p => opField cx e t p f
    | _ => .bad
  | .indexAddr t x i => match x with
    | .tmp p => opIndexAddr cx e t p i
    | _ => .bad
  | .field t x f => .dyn (lft (fieldA cx.T t (opnd e x) f)) .ofV
  | .index t x i => .dyn (lft (indexStrA cx.T t (opnd e x) (opnd e i))) .ofV
  | .extract x i => .dyn (lft (extractA (opnd e x) i)) .ofV
  | .panic x => .dyn (panM (opnd e x)) .ofV
  | .call c => opCall cx e gid o c
  | _ => .bad

/-- One operation by itself. -/
def runAct (e : Env) (d : Option Tmp) : Act1 → M Env
  | .bad => M.fail
  | .stat u => M.pure (e.upd d u)
  | .dyn m sh => bnd m fun v => M.pure (e.upd d (sh v))
  | .thr v => throwM v
def runOp (cx : Cx) (e : Env) (gid : Nat) (o : Oper) : M Env := runAct e o.dst (opD cx e gid o)

def guardOf (ops : Array Oper) (i : Nat) : Option (Nat × Bool) := match ops[i]? with
  | some o => o.guard
  | none => none
def sameG : Option (Nat × Bool) → Option (Nat × Bool) → Bool
  | none, none => true
  | some (a, x), some (b, y) => Nat.beq a b && (x == y)
  | _, _ => false
/-- The order, parted into groups of one guard each. -/
def groupsOf (ops : Array Oper) : List Nat → List (Option (Nat × Bool) × List Nat)
  | [] => []
  | i :: is => match groupsOf ops is with
    | (g, js) :: r => bif sameG (guardOf ops i) g then (g, i :: js) :: r else (guardOf ops i, [i]) :: (g, js) :: r
    | [] => [(guardOf ops i, [i])]

def opTmps (o : Oper) : List Nat := o.op.operands.toList.filterMap fun | .tmp t => some t | _ => none
def readsOf (ops : Array Oper) (i : Nat) : List Nat := match ops[i]? with
  | none => []
  | some o => (match o.guard with
    | some (j, _) => (match (ops[j]?).bind (·.dst) with | some t => [t] | none => [])
    | none => []) ++ opTmps o
def dstOf (ops : Array Oper) (i : Nat) : Option Nat := (ops[i]?).bind (·.dst)
def dstsOf (ops : Array Oper) (is : List Nat) : List Nat := is.filterMap (dstOf ops)
def usedIn (ops : Array Oper) (gs : List (Option (Nat × Bool) × List Nat)) (t : Nat) : Bool :=
  gs.any fun g => g.2.any fun i => memN (readsOf ops i) t
def outsOf (ops : Array Oper) (is : List Nat) (gs : List (Option (Nat × Bool) × List Nat)) : List Nat := (dstsOf ops is).filter (usedIn ops gs)
def forget (e : Env) : List Nat → Env
  | [] => e
  | t :: ts => (forget e ts).set t Ent.none
def setOuts (e : Env) (vs : List AV) (i : Nat) : List Nat → Env
  | [] => e
  | t :: ts => (setOuts e vs (i + 1) ts).set t ⟨.val (nth vs i), none⟩
/-- What an operation does: reads and writes local cells, reads and writes the heap, may leave the region, opens groups, closes one. -/
structure Foot where
  rl : Bool := false
  wl : Bool := false
  rh : Bool := false
  wh : Bool := false
  piv : Bool := false
  ad : Bool := false
  dr : Bool := false
  /-- only makes new rows of the heap -/
  nw : Bool := false

def footOf (cx : Cx) (o : Oper) : Foot := match o.op with
  | .move x => { ad := isNilConst x }
  | .assign x => { ad := isNilConst x }
  | .load .. => { rl := !(memO cx.ann.nl o.dst), rh := memO cx.ann.hl o.dst, wh := memO cx.ann.fz o.dst }
  | .store _ x y => { wl := true, wh := !(match x with | .tmp p => memN cx.ann.lw p | _ => false), ad := (match x with | .tmp p => !(findN cx.ann.nils p).isEmpty | _ => false) || isNilConst y }
  | .alloc _ => match o.dst with
    | some s => (match findK cx.ann.kinds s .L with | .F => {} | .H => { wh := true } | _ => { wl := true, ad := !(findN cx.ann.nils s).isEmpty })
    | none => {}
  | .box .. => match o.dst with
    | some s => (match findK cx.ann.kinds s .F with | .F => {} | .H => { wh := true } | _ => { wl := true })
    | none => {}
  | .buildSlice .. => { ad := !(memO cx.ann.no o.dst) }
  | .makeSlice .. => { ad := true }
  | .slice _ _ _ _ mx => { ad := mx.isSome }
  | .panic _ => { wh := true, piv := true }
  | .call c => match c.callee with
    | .builtin .clear => { wh := true }
    | .value (.func f) => bif cx.iso f then { ad := (cx.own f).isSome } else { wh := true, piv := true, nw := cx.nw f, ad := (cx.own f).isSome }
    | .value _ => { wh := true, piv := true }
    | .builtin .append => bif memO cx.ann.ha o.dst then { wh := true, dr := true } else { ad := true, dr := match c.args.toList with | x :: _ => !isNilConst x | [] => false }
    | _ => {}
  | _ => {}

/-- A store may make its variable immutable: it writes its pointer's slot then. -/
def storeSlot (o : Oper) : Option Nat := match o.op with
  | .store _ (.tmp p) _ => some p
  | _ => none

/-- What may stand in a guarded group: no local or owned memory turns there. -/
def plainOp (cx : Cx) (o : Oper) : Bool := !(footOf cx o).wl && !(footOf cx o).dr

def stripU (u : Upd) : Upd := { ent := ⟨u.ent.v, none⟩ }
/-- In a guarded group no group of owners is opened. -/
def stripA : Act1 → Act1
  | .bad => .bad
  | .stat u => .stat (stripU u)
  | .dyn m sh => .dyn m fun v => stripU (sh v)
  | .thr v => .thr v
def isValE (x : Ent) : Bool := match x.v with
  | .val _ => true
  | .loc _ _ => false

section
variable {ρ : Type}
def evAct (e : Env) (d : Option Tmp) (a : Act1) (k : Env → M ρ) : M ρ := match a with
  | .bad => M.fail
  | .stat u => k (e.upd d u)
  | .dyn m sh => bnd m fun v => k (e.upd d (sh v))
  | .thr v => throwM v

/-- Operations one after another, guards left aside; st: groups are not opened. -/
def evRun (cx : Cx) (base : Nat) (ops : Array Oper) (st : Bool) : List Nat → Env → (Env → M ρ) → M ρ
  | [], e, k => k e
  | i :: is, e, k => match ops[i]? with
    | none => M.fail
    | some o => evAct e o.dst (bif st then stripA (opD cx e ((base + i) * 1000) o) else opD cx e ((base + i) * 1000) o) fun e' => evRun cx base ops st is e' k

def evGrps (cx : Cx) (base : Nat) (ops : Array Oper) : List (Option (Nat × Bool) × List Nat) → Env → (Env → M ρ) → M ρ
  | [], e, k => k e
  | (none, is) :: gs, e, k => evRun cx base ops false is e fun e' => evGrps cx base ops gs e' k
  | (some (j, want), is) :: gs, e, k =>
    match dstOf ops j with
    | none => M.fail
    | some t =>
      let outs := outsOf ops is gs
      bif (is.all fun i => match ops[i]? with | some o => plainOp cx o && o.dst.isSome | none => false) && !(memN (dstsOf ops is) t) then
        bnd (guardM (e.av t) want outs.length (evRun cx base ops true is e fun e' => bif outs.all (fun t => isValE (e'.get t)) then M.pure (outs.map e'.av) else M.fail)) fun vs =>
          evGrps cx base ops gs (setOuts (forget e (dstsOf ops is)) vs 0 outs) k
      else M.fail
end

/-! ### Regions that draw their order -/
/-- Two operations, the first one earlier in the order, that may be exchanged. -/
def clash : Option Nat → Option Nat → Bool
  | some s, some t => Nat.beq s t
  | _, _ => false
def indep (cx : Cx) (ops : Array Oper) (i j : Nat) : Bool := match ops[i]?, ops[j]? with
  | some a, some b =>
    let x := footOf cx a
    let y := footOf cx b
    !x.piv && !(x.wl && (y.rl || y.wl)) && !(x.rl && y.wl) && !(x.wh && (y.rh || y.wh)) && !(x.rh && y.wh && !y.nw) &&
    !(x.dr && (y.dr || y.ad)) && !(x.ad && y.dr) && !(x.ad && y.ad && (x.wl || y.wl)) &&
    !(memO (readsOf ops j) a.dst) && !(memO (readsOf ops i) b.dst) && !(memO (readsOf ops j) (storeSlot a)) && !(memO (readsOf ops i) (storeSlot b)) &&
    !(clash (storeSlot a) b.dst) && !(clash a.dst (storeSlot b)) && !(clash a.dst b.dst)
  | _, _ => false

/-- What stands before each operation, as the edges say. -/
def maskOf (acc : List Nat) : List Edge → Nat
  | [] => 0
  | x :: xs => bif Region.binds .any x then maskOf acc xs ||| 2 ^ x.on ||| acc.getD x.on 0 else maskOf acc xs
def befs : List Oper → List Nat → List Nat
  | [], acc => acc
  | o :: os, acc => befs os (acc ++ [maskOf acc o.after.toList])

def pairsOk (cx : Cx) (ops : Array Oper) (bf : List Nat) : List Nat → Bool
  | [] => true
  | i :: is => !((bf.getD i 0).testBit i) && (is.all fun j => !((bf.getD i 0).testBit j) && ((bf.getD j 0).testBit i || indep cx ops i j)) && pairsOk cx ops bf is

def permOk (n : Nat) (ord : List Nat) : Bool := Nat.beq ord.length n && ((List.range n).all fun i => memN ord i)
def distinct : List Nat → Bool
  | [] => true
  | i :: is => !(memN is i) && distinct is

/-- No operation writes beyond the frame's slots. -/
def dstsSmall (n : Nat) (ops : Array Oper) : Bool := ops.all fun o => (match o.dst with | some t => decide (t < n) | none => true) && (opTmps o).all fun t => decide (t < 1000)

def noPan {α : Type} (m : M α) : M α := fun h => match m h with
  | .ok a h' => .ok a h'
  | .pan _ _ => .fail
  | .fail => .fail

def cxDraw (cx : Cx) : Cx := { cx with call := fun f args => bif cx.iso f then noPan (cx.call f args) else cx.call f args }

def drawOk (cx : Cx) (ops : Array Oper) (ord : List Nat) : Bool :=
  permOk ops.size ord && distinct ord && (ord.all fun i => decide (i < ops.size)) && (befs ops.toList []).all (fun m => decide (m < 2 ^ ops.size)) && pairsOk cx ops (befs ops.toList []) ord

def ordOf (cx : Cx) (id n : Nat) : List Nat := match findO cx.ann.ords id with
  | some l => l
  | none => List.range n
def evReg {ρ : Type} (cx : Cx) (id : Nat) (ops : Array Oper) (draw : Bool) (e : Env) (k : Env → M ρ) : M ρ :=
  bif dstsSmall cx.nt ops then
    (bif draw then
      (bif drawOk cx ops (ordOf cx id ops.size) then evGrps (cxDraw cx) e.nx ops (groupsOf ops (ordOf cx id ops.size)) e fun e' => k { e' with nx := e.nx + ops.size } else M.fail)
    else evGrps cx e.nx ops (groupsOf ops (List.range ops.size)) e fun e' => k { e' with nx := e.nx + ops.size })
  else M.fail

/-! ### Packing -/
def packVals (e : Env) : List (Nat × Option Nat) → List Nat → Option (List AV)
  | [], _ => some []
  | (t, none) :: r, used => match (e.get t).v with
    | .val a => match packVals e r used with
      | some vs => some (a :: vs)
      | none => none
    | .loc _ _ => none
  | (t, some sz) :: r, used => match (e.get t).v, (e.get t).g with
    | .val a, some g => match aliveG e.al g with
      | none => none
      | some z => bif (match z with | none => true | some n => Nat.beq n sz) && !(memN used g) then
          match packVals e r (g :: used) with
          | some vs => some (a :: vs)
          | none => none
        else none
    | _, _ => none
def locsOk (e : Env) : List (Nat × Nat × Nat) → Bool
  | [] => true
  | (t, B, off) :: r => (match (e.get t).v with
    | .loc B' off' => Nat.beq B B' && Nat.beq off off'
    | .val _ => false) && locsOk e r
def lbsOk (e : Env) : List (Nat × Nat) → Bool
  | [] => true
  | (B, n) :: r => (match lbSize e.lb B with
    | some m => Nat.beq n m
    | none => false) && lbsOk e r
def pack (ja : JA) (e : Env) : Option (List AV) :=
  bif locsOk e ja.locs && lbsOk e ja.lbs then packVals e ja.vals [] else none
def unpackVals (vs : List AV) : Nat → List (Nat × Option Nat) → List (Nat × Ent)
  | _, [] => []
  | i, (t, none) :: r => (t, ⟨.val (nth vs i), none⟩) :: unpackVals vs (i + 1) r
  | i, (t, some _) :: r => (t, ⟨.val (nth vs i), some i⟩) :: unpackVals vs (i + 1) r
def unpackAl : Nat → List (Nat × Option Nat) → List (Nat × Option Nat)
  | _, [] => []
  | i, (_, none) :: r => unpackAl (i + 1) r
  | i, (_, some sz) :: r => (i, some sz) :: unpackAl (i + 1) r
def unpack (ja : JA) (vs : List AV) : Env :=
  { sl := unpackVals vs 0 ja.vals ++ ja.locs.map (fun x => (x.1, ⟨.loc x.2.1 x.2.2, none⟩)), al := unpackAl 0 ja.vals, nx := ja.vals.length, lb := ja.lbs }

/-- The slot that the last branch of a piece of code asks. -/
def condKey : Code → Option Nat
  | .cond (.tmp t) _ _ => some t
  | .seq _ y => condKey y
  | .block id _ => some (1000000 + id)
  | _ => none

abbrev Fix (ρ : Type) := ((List AV → M ρ) → List AV → M ρ) → List AV → M ρ

/-- All rows become immutable. -/
def fzL (vs : List AV) : M (List AV) := fun h => .ok (vs.map (frz 6 h)) (h.map fun _ => [])
def toJ {ρ : Type} (ja : JA) (j : List AV → M ρ) (e : Env) : M ρ := match pack ja e with
  | some vs => bif ja.fz then bnd (fzL vs) j else j vs
  | none => M.fail

section
variable {ρ : Type}
/-- A piece of code, with what follows it: normally, out of a block, at a return. -/
def ev (cx : Cx) (fx : Fix ρ) : Code → Env → (Env → M ρ) → (Nat → Env → M ρ) → (Env → M ρ) → M ρ
  | .skip, e, kn, _, _ => kn e
  | .region id ops draw, e, kn, _, _ => evReg cx id ops draw e kn
  | .seq x y, e, kn, kx, kr =>
    match (match condKey x with | some t => findJ cx.ann.joins t | none => none) with
    | some ja => jn (fun vs => ev cx fx y (unpack ja vs) kn kx kr) fun j => ev cx fx x e (toJ ja j) kx kr
    | none => ev cx fx x e (fun e' => ev cx fx y e' kn kx kr) kx kr
  | .cond (.tmp t) x y, e, kn, kx, kr => bif decide (t < 1000) then condM (e.av t) (ev cx fx x e kn kx kr) (ev cx fx y e kn kx kr) else M.fail
  | .cond (.const v) x y, e, kn, kx, kr => condM (cA v) (ev cx fx x e kn kx kr) (ev cx fx y e kn kx kr)
  | .block id (.loop b), e, kn, kx, kr =>
    match findJ cx.ann.loops id with
    | none => M.fail
    | some ja => toJ ja (fx fun self vs => ev cx fx b (unpack ja vs) (toJ ja self) (fun i e' => bif Nat.beq i id then kn e' else kx i e') kr) e
  | .block id c, e, kn, kx, kr => ev cx fx c e kn (fun i e' => bif Nat.beq i id then kn e' else kx i e') kr
  | .exit id, e, _, kx, _ => kx id e
  | .ret, e, _, _, kr => kr e
  | _, _, _, _, _ => M.fail
end

/-! ### Functions -/
def resOf (T : TT) (e : Env) : ResultVar → Option AV
  | .tmp t => bif decide (t < 1000) then (match (e.get t).v with
    | .val a => some a
    | .loc _ _ => none) else none
  | .cell p t => bif decide (p < 1000) then (match (e.get p).v, T t with
    | .loc B off, some ti => bif inLb e B off ti.size then
        (bif ti.agg then some (.agg (getLs e (B + off) ti.size)) else bif decide (ti.size = 1) then some (e.av (B + off)) else none)
      else none
    | .val a, some _ => loadA T t a
    | _, _ => none) else none
def resAll (T : TT) (e : Env) : List ResultVar → Option (List AV)
  | [] => some []
  | r :: rs => match resOf T e r, resAll T e rs with
    | some v, some vs => some (v :: vs)
    | _, _ => none
def tupOf : List AV → AV
  | [v] => v
  | vs => .tup vs
/-- The one result is owned. -/
def ownRes (fn : Func) (e : Env) (sz : Nat) : Bool := match fn.results.toList with
  | [.tmp t] => decide (t < 1000) && (match (e.get t).g with
    | some g => (match aliveG e.al g with | some z => szOk z (some sz) | none => false)
    | none => false)
  | _ => false
def retK (cx : Cx) (fn : Func) (own : Option Nat) (e : Env) : M AV :=
  bif (match own with | some sz => ownRes fn e sz | none => true) then bnd (lft ((resAll cx.T e fn.results.toList).map tupOf)) M.pure else M.fail

def argSl : Nat → List AV → List (Nat × Ent)
  | _, [] => []
  | i, a :: as => (i, ⟨.val a, none⟩) :: argSl (i + 1) as
/-- Slots that no argument fills hold no value yet. -/
def env0 (args : List AV) : Env := { sl := argSl 0 args, al := [], nx := 0, lb := [] }

/-- The variables that turn immutable are the frame's own. -/
def kindsOk (n : Nat) (ks : List (Nat × Kind)) : Bool := ks.all fun x => !(isS x.2) || decide (x.1 < n)
def evBody (cx : Cx) (fx : Fix AV) (fn : Func) (own : Option Nat) (args : List AV) : M AV :=
  match fn.body with
  | none => M.fail
  | some c => bif decide (args.length ≤ fn.ntmps) && decide (fn.ntmps ≤ 1000) && kindsOk cx.nt cx.ann.kinds then
      ev cx fx c (env0 args) (retK cx fn own) (fun _ _ => M.fail) (retK cx fn own)
    else M.fail

/-- A call that sees nothing of the heap. -/
def isoM (m : List AV → M AV) (args : List AV) : M AV := fun h => match m (cls noHs args) [] with
  | .ok r h' => .ok (frz 6 h' r) h
  | .pan v h' => .pan (frz 6 h' v) h
  | .fail => .fail

/-- A program, as the evaluator sees it. -/
structure Pg where
  T : TT
  funcs : FuncId → Option (Func × Ann)
  own : FuncId → Option Nat
  /-- functions that are known by other means -/
  other : FuncId → Option ((FuncId → List AV → M AV) → List AV → M AV)
  nw : FuncId → Bool := fun _ => false

def Pg.iso (p : Pg) (f : FuncId) : Bool := match p.other f with
  | some _ => false
  | none => match p.funcs f with
    | some (_, a) => a.iso
    | none => false
def Pg.cx (p : Pg) (call : FuncId → List AV → M AV) (n : Nat) (a : Ann) : Cx := { T := p.T, call, own := p.own, iso := p.iso, nw := p.nw, nt := n, ann := a }

def evFun (p : Pg) (call : FuncId → List AV → M AV) (fx : Fix AV) (f : FuncId) (args : List AV) : M AV :=
  match p.other f with
  | some E => E call args
  | none => match p.funcs f with
    | none => M.fail
    | some (fn, a) => bif a.iso then isoM (evBody (p.cx call fn.ntmps a) fx fn (p.own f)) args else evBody (p.cx call fn.ntmps a) fx fn (p.own f) args

def evCall (p : Pg) : Nat → FuncId → List AV → M AV
  | 0, _, _ => M.fail
  | n + 1, f, args => evFun p (evCall p n) (fixM n) f args

end Go.Av

/- The pure operations of the abstract evaluator are right: each is what the model's operation computes. No condition. -/
namespace Go.Av

/-! ### The table of types -/
def kindOf : TypeDesc → TK
  | .bool => .bool
  | .int k => .int k
  | .string => .str
  | .slice e => .slice e
  | .struct _ => .struct
  | .array n e => .array n e
  | .interface _ => .iface
  | .pointer _ => .ptr
  | .func _ _ _ => .func
  | _ => .other
def aggOf : TypeDesc → Bool
  | .struct _ => true
  | .array _ _ => true
  | _ => false
def offsOf : TypeDesc → List (Nat × Nat × Bool)
  | .struct fs => fs.toList.map fun f => (f.offset, f.type, decide (f.name ≠ "_"))
  | _ => []
def aggV : Value → Bool
  | .agg _ => true
  | _ => false
def eqokOf (P : Program) (t : TypeId) : TypeDesc → Bool
  | .struct _ => !(P.stoodInHeld t) && !(P.eqGuardType P.depth t)
  | _ => false
def tiOf (P : Program) (t : TypeId) : Option TI :=
  match P.info? t, P.underlying t with
  | some i, some d => match i.zero with
    | some z => bif Nat.beq z.cells.size i.size && (aggV z == aggOf d) then
        some { agg := aggOf d, size := i.size, bytes := i.bytes, kind := kindOf d, offs := offsOf d, zero := z.cells.toList.map cA1, eqok := eqokOf P t d }
      else none
    | none => none
  | _, _ => none

structure TOK (P : Program) (T : TT) : Prop where
  ok : ∀ t ti, T t = some ti → tiOf P t = some ti
  mix : P.follows .mixedOrders = true

structure TIok (P : Program) (t : TypeId) (ti : TI) : Prop where
  ex : ∃ i d z, P.info? t = some i ∧ P.underlying t = some d ∧ i.zero = some z ∧ z.cells.size = i.size ∧ i.size = ti.size ∧ i.bytes = ti.bytes ∧
    kindOf d = ti.kind ∧ aggOf d = ti.agg ∧ offsOf d = ti.offs ∧ z.cells.toList.map cA1 = ti.zero ∧ eqokOf P t d = ti.eqok ∧
    (ti.agg = true → ∃ cs, z = .agg cs) ∧ (ti.agg = false → ∀ cs, z ≠ .agg cs)

theorem TOK.get {P : Program} {T : TT} (h : TOK P T) {t : TypeId} {ti : TI} (ht : T t = some ti) : TIok P t ti := by
  have := h.ok t ti ht
  unfold tiOf at this
  split at this
  · rename_i i d hi hd
    split at this
    · rename_i z hz
      cases hb : (Nat.beq z.cells.size i.size && (aggV z == aggOf d)) with
      | false => rw [hb] at this; simp at this
      | true =>
        rw [hb] at this
        simp only [cond_true, Option.some.injEq] at this
        subst this
        rw [Bool.and_eq_true] at hb
        obtain ⟨h1, h2⟩ := hb
        have h2 : aggV z = aggOf d := by simpa using h2
        refine ⟨i, d, z, hi, hd, hz, Nat.eq_of_beq_eq_true h1, rfl, rfl, rfl, rfl, rfl, rfl, rfl, fun hx => ?_, fun hx cs hz' => ?_⟩
        · simp only [← h2] at hx
          cases z <;> simp_all [aggV]
        · subst hz'; simp only [← h2] at hx; simp [aggV] at hx
    · simp at this
  · simp at this

/-! ### Constants -/
theorem VR_cA1 (S : Stab) (β : List Blk) (v : Value) : VR S β (cA1 v) v := by
  unfold cA1
  split <;> simp only [VR, ElsAt, List.length_nil]
  case h_3 => exact ⟨_, rfl, rfl⟩
  case h_5 => exact ⟨none, 0, rfl, Nat.le_refl _, fun _ => rfl, fun q h => by cases h⟩

theorem VRs_cA1 (S : Stab) (β : List Blk) (vs : List Value) : VRs S β (vs.map cA1) vs := by
  induction vs with
  | nil => simp [VRs]
  | cons v vs ih => simp only [List.map_cons, VRs]; exact ⟨v, vs, rfl, VR_cA1 S β v, ih⟩

theorem VR_cA (S : Stab) (β : List Blk) (v : Value) : VR S β (cA v) v := by
  unfold cA
  split
  · rename_i cs
    simp only [VR]
    exact ⟨cs.toList, by simp, VRs_cA1 S β _⟩
  · rename_i vs
    cases h : vs.isEmpty with
    | false => simp [VR]
    | true =>
      simp only [cond_true, VR]
      refine ⟨[], ?_, by simp [VRs]⟩
      simp at h
      simp [h]
  · exact VR_cA1 S β v

/-! ### A computation that leaves the world alone -/
def Pur (P : Program) (w : World) (S : Stab) (β : List Blk) (m : Sem Value) (r : AV) : Prop := ∃ v, m.run P w = .ok v w ∧ VR S β r v

section
variable {P : Program} {T : TT} {w : World} {S : Stab} {β : List Blk}

theorem run_sizeOf {t : TypeId} {i : TypeInfo} (h : P.info? t = some i) : (sizeOf t).run P w = .ok i.size w := by
  simp [sizeOf, typeInfo, h]
theorem run_isAgg {t : TypeId} {d : TypeDesc} (h : P.underlying t = some d) : (isAgg t).run P w = .ok (aggOf d) w := by
  simp only [isAgg, Sem.run_bind, run_underlying h, Result.andThen_ok]
  cases d <;> rfl

theorem VR.int_inv {k : IntKind} {n : Int} {v : Value} (h : VR S β (.int k n) v) : v = .int k n := by simpa [VR] using h
theorem VR.bool_inv {b : Bool} {v : Value} (h : VR S β (.bool b) v) : v = .bool b := by simpa [VR] using h

theorem pick_ok {c a b r : AV} {vc va vb : Value} (h : pickA c a b = some r) (hc : VR S β c vc) (ha : VR S β a va) (hb : VR S β b vb) :
    ∃ v, (do pure (if ← asBool vc then va else vb) : Sem Value).run P w = .ok v w ∧ VR S β r v := by
  unfold pickA at h
  split at h
  · simp at h; subst h; simp only [VR] at hc; subst hc; exact ⟨va, by simp [asBool], ha⟩
  · simp at h; subst h; simp only [VR] at hc; subst hc; exact ⟨vb, by simp [asBool], hb⟩
  · simp at h

theorem part_ok (hT : TOK P T) {t : TypeId} {ti : TI} (ht : T t = some ti) {cs : List AV} {vs : List Value} (h : VRs S β cs vs) {off : Nat} {r : AV}
    (hr : partA ti cs off = some r) : Pur P w S β (part t vs.toArray off) r := by
  obtain ⟨i, d, z, hi, hd, _, _, hsz, _, _, hag, _⟩ := (hT.get ht).ex
  unfold partA at hr
  cases ha : ti.agg with
  | true =>
    rw [ha] at hr
    simp only [cond_true, Option.some.injEq] at hr
    subst hr
    refine ⟨.agg (vs.toArray.extract off (off + ti.size)), ?_, ?_⟩
    · simp [part, run_isAgg hd, hag, ha, run_sizeOf hi, hsz]
    · simp only [VR]
      refine ⟨(vs.drop off).take ti.size, ?_, (h.drop off).take _⟩
      simp [List.extract_eq_take_drop, Nat.add_sub_cancel_left]
  | false =>
    rw [ha] at hr
    simp only [cond_false] at hr
    obtain ⟨v, hv, hR⟩ := h.get hr
    refine ⟨v, ?_, hR⟩
    simp only [part, Sem.run_bind, run_isAgg hd, Result.andThen_ok, hag, ha]
    simp [hv]

theorem strLess_eq : ∀ a b : List UInt8, Op.bytesLess a b = strLess a b
  | a, [] => by cases a <;> simp [Op.bytesLess, strLess]
  | [], _ :: _ => rfl
  | a :: x, b :: y => by simp [Op.bytesLess, strLess, strLess_eq x y]

theorem data_eq_iff {a b : ByteArray} : (a.data.toList = b.data.toList) ↔ a = b := by
  constructor
  · intro h
    cases a; cases b
    simp at h
    simp [h]
  · rintro rfl; rfl

mutual
theorem eqA_ok (hT : TOK P T) : (d : Nat) → (D : Nat) → d ≤ D → (t : TypeId) → (x y : AV) → (vx vy : Value) → (b : Bool) → eqA T d t x y = some b → VR S β x vx → VR S β y vy →
    (Op.equalIn D t vx vy).run P w = .ok b w
  | 0, _, _, t, x, y, vx, vy, b, h, _, _ => by simp [eqA] at h
  | d + 1, 0, hD, _, _, _, _, _, _, _, _, _ => by omega
  | d + 1, D + 1, hD, t, x, y, vx, vy, b, h, hx, hy => by
    unfold eqA at h
    cases ht : T t with
    | none => rw [ht] at h; simp at h
    | some ti =>
      rw [ht] at h
      obtain ⟨i, dd, z, hi, hd, _, _, hsz, _, hk, hag, hof, _, heq, _⟩ := (hT.get ht).ex
      simp only at h
      unfold Op.equalIn
      simp only [Sem.run_bind, run_underlying hd, Result.andThen_ok]
      split at h
      case h_1 => simp at h; simp only [VR] at hx hy; subst hx hy h; cases dd <;> simp_all [kindOf]
      case h_2 =>
        simp only [VR] at hx hy; subst hx hy
        split at h
        · rename_i hkk; simp at h; subst h; cases dd <;> simp_all [kindOf]
        · simp at h
      case h_3 =>
        simp only [VR] at hx hy
        obtain ⟨x, rfl, hx⟩ := hx
        obtain ⟨y, rfl, hy⟩ := hy
        simp at h
        subst h
        have hdd : dd = .string := by cases dd <;> simp_all [kindOf]
        subst hdd
        simp only [Sem.run_pure, beq_toListBytes, ByteArray.toList_eq, hx, hy]
      case h_4 => simp at h; simp only [VR] at hx hy; subst hx hy h; cases dd <;> simp_all [kindOf]
      case h_5 => simp at h; simp only [VR] at hx hy; obtain ⟨_, _, _, rfl, _⟩ := hy; subst hx h; cases dd <;> simp_all [kindOf]
      case h_6 => simp at h; simp only [VR] at hx hy; obtain ⟨_, _, _, rfl, _⟩ := hx; subst hy h; cases dd <;> simp_all [kindOf]
      case h_7 => simp at h; simp only [VR] at hx hy; obtain ⟨_, _, rfl⟩ := hy; subst hx h; cases dd <;> simp_all [kindOf]
      case h_8 => simp at h; simp only [VR] at hx hy; obtain ⟨_, _, rfl⟩ := hx; subst hy h; cases dd <;> simp_all [kindOf]
      case h_9 => simp at h; simp only [VR] at hx hy; obtain ⟨_, rfl, _⟩ := hy; subst hx h; cases dd <;> simp_all [kindOf]
      case h_10 => simp at h; simp only [VR] at hx hy; obtain ⟨_, rfl, _⟩ := hx; subst hy h; cases dd <;> simp_all [kindOf]
      case h_11 xs ys hkind =>
        cases hok : ti.eqok with
        | false => rw [hok] at h; simp at h
        | true =>
          rw [hok] at h
          simp only [cond_true] at h
          simp only [VR] at hx hy
          obtain ⟨vx, rfl, hx⟩ := hx
          obtain ⟨vy, rfl, hy⟩ := hy
          cases dd <;> simp only [kindOf, hkind, reduceCtorEq] at hk
          rename_i fs
          have hst : P.stoodInHeld t = false := by
            rw [hok] at heq; simp [eqokOf] at heq; exact heq.1
          have hfs : P.fieldsOf t = fs := by simp [Program.fieldsOf, hd]
          have := run_equalIn_struct (P := P) w D t vx.toArray vy.toArray (by rw [hfs]; exact hd) hst
          unfold Op.equalIn at this
          simp only [Sem.run_bind, run_underlying hd, Result.andThen_ok] at this
          rw [← hof] at h
          have h2 := eqFs_ok hT d D (by omega) fs.toList xs ys vx vy b h hx hy
          rw [hfs] at this
          exact this.trans h2
      case h_12 => simp at h; simp only [VR] at hx hy; subst hx hy h; cases dd <;> simp_all [kindOf]
      case h_13 => simp at h; simp only [VR] at hx hy; obtain ⟨a, cap, rfl, h1, h2, _⟩ := hx; subst hy h; cases a <;> cases dd <;> simp_all [kindOf]
      case h_14 => simp at h; simp only [VR] at hx hy; obtain ⟨_, _, _, rfl, _⟩ := hx; subst hy h; cases dd <;> simp_all [kindOf]
      case h_15 => simp at h; simp only [VR] at hx hy; subst hx hy h; cases dd <;> simp_all [kindOf]
      case h_16 => simp at h
theorem eqFs_ok (hT : TOK P T) : (d : Nat) → (D : Nat) → d ≤ D → (fs : List Field) → (xs ys : List AV) → (vx vy : List Value) → (b : Bool) →
    eqFs T d (fs.map fun f => (f.offset, f.type, decide (f.name ≠ "_"))) xs ys = some b → VRs S β xs vx → VRs S β ys vy →
    (Op.eqFields D vx.toArray vy.toArray fs).run P w = .ok b w
  | d, D, hD, [], xs, ys, vx, vy, b, h, _, _ => by
    simp [eqFs] at h
    subst h
    simp [Op.eqFields]
  | 0, D, hD, f :: fs, xs, ys, vx, vy, b, h, _, _ => by simp [eqFs] at h
  | d + 1, D, hD, f :: fs, xs, ys, vx, vy, b, h, hx, hy => by
    simp only [List.map_cons, eqFs] at h
    unfold Op.eqFields
    by_cases hn : f.name = "_"
    · simp only [hn, ne_eq, not_true, decide_false, cond_false] at h
      simp only [hn, ne_eq, not_true, if_false]
      exact eqFs_ok hT d D (by omega) fs xs ys vx vy b h hx hy
    · simp only [ne_eq, hn, not_false_eq_true, decide_true, cond_true] at h
      simp only [ne_eq, hn, not_false_eq_true, if_true]
      cases ht : T f.type with
      | none => rw [ht] at h; simp at h
      | some ti =>
        rw [ht] at h
        simp only at h
        split at h
        · rename_i a c ha hc
          obtain ⟨va, hva, hra⟩ := part_ok (w := w) (S := S) (β := β) hT ht hx ha
          obtain ⟨vc, hvc, hrc⟩ := part_ok (w := w) (S := S) (β := β) hT ht hy hc
          simp only [Sem.run_bind, hva, hvc, Result.andThen_ok]
          split at h
          · rename_i he
            rw [eqA_ok hT d D (by omega) f.type a c va vc true he hra hrc]
            simp only [Result.andThen_ok, Bool.not_true, Bool.false_eq_true, if_false]
            exact eqFs_ok hT d D (by omega) fs xs ys vx vy b h hx hy
          · rename_i he
            rw [eqA_ok hT d D (by omega) f.type a c va vc false he hra hrc]
            simp at h
            subst h
            simp
          · simp at h
        · simp at h
end

theorem bin_ok (hT : TOK P T) {op : BinOp} {t : TypeId} {x y r : AV} {vx vy : Value} (ox oy : Operand) (hlit : ifcCmp T op t ox oy = false) (h : binA T op t x y = some r) (hx : VR S β x vx) (hy : VR S β y vy) :
    Pur P w S β (do eqGuard op t ox oy vx vy; binOp op t vx vy) r := by
  unfold binA at h
  split at h
  · rename_i k a k' c
    have := hx.int_inv; subst this
    have := hy.int_inv; subst this
    have hg : (eqGuard op t ox oy (.int k a) (.int k' c)).run P w = .ok () w := by cases op <;> simp [eqGuard]
    unfold Pur
    simp only [Sem.run_bind, hg, Result.andThen_ok]
    cases hs : isShift op with
    | true =>
      rw [hs] at h
      simp only [cond_true, shA] at h
      split at h
      · simp at h
      · rename_i hc
        split at h
        · simp at h; subst h; exact ⟨_, by simp [binOp, Op.shift, hc]; rfl, by simp [VR]⟩
        · simp at h; subst h; exact ⟨_, by simp [binOp, Op.shift, hc]; rfl, by simp [VR]⟩
        · simp at h
    | false =>
      rw [hs] at h
      simp only [cond_false] at h
      split at h
      · rename_i hk
        subst hk
        unfold intA at h
        cases op <;> simp only [isShift, Bool.true_eq_false] at hs h <;>
          first
          | (simp only [Option.some.injEq] at h; subst h; exact ⟨_, by simp [binOp, Op.intArith, Op.intBits, Op.intCmp]; rfl, by simp [VR]⟩)
          | (split at h
             · simp at h
             · rename_i hc; simp only [Option.some.injEq] at h; subst h; exact ⟨_, by simp [binOp, Op.intDiv, hc]; rfl, by simp [VR]⟩)
      · simp at h
  · rename_i a c
    simp only [VR] at hx hy
    obtain ⟨x, rfl, hx⟩ := hx
    obtain ⟨y, rfl, hy⟩ := hy
    have hg : (eqGuard op t ox oy (.string x) (.string y)).run P w = .ok () w := by cases op <;> simp [eqGuard]
    unfold Pur
    simp only [Sem.run_bind, hg, Result.andThen_ok]
    have hxs : x.size = a.length := by rw [← hx, Array.length_toList]; rfl
    have hys : y.size = c.length := by rw [← hy, Array.length_toList]; rfl
    unfold strA at h
    cases op <;> simp only [reduceCtorEq] at h
    case add =>
      split at h
      · rename_i hle
        simp only [Option.some.injEq] at h
        subst h
        refine ⟨.string (x ++ y), ?_, ?_⟩
        · have hm : IntKind.max .i64 = 9223372036854775807 := by decide
          have : ¬ (((x.size + y.size : Nat) : Int) > IntKind.max .i64) := by rw [hxs, hys, hm]; omega
          simp only [binOp, Op.stringOp, this, if_false, Sem.run_pure]
        · simp only [VR]
          exact ⟨x ++ y, rfl, by simp [hx, hy]⟩
      · simp at h
    all_goals
      simp only [Option.some.injEq] at h
      subst h
      refine ⟨_, by simp only [binOp, Op.stringOp, Sem.run_pure]; rfl, ?_⟩
      simp only [VR, ByteArray.toList_eq, hx, hy, strLess_eq]
  · rename_i hn1 hn2
    have key : ∀ b, eqA T 20 t x y = some b → ∀ o, (o = .eql ∨ o = .neq) → ifcCmp T o t ox oy = false → (eqGuard o t ox oy vx vy).run P w = .ok () w ∧ (binOp .eql t vx vy).run P w = .ok (.bool b) w ∧ (binOp .neq t vx vy).run P w = .ok (.bool !b) w := by
      intro b hb
      have he := eqA_ok (w := w) (S := S) (β := β) hT 20 Op.maxDepth (by decide) t x y vx vy b hb hx hy
      have hb0 := hb
      unfold eqA at hb
      cases ht : T t with
      | none => rw [ht] at hb; simp at hb
      | some ti =>
        rw [ht] at hb
        simp only at hb
        split at hb
        case h_1 => simp only [VR] at hx hy; subst hx hy; rintro o (rfl | rfl) _ <;> simp [eqGuard, binOp, Op.equal, he]
        case h_2 => exact absurd rfl (hn1 _ _ _ _ rfl)
        case h_3 => exact absurd rfl (hn2 _ _ rfl)
        case h_4 => simp only [VR] at hx hy; subst hx hy; rintro o (rfl | rfl) _ <;> simp [eqGuard, binOp, Op.equal, he]
        case h_5 => simp only [VR] at hx hy; obtain ⟨_, _, _, rfl, _⟩ := hy; subst hx; rintro o (rfl | rfl) _ <;> simp [eqGuard, binOp, Op.equal, he]
        case h_6 => simp only [VR] at hx hy; obtain ⟨_, _, _, rfl, _⟩ := hx; subst hy; rintro o (rfl | rfl) _ <;> simp [eqGuard, binOp, Op.equal, he]
        case h_7 => simp only [VR] at hx hy; obtain ⟨_, _, rfl⟩ := hy; subst hx; rintro o (rfl | rfl) _ <;> simp [eqGuard, binOp, Op.equal, he]
        case h_8 => simp only [VR] at hx hy; obtain ⟨_, _, rfl⟩ := hx; subst hy; rintro o (rfl | rfl) _ <;> simp [eqGuard, binOp, Op.equal, he]
        case h_9 => simp only [VR] at hx hy; obtain ⟨_, rfl, _⟩ := hy; subst hx; rintro o (rfl | rfl) _ <;> simp [eqGuard, binOp, Op.equal, he]
        case h_10 => simp only [VR] at hx hy; obtain ⟨_, rfl, _⟩ := hx; subst hy; rintro o (rfl | rfl) _ <;> simp [eqGuard, binOp, Op.equal, he]
        case h_11 xs ys hkind =>
          cases hok : ti.eqok with
          | false => rw [hok] at hb; simp at hb
          | true =>
            obtain ⟨i, dd, z, hi, hd, _, _, hsz, _, hk, hag, hof, _, heq, _⟩ := (hT.get ht).ex
            have hgt : P.eqGuardType P.depth t = false := by
              rw [hok] at heq; cases dd <;> simp [eqokOf] at heq; exact heq.2
            simp only [VR] at hx hy
            obtain ⟨vx, rfl, hx⟩ := hx
            obtain ⟨vy, rfl, hy⟩ := hy
            rintro o (rfl | rfl) <;> exact fun _ => ⟨run_eqGuard_agg w _ t ox oy _ _ hgt, by simp [binOp, Op.equal, he], by simp [binOp, Op.equal, he]⟩
        case h_12 => simp only [VR] at hx hy; subst hx hy; rintro o (rfl | rfl) _ <;> simp [eqGuard, binOp, Op.equal, he]
        case h_13 => simp only [VR] at hx hy; obtain ⟨_, _, rfl, _⟩ := hx; subst hy; simp only [List.length_cons] at he; rintro o (rfl | rfl) _ <;> simp [eqGuard, binOp, Op.equal, he]
        case h_14 => simp only [VR] at hx hy; obtain ⟨_, _, _, rfl, _⟩ := hx; subst hy; rintro o (rfl | rfl) _ <;> simp [eqGuard, binOp, Op.equal, he]
        case h_15 hkind =>
          simp only [VR] at hx hy; subst hx hy
          rintro o (rfl | rfl) hl <;>
          · have hc : isLit ox = true ∨ isLit oy = true := by
              unfold ifcCmp at hl
              rw [ht] at hl
              simp only [hkind, Bool.true_and, Bool.and_eq_false_iff, Bool.not_eq_false'] at hl
              rcases hl with (hl | hl)
              · exact .inl hl
              · exact .inr hl
            rcases hc with hc | hc
            · cases ox <;> simp [isLit] at hc
              simp [eqGuard, binOp, Op.equal, he]
            · cases oy <;> simp [isLit] at hc
              simp [eqGuard, binOp, Op.equal, he]
        case h_16 => simp at hb
    cases op <;> simp only [reduceCtorEq] at h
    case eql =>
      rw [Option.map_eq_some_iff] at h
      obtain ⟨b, hb, rfl⟩ := h
      obtain ⟨h1, h2, _⟩ := key b hb .eql (.inl rfl) hlit
      exact ⟨.bool b, by simp only [Sem.run_bind, h1, Result.andThen_ok, h2], by simp [VR]⟩
    case neq =>
      rw [Option.map_eq_some_iff] at h
      obtain ⟨b, hb, rfl⟩ := h
      obtain ⟨h1, _, h2⟩ := key b hb .neq (.inr rfl) hlit
      exact ⟨.bool !b, by simp only [Sem.run_bind, h1, Result.andThen_ok, h2], by simp [VR]⟩
end
end Go.Av

/- More pure operations of the abstract evaluator. No condition. -/
namespace Go.Av

def Wf (S : Stab) (w : World) : Prop := ∀ (b o : Nat) (v : Value), S b o = some v → w.cell? ⟨b, o, none⟩ = some v

section
variable {P : Program} {T : TT} {w : World} {S : Stab} {β : List Blk}

theorem addr_add (b o n : Nat) : (⟨b, o, none⟩ : Addr).add n = ⟨b, o + n, none⟩ := by
  unfold Addr.add
  split
  · simp_all
  · rfl

theorem cellsAt.loads (hw : Wf S w) {b o : Nat} {vs : List Value} (h : cellsAt S b o vs) : (loadCells ⟨b, o, none⟩ vs.length).run P w = .ok vs.toArray w :=
  run_loadCells_list w _ vs fun j v hv => by rw [addr_add]; exact hw _ _ _ (h j v hv)

theorem un_ok {op : UnOp} {x r : AV} {vx : Value} (h : unA op x = some r) (hx : VR S β x vx) : Pur P w S β (Op.unary op vx) r := by
  unfold unA at h
  split at h
  · simp at h; subst h; simp only [VR] at hx; subst hx; exact ⟨_, by simp [Op.unary]; rfl, by simp [VR]⟩
  · simp only [Option.some.injEq] at h; subst h; simp only [VR] at hx; subst hx; exact ⟨_, by simp only [Op.unary, Op.intArith, Sem.run_pure]; rfl, by simp [VR]⟩
  · simp at h

theorem conv_ok (hT : TOK P T) {s d : TypeId} {x r : AV} {vx : Value} (h : convA T s d x = some r) (hx : VR S β x vx) : Pur P w S β (convert s d vx) r := by
  unfold convA at h
  split at h
  · rename_i si di hs hd
    obtain ⟨_, sd, _, _, hsd, _⟩ := (hT.get hs).ex
    obtain ⟨_, dd, _, _, hdd, _, _, _, _, hk, _⟩ := (hT.get hd).ex
    split at h
    · rename_i k _ n hkk
      simp only [Option.some.injEq] at h; subst h
      simp only [VR] at hx; subst hx
      cases dd <;> simp only [kindOf, hkk, reduceCtorEq, TK.int.injEq] at hk
      subst hk
      exact ⟨_, by simp [convert, run_underlying hsd, run_underlying hdd, Conv.intToInt]; rfl, by simp only [VR]⟩
    · rename_i s hkk
      simp only [Option.some.injEq] at h; subst h
      have hx' := hx
      simp only [VR] at hx; obtain ⟨y, rfl, _⟩ := hx
      cases dd <;> simp only [kindOf, hkk, reduceCtorEq] at hk
      refine ⟨_, ?_, hx'⟩
      cases sd <;> simp [convert, run_underlying hsd, run_underlying hdd]
    · simp at h
  · simp at h

theorem fieldAddr_ok (hT : TOK P T) {t f : Nat} {x r : AV} {vx : Value} (h : fieldAddrA T t x f = some r) (hx : VR S β x vx) : Pur P w S β (Instr.fieldAt t vx f) r := by
  unfold fieldAddrA at h
  split at h
  · simp at h
  · rename_i ti ht
    obtain ⟨_, d, _, _, hd, _, _, _, _, _, _, hof, _⟩ := (hT.get ht).ex
    split at h
    · simp at h
    · rename_i o ft nm hf
      rw [← hof] at hf
      obtain ⟨fs, rfl⟩ : ∃ fs, d = .struct fs := by cases d <;> simp_all [offsOf]
      simp only [offsOf] at hf
      rw [List.getElem?_map] at hf
      cases hff : fs.toList[f]? with
      | none => rw [hff] at hf; simp at hf
      | some fd =>
        rw [hff] at hf
        simp at hf
        obtain ⟨rfl, rfl, _⟩ := hf
        have hff' : fs[f]? = some fd := by simpa using hff
        split at h
        · simp at h
        · rename_i fi hfi
          obtain ⟨ii, _, _, hii, _, _, _, hsz, _⟩ := (hT.get hfi).ex
          split at h
          · simp at h
          · rename_i hne
            have hz : ¬ (ii.size = 0) := by rw [hsz]; exact hne
            split at h
            · simp only [Option.some.injEq] at h; subst h
              simp only [VR] at hx
              obtain ⟨b, off, vs, rfl, hv, hc⟩ := hx
              refine ⟨.pointer (some ⟨b, off + fd.offset, none⟩), ?_, ?_⟩
              · simp [Instr.fieldAt, run_underlying hd, hff', Instr.sureAddr, fieldPlace, run_sizeOf hii, hz, addr_add]
              · simp only [VR]
                refine ⟨b, off + fd.offset, vs.drop fd.offset, rfl, hv.drop _, fun j v hj => ?_⟩
                rw [List.getElem?_drop] at hj
                have := hc _ _ hj
                rwa [show off + fd.offset + j = off + (fd.offset + j) by omega]
            · rename_i l off
              simp only [Option.some.injEq] at h; subst h
              simp only [VR] at hx
              obtain ⟨b, hb, rfl⟩ := hx
              refine ⟨.pointer (some ⟨b.1, off + fd.offset, none⟩), ?_, ?_⟩
              · simp [Instr.fieldAt, run_underlying hd, hff', Instr.sureAddr, fieldPlace, run_sizeOf hii, hz, addr_add]
              · simp only [VR]; exact ⟨b, hb, rfl⟩
            · simp at h

theorem drop_acells {S : Stab} {β : List Blk} {b o n : Nat} {cs : List AV} {vs : List Value} (hv : VRs S β cs vs) (hc : cellsAt S b o vs) :
    VR S β (.ip (cs.drop n)) (.pointer (some ⟨b, o + n, none⟩)) := by
  simp only [VR]
  refine ⟨b, o + n, vs.drop n, rfl, hv.drop _, fun j v hj => ?_⟩
  rw [List.getElem?_drop] at hj
  have := hc _ _ hj
  rwa [show o + n + j = o + (n + j) by omega]

theorem indexAddr_ok (hT : TOK P T) {t : Nat} {x i r : AV} {vx vi : Value} (h : indexAddrA T t x i = some r) (hx : VR S β x vx) (hi : VR S β i vi) : Pur P w S β (Instr.indexAt t vx vi) r := by
  unfold indexAddrA at h
  split at h
  · rename_i ti k n ht
    simp only [VR] at hi; subst hi
    obtain ⟨_, d, _, _, hd, _, _, _, _, hk, _⟩ := (hT.get ht).ex
    split at h
    · -- slice, by value
      rename_i e es hkk
      cases d <;> simp only [kindOf, hkk, reduceCtorEq, TK.slice.injEq] at hk
      subst hk
      split at h
      · rename_i ei hei
        obtain ⟨ii, _, _, hii, _, _, _, hsz, _⟩ := (hT.get hei).ex
        split at h
        · simp at h
        · rename_i hn
          split at h
          · rename_i a ha
            split at h
            · rename_i hs
              simp only [Option.some.injEq] at h; subst h
              simp only [VR] at hx
              obtain ⟨ad, cap, rfl, hc, hnone, hsome⟩ := hx
              have hlt : n.toNat < es.length := by
                rcases Nat.lt_or_ge n.toNat es.length with h | h
                · exact h
                · rw [List.getElem?_eq_none h] at ha; simp at ha
              cases ad with
              | none => have := hnone rfl; omega
              | some q =>
                obtain ⟨hq, sz, hel⟩ := hsome q rfl
                obtain ⟨v, hv, hvs, hvc⟩ := hel.get ha
                obtain ⟨h1, h2, _⟩ := hv.cells hs
                have hqq : q = ⟨q.block, q.off, none⟩ := by cases q; simp_all
                have hsz' : sz = ei.size := by rw [← hvs, h1]
                refine ⟨.pointer (some ⟨q.block, q.off + n.toNat * ei.size, none⟩), ?_, ?_⟩
                · rw [hqq]
                  have hcond : 0 ≤ n ∧ n < (es.length : Int) := by omega
                  simp only [Instr.indexAt, asIntOf, Sem.run_bind, Sem.run_pure, Result.andThen_ok, run_underlying hd, Bool.and_false, Bool.false_eq_true, if_false, hcond, and_self, if_true, run_sizeOf hii, hsz, addr_add]
                · simp only [VR]
                  exact ⟨_, _, v.cells.toList, rfl, h2, by rw [hsz'] at hvc; exact hvc⟩
            · simp at h
          · simp at h
      · simp at h
    · -- slice in the heap
      rename_i e l off len sz ag hkk
      cases d <;> simp only [kindOf, hkk, reduceCtorEq, TK.slice.injEq] at hk
      subst hk
      split at h
      · rename_i ei hei
        obtain ⟨ii, _, _, hii, _, _, _, hsz, _⟩ := (hT.get hei).ex
        split at h
        · rename_i hc
          simp only [Option.some.injEq] at h; subst h
          simp only [VR] at hx
          obtain ⟨b, cap, hb, rfl, _⟩ := hx
          refine ⟨.pointer (some ⟨b.1, off + n.toNat * ei.size, none⟩), ?_, by simp only [VR]; exact ⟨b, hb, rfl⟩⟩
          simp only [Instr.indexAt, asIntOf, Sem.run_bind, Sem.run_pure, Result.andThen_ok, run_underlying hd, Bool.and_false, Bool.false_eq_true, if_false, hc, and_self, if_true, run_sizeOf hii, hsz, addr_add]
        · simp at h
      · simp at h
    · rename_i m e cs hkk
      cases d <;> simp only [kindOf, hkk, reduceCtorEq, TK.array.injEq] at hk
      obtain ⟨rfl, rfl⟩ := hk
      split at h
      · rename_i ei hei
        obtain ⟨ii, _, _, hii, _, _, _, hsz, _⟩ := (hT.get hei).ex
        split at h
        · rename_i hc
          simp only [Option.some.injEq] at h; subst h
          simp only [VR] at hx
          obtain ⟨b, off, vs, rfl, hv, hcc⟩ := hx
          refine ⟨.pointer (some ⟨b, off + n.toNat * ei.size, none⟩), ?_, drop_acells hv hcc⟩
          simp only [Instr.indexAt, asIntOf, Instr.sureAddr, Sem.run_bind, Sem.run_pure, Result.andThen_ok, run_underlying hd, hc, and_self, if_true, run_sizeOf hii, hsz, addr_add]
        · simp at h
      · simp at h
    · rename_i m e l off hkk
      cases d <;> simp only [kindOf, hkk, reduceCtorEq, TK.array.injEq] at hk
      obtain ⟨rfl, rfl⟩ := hk
      split at h
      · rename_i ei hei
        obtain ⟨ii, _, _, hii, _, _, _, hsz, _⟩ := (hT.get hei).ex
        split at h
        · rename_i hc
          simp only [Option.some.injEq] at h; subst h
          simp only [VR] at hx
          obtain ⟨b, hb, rfl⟩ := hx
          refine ⟨.pointer (some ⟨b.1, off + n.toNat * ei.size, none⟩), ?_, by simp only [VR]; exact ⟨b, hb, rfl⟩⟩
          simp only [Instr.indexAt, asIntOf, Instr.sureAddr, Sem.run_bind, Sem.run_pure, Result.andThen_ok, run_underlying hd, hc, and_self, if_true, run_sizeOf hii, hsz, addr_add]
        · simp at h
      · simp at h
    · simp at h
  · simp at h

theorem loadVar_ok (hT : TOK P T) {t : Nat} {ti : TI} (ht : T t = some ti) {b o : Nat} {vs : List Value} {cs : List AV} (hv : VRs S β cs vs) (hc : ∀ j v, vs[j]? = some v → w.cell? ⟨b, o + j, none⟩ = some v) {r : AV}
    (hr : (bif ti.agg then (if ti.size ≤ cs.length then some (.agg (cs.take ti.size)) else none) else cs.head?) = some r) : Pur P w S β (loadVar t ⟨b, o, none⟩) r := by
  obtain ⟨ii, d, _, hii, hd, _, _, hsz, _, _, hag, _⟩ := (hT.get ht).ex
  cases ha : ti.agg with
  | true =>
    rw [ha] at hr
    simp only [cond_true] at hr
    split at hr
    · rename_i hle
      simp only [Option.some.injEq] at hr; subst hr
      have hl : (vs.take ti.size).length = ti.size := by simp [hv.length]; omega
      have hload := run_loadCells_list (P := P) w ⟨b, o, none⟩ (vs.take ti.size) (fun j v hj => by
        rw [addr_add]
        refine hc j v ?_
        rw [List.getElem?_take] at hj
        split at hj
        · exact hj
        · simp at hj)
      rw [hl] at hload
      refine ⟨.agg (vs.take ti.size).toArray, ?_, ?_⟩
      · simp [loadVar, run_isAgg hd, hag, ha, run_sizeOf hii, hsz, hload]
      · simp only [VR]; exact ⟨_, rfl, hv.take _⟩
    · simp at hr
  | false =>
    rw [ha] at hr
    simp only [cond_false] at hr
    rw [List.head?_eq_getElem?] at hr
    obtain ⟨v, hv', hR⟩ := hv.get hr
    refine ⟨v, ?_, hR⟩
    have := hc 0 v hv'
    simp only [Nat.add_zero] at this
    simp [loadVar, run_isAgg hd, hag, ha, this]

theorem load_ok (hT : TOK P T) (hw : Wf S w) {t : Nat} {x r : AV} {vx : Value} (h : loadA T t x = some r) (hx : VR S β x vx) : Pur P w S β (Instr.loadAt t vx) r := by
  unfold loadA at h
  split at h
  · rename_i ti cs ht
    simp only [VR] at hx
    obtain ⟨b, off, vs, rfl, hv, hc⟩ := hx
    obtain ⟨v, h1, h2⟩ := loadVar_ok hT ht hv (fun j v hj => hw _ _ _ (hc j v hj)) h
    exact ⟨v, by simp [Instr.loadAt, Instr.sureAddr, h1], h2⟩
  · simp at h

theorem indexStr_ok (hT : TOK P T) {t : Nat} {x i r : AV} {vx vi : Value} (h : indexStrA T t x i = some r) (hx : VR S β x vx) (hi : VR S β i vi) : Pur P w S β (Instr.index t vx vi) r := by
  unfold indexStrA at h
  split at h
  · rename_i ti k n ht
    simp only [VR] at hi; subst hi
    obtain ⟨_, d, _, _, hd, _, _, _, _, hk, _⟩ := (hT.get ht).ex
    split at h
    · rename_i s hkk
      cases d <;> simp only [kindOf, hkk, reduceCtorEq] at hk
      split at h
      · simp at h
      · rename_i hn
        rw [Option.map_eq_some_iff] at h
        obtain ⟨b, hb, rfl⟩ := h
        simp only [VR] at hx
        obtain ⟨y, rfl, hy⟩ := hx
        have hyb : y[n.toNat]? = some b := by
          rw [← hy] at hb
          have hlt : n.toNat < y.data.size := by
            rcases Nat.lt_or_ge n.toNat y.data.size with h | h
            · exact h
            · rw [List.getElem?_eq_none (by simpa using h)] at hb; simp at hb
          have : n.toNat < y.size := hlt
          rw [getElem?_pos y n.toNat this]
          rw [List.getElem?_eq_getElem (by simpa using hlt)] at hb
          simp at hb
          rw [← hb]
          rfl
        have h0 : 0 ≤ n := by omega
        exact ⟨_, by simp [Instr.index, asIntOf, run_underlying hd, h0, hyb]; rfl, by simp only [VR]⟩
    · rename_i m e cs hkk
      cases d <;> simp only [kindOf, hkk, reduceCtorEq, TK.array.injEq] at hk
      obtain ⟨rfl, rfl⟩ := hk
      split at h
      · rename_i ei hei
        obtain ⟨ii, _, _, hii, _, _, _, hsz, _⟩ := (hT.get hei).ex
        split at h
        · rename_i hc
          simp only [VR] at hx
          obtain ⟨vs, rfl, hv⟩ := hx
          obtain ⟨v, h1, h2⟩ := part_ok (w := w) hT hei hv h
          refine ⟨v, ?_, h2⟩
          simp only [Instr.index, asIntOf, Sem.run_bind, Sem.run_pure, Result.andThen_ok, run_underlying hd, hc, and_self, if_true, run_sizeOf hii, hsz, h1]
        · simp at h
      · simp at h
    · simp at h
  · simp at h

theorem field_ok (hT : TOK P T) {t f : Nat} {x r : AV} {vx : Value} (h : fieldA T t x f = some r) (hx : VR S β x vx) : Pur P w S β (Instr.field t vx f) r := by
  unfold fieldA at h
  split at h
  · rename_i ti cs ht
    simp only [VR] at hx
    obtain ⟨vs, rfl, hv⟩ := hx
    obtain ⟨_, d, _, _, hd, _, _, _, _, hk, _, hof, _⟩ := (hT.get ht).ex
    split at h
    · rename_i o ft nm hkk hf
      rw [← hof] at hf
      obtain ⟨fs, rfl⟩ : ∃ fs, d = .struct fs := by cases d <;> simp_all [offsOf]
      simp only [offsOf] at hf
      rw [List.getElem?_map] at hf
      cases hff : fs.toList[f]? with
      | none => rw [hff] at hf; simp at hf
      | some fd =>
        rw [hff] at hf
        simp at hf
        obtain ⟨rfl, rfl, _⟩ := hf
        have hff' : fs[f]? = some fd := by simpa using hff
        split at h
        · rename_i fi hfi
          obtain ⟨v, h1, h2⟩ := part_ok (w := w) hT hfi hv h
          refine ⟨v, ?_, h2⟩
          simp [Instr.field, run_underlying hd, hff', asAgg, h1]
        · simp at h
    · simp at h
  · simp at h

theorem len_ok (hT : TOK P T) {t u : Nat} {x r : AV} {vx : Value} (ts : List TypeId) (xs : List Value) (h : lenA T t x = some r) (hx : VR S β x vx) :
    Pur P w S β (Builtin.len_ (t :: ts).toArray u (vx :: xs).toArray) r := by
  unfold lenA at h
  split at h
  · simp at h
  · rename_i ti ht
    obtain ⟨_, d, _, _, hd, _, _, _, _, hk, _⟩ := (hT.get ht).ex
    split at h <;> (try simp only [Option.some.injEq, reduceCtorEq] at h) <;> (try subst h)
    · rename_i e es hkk
      simp only [VR] at hx
      obtain ⟨a, cap, rfl, _⟩ := hx
      cases d <;> simp only [kindOf, hkk, reduceCtorEq] at hk
      exact ⟨_, by simp [Builtin.len_, run_underlying hd, goInt]; rfl, by simp [VR]⟩
    · rename_i hkk
      simp only [VR] at hx
      obtain ⟨b, cap, _, rfl, _⟩ := hx
      cases d <;> simp only [kindOf, hkk, reduceCtorEq] at hk
      exact ⟨_, by simp [Builtin.len_, run_underlying hd, goInt]; rfl, by simp [VR]⟩
    · rename_i hkk
      simp only [VR] at hx
      subst hx
      cases d <;> simp only [kindOf, hkk, reduceCtorEq] at hk
      exact ⟨_, by simp [Builtin.len_, run_underlying hd, goInt]; rfl, by simp [VR]⟩
    · rename_i s hkk
      simp only [VR] at hx
      obtain ⟨y, rfl, hy⟩ := hx
      cases d <;> simp only [kindOf, hkk, reduceCtorEq] at hk
      refine ⟨.int .i64 y.size, by simp [Builtin.len_, run_underlying hd, goInt], ?_⟩
      simp only [VR, ← hy, Array.length_toList]
      rfl
    · rename_i n e hkk
      cases d <;> simp only [kindOf, hkk, reduceCtorEq, TK.array.injEq] at hk
      obtain ⟨rfl, rfl⟩ := hk
      exact ⟨_, by simp [Builtin.len_, run_underlying hd, goInt]; rfl, by simp [VR]⟩

theorem extract_ok {x r : AV} {i : Nat} {vx : Value} (h : extractA x i = some r) (hx : VR S β x vx) : Pur P w S β (Instr.extract vx i) r := by
  unfold extractA at h
  split at h
  · simp only [VR] at hx
    obtain ⟨vs, rfl, hv⟩ := hx
    obtain ⟨v, h1, h2⟩ := hv.get h
    exact ⟨v, by simp [Instr.extract, h1], h2⟩
  · simp at h

theorem mkIface_ok (hT : TOK P T) {t : Nat} {x r : AV} {vx : Value} (h : mkIfaceA T t x = some r) (hx : VR S β x vx) : Pur P w S β (Instr.makeInterface t vx) r := by
  unfold mkIfaceA at h
  split at h
  · simp at h
  · rename_i ti ht
    obtain ⟨_, d, _, _, hd, _, _, _, _, hk, _⟩ := (hT.get ht).ex
    split at h
    · simp at h
    · rename_i hne
      simp only [Option.some.injEq] at h; subst h
      refine ⟨.iface t vx, ?_, by simp only [VR]; exact ⟨vx, rfl, hx⟩⟩
      cases d <;> simp_all [Instr.makeInterface, run_underlying hd, kindOf]

theorem min2_ok {big : Bool} {x y r : AV} {vx vy : Value} (h : minA big x y = some r) (hx : VR S β x vx) (hy : VR S β y vy) :
    Pur P w S β (bif big then Builtin.max2 vx vy else Builtin.min2 vx vy) r := by
  unfold minA at h
  split at h
  · simp only [Option.some.injEq] at h; subst h
    simp only [VR] at hx hy; subst hx hy
    cases big
    · exact ⟨_, by simp [Builtin.min2]; rfl, by simp [VR]⟩
    · exact ⟨_, by simp [Builtin.max2]; rfl, by simp [VR]⟩
  · simp at h

theorem mins_ok {big : Bool} : (n : Nat) → (xs : List AV) → xs.length ≤ n → (r : AV) → (vs : List Value) → minsA big xs = some r → VRs S β xs vs →
    ∃ v rest, vs = v :: rest ∧ Pur P w S β (rest.foldlM (bif big then Builtin.max2 else Builtin.min2) v) r
  | _, [], _, r, vs, h, _ => by simp [minsA] at h
  | n, [x], _, r, vs, h, hv => by
    simp only [minsA, Option.some.injEq] at h; subst h
    simp only [VRs] at hv
    obtain ⟨v, xs, rfl, hx, rfl⟩ := hv
    exact ⟨v, [], rfl, v, by simp, hx⟩
  | 0, x :: y :: xs, hl, r, vs, h, hv => by simp at hl
  | n + 1, x :: y :: xs, hl, r, vs, h, hv => by
    unfold minsA at h
    split at h
    · rename_i z hz
      simp only [VRs] at hv
      obtain ⟨v, ys, rfl, hx, u, zs, rfl, hy, hzs⟩ := hv
      obtain ⟨c, hc, hcr⟩ := min2_ok (P := P) (w := w) hz hx hy
      obtain ⟨v', rest', he, hp⟩ := mins_ok n (z :: xs) (by simp at hl ⊢; omega) r (c :: zs) h (by simp only [VRs]; exact ⟨c, zs, rfl, hcr, hzs⟩)
      simp only [List.cons.injEq] at he
      obtain ⟨rfl, rfl⟩ := he
      refine ⟨v, u :: zs, rfl, ?_⟩
      obtain ⟨o, ho, hor⟩ := hp
      refine ⟨o, ?_, hor⟩
      simp only [List.foldlM_cons, Sem.run_bind]
      have : ((bif big then Builtin.max2 else Builtin.min2) v u).run P w = .ok c w := by cases big <;> simpa using hc
      rw [this, Result.andThen_ok, ho]
    · simp at h

theorem sliceBound_ok {x : AV} {vx : Value} {dflt most n : Nat} (c : BoundsCode) (h : boundA (some x) dflt most = some n) (hx : VR S β x vx) : (Instr.sliceBound vx most c).run P w = .ok n w ∧ n ≤ most := by
  unfold boundA at h
  split at h
  · rename_i hh; cases hh
  · rename_i k m hh
    cases hh
    simp only [VR] at hx; subst hx
    split at h
    · rename_i hc
      simp only [Option.some.injEq] at h; subst h
      refine ⟨?_, by omega⟩
      simp only [Instr.sliceBound, asIntOf, Sem.run_bind, Sem.run_pure, Result.andThen_ok, hc, and_self, if_true]
    · simp at h
  · simp at h

end
end Go.Av
