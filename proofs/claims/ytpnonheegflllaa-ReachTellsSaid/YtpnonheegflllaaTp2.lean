/- Walking over an expression; the calls of a function. No condition. -/
import Derived.Test.YtpnonheegflllaaTp1
import Derived.Test.YtpnonheegflllaaOthI
namespace Go.Proofs.Ytpnonheegflllaa
open Go Go.Av Go.Av.Ap
set_option maxRecDepth 100000
theorem arg_size {e x : Exp} (h : x ∈ e.args) : SizeOf.sizeOf x < SizeOf.sizeOf e := by
  cases e with
  | mk o n s m ns es =>
    have := List.sizeOf_lt_of_mem h
    simp only [Exp.mk.sizeOf_spec]
    show SizeOf.sizeOf x < 1 + SizeOf.sizeOf o + SizeOf.sizeOf n + SizeOf.sizeOf s + SizeOf.sizeOf m + SizeOf.sizeOf ns + SizeOf.sizeOf es
    have h2 : SizeOf.sizeOf x < SizeOf.sizeOf es := this
    omega
theorem loop34 {σ : Type} {H : σ → Hp} {st : σ → Exp → σ} {g : AV} {l : List Exp} (hl : l.length ≤ 140737488355328) (ih : ∀ x ∈ l, ∀ s, callW pg 34 [x.av, g] (H s) = .ok (.tup []) (H ((nodesL x).foldl st s))) :
    ∀ (n : Nat) (i : Int) s, l.length - i.toNat = n → 0 ≤ i → i ≤ l.length → fixW (L34_0 (callW pg) fixW) [g, exps l, .int .i64 l.length, .int .i64 i] (H s) = .ok (.tup []) (H (((l.drop i.toNat).flatMap nodesL).foldl st s)) := by
  intro n
  induction n with
  | zero =>
    intro i s hn hi hb
    rw [FL34_0]
    simp only [L34_0]
    have h1 : ¬ (i < (l.length : Int)) := by omega
    have h2 : l.drop i.toNat = [] := List.drop_eq_nil_of_le (by omega)
    simp [h1, h2]
    rfl
  | succ n IH =>
    intro i s hn hi hb
    have h1 : i < (l.length : Int) := by omega
    have hlt : i.toNat < l.length := by omega
    have h4 := IH (i + 1) ((nodesL l[i.toNat]).foldl st s) (by omega) (by omega) (by omega)
    rw [show (i + 1).toNat = i.toNat + 1 by omega] at h4
    have h5 := ih _ (List.getElem_mem hlt) s
    rw [FL34_0]
    simp only [L34_0]
    simp (disch := omega) [h1, wrap_in, IX37, getElem!_pos l i.toNat hlt]
    rw [bnd_ok h5, h4, List.drop_eq_getElem_cons hlt, List.flatMap_cons, List.foldl_append]
theorem t34 {σ : Type} {H : σ → Hp} {st : σ → Exp → σ} {g : AV} (hg : ∀ s e, callV (callW pg) g [e.av] (H s) = .ok (.tup []) (H (st s e))) :
    ∀ (n : Nat) (e : Exp), SizeOf.sizeOf e ≤ n → e.Lim → ∀ s, callW pg 34 [e.av, g] (H s) = .ok (.tup []) (H ((nodesL e).foldl st s)) := by
  intro n
  induction n with
  | zero => intro e he; cases e; simp at he
  | succ n ih =>
    intro e he hL s
    rw [C34]
    have h1 := hg s e
    have h2 := loop34 (H := H) (st := st) (g := g) hL.len (fun x hx s => ih x (by have := arg_size hx; omega) (hL.kid hx) s) e.args.length 0 (st s e) rfl (by omega) (by omega)
    simp [S34]
    rw [bnd_ok h1]
    simp at h2
    simp [h2]
    rw [nodesL_eq]
    rfl
theorem mapM_map {α β γ : Type} {f : β → Option γ} {k : α → β} {g : α → γ} (hf : ∀ x, f (k x) = some (g x)) : ∀ l : List α, (l.map k).mapM f = some (l.map g)
  | [] => rfl
  | x :: l => by
    rw [List.map_cons, List.mapM_cons, hf, mapM_map hf l]
    rfl
theorem modP_mod (m : Mod) : modP m.av = some (m.name, m.funcs.map fun f => (f.name, f.av)) := by
  show ((m.funcs.map Fun.av).mapM funP).map (fun l => (m.name, l)) = _
  rw [mapM_map (f := funP) (k := Fun.av) (g := fun f : Fun => (f.name, f.av)) (fun f => by cases f with | mk a b c r w e => cases r; cases e; rfl)]
  rfl
theorem t25 (p : List Mod) (h1 : p.length ≤ 1000000) (h2 : ∀ m ∈ p, m.funcs.length ≤ 1000000) (h : Hp) : callW pg 25 [mods p] h = .ok (.mp h.length) (h ++ [[.tup ((idxP p).map (entA Fun.av))]]) := by
  rw [callW_other hOther (E := indexE) rfl]
  show (match (p.map Mod.av).mapM modP with | some l => _ | none => _) = _
  rw [mapM_map (g := fun m : Mod => (m.name, m.funcs.map fun f => (f.name, f.av))) modP_mod]
  simp only
  rw [if_pos ⟨by simpa using h1, fun m hm => by
    obtain ⟨m', hm', rfl⟩ := List.mem_map.1 hm
    simpa using h2 m' hm'⟩]
  have : (p.map fun m : Mod => (m.name, m.funcs.map fun f => (f.name, f.av))) = (p.map partsM).map fun m => (m.1, m.2.map fun x => (x.1, x.2.av)) := by
    rw [List.map_map]
    apply List.map_congr_left
    intro m _
    simp [partsM]
  rw [this]
  have := idxG_map Fun.av (p.map partsM) [] []
  rw [List.map_nil] at this
  rw [this, List.map_map]
  rfl
theorem t30 {V : Type} {f : V → AV} {h : Hp} {l : Nat} {es : List (Ref × V)} (hl : h[l]? = some [.tup (es.map (entA f))]) (hb : es.length ≤ 1000000) (g : Nat) (hg : g = 43 + 9 ∨ g = 45) :
    callW pg 30 [.fn (.func g) [] [.ip [.mp l]], .fn (.func 32) [] []] h = .ok (refsA (sortR (es.map (·.1)))) h := by
  rw [callW_other hOther (E := sortedE [45, 52] 32) rfl]
  have hk : (es.map (entA f)).mapM keyR = some (es.map (·.1)) := mapM_map (f := keyR) (k := entA f) (g := fun x : Ref × V => x.1) (fun x => rfl) es
  have hm : (memN [45, 52] g && Nat.beq 32 32) = true := by rcases hg with rfl | rfl <;> rfl
  show (bif memN [45, 52] g && Nat.beq 32 32 then _ else _ : R AV) = _
  rw [hm]
  show (match entsA h (.mp l) with | some es => _ | none => _) = _
  simp only [entsA, hl, hk, List.length_map, if_pos hb]
theorem fbody (f : Fun) : fieldA T 48 f.av 5 = some f.body.av := by
  cases f with | mk a b c r w e => cases r; cases e; rfl
theorem t28 {p : List Mod} {h : Hp} {la : Nat} (ha : IsIdx p h la) (f : Ref) (hL : (bodyR p f).Lim) (hb : (found p f).length ≤ 1000000) :
    callW pg 28 [.mp la, refA f] h = .ok (refsA (callL p f)) (h ++ [[.tup ((found p f).map (entA AV.bool))]]) := by
  rw [C28]
  have hla : la < h.length := (List.getElem?_eq_some_iff.1 ha).1
  let H0 : List (Ref × Bool) → Hp := fun o => h ++ [[.tup (o.map (entA AV.bool))]]
  have h0 := t34 (H := H0) (st := foundS p f) (g := .fn (.func 41) [] [.ip [.str f.1, .str f.2], .ip [.mp la], .ip [.mp h.length]]) (fun o e => by
    have := t41 p f e (h ++ [[.tup (o.map (entA AV.bool))]]) la h.length o (by unfold IsIdx; rw [List.getElem?_append_left hla]; exact ha) (by simp)
    show callW pg 41 ([] ++ [e.av] ++ _) _ = _
    simp only [List.nil_append, List.cons_append]
    rw [this]
    simp [H0]) _ (bodyR p f) (Nat.le_refl _) hL []
  have hlk := look_fun (p := p) (h := h ++ [[.tup []]]) (l := la) (by unfold IsIdx; rw [List.getElem?_append_left hla]; exact ha) f false
  have hs := t30 (f := AV.bool) (h := h ++ [[.tup ((found p f).map (entA AV.bool))]]) (l := h.length) (es := found p f) (by simp) hb 52 (.inl rfl)
  have hk : callW pg 43 [.mp h.length] = M.pure (.fn (.func 52) [] [.ip [.mp h.length]]) := C43 _
  simp [S28]
  rw [bnd_ok (m := newMapH) (h := h) rfl]
  have hc1 : cellsM 1 (.mp h.length) = M.pure (.agg [.mp h.length]) := cellsM_of rfl
  have hc2 : ∀ n, acells (.mp n) = [.mp n] := fun _ => rfl
  simp only [hc1]
  simp [hk, hc2]
  rw [bnd_ok hlk]
  simp [fbody]
  refine (bnd_ok h0).trans ?_
  refine (bnd_ok hs).trans ?_
  rfl
end Go.Proofs.Ytpnonheegflllaa
