/- What few grants: the bounds of a program. No condition. -/
import Derived.Test.YtgbopmciiadmlaaLaw4
import Derived.Test.YtgbopmciiadmlaaLd
namespace Go.Proofs.Ytgbopmciiadmlaa
open Go Go.Av Go.Av.Ap
theorem expsLim_of : (l : List Exp) → (∀ x ∈ l, expLim x) → expsLim l
  | [], _ => trivial
  | x :: l, h => ⟨h x List.mem_cons_self, expsLim_of l fun y hy => h y (List.mem_cons_of_mem _ hy)⟩
theorem expLim_of {e : Exp} (h1 : e.names.length ≤ 8796093022208) (h2 : e.args.length ≤ 274877906944) (h3 : ∀ x ∈ e.args, expLim x) : expLim e := by
  obtain ⟨o, n, s, m, ns, es⟩ := e
  exact ⟨h1, h2, expsLim_of es h3⟩
theorem nodes_lim : ∀ (d : Nat) (e : Exp), e.Lim → ∀ most : Int, 0 ≤ most → most ≤ 1000 → nodesX d e most ≤ most → expLim e
  | 0, e, _, most, _, _, h => by simp only [nodesX] at h; omega
  | d + 1, e, he, most, h0, h1, h => by
    have h' : capS most (nodesX d) 1 e.args ≤ most := h
    obtain ⟨a1, a2, _⟩ := capS_fit (fun _ => 0) 0 e.args (fun x _ m h0 _ => (nodesX_bounds d x m h0).1) (fun x _ m _ _ _ => by simp) 1 (by omega) h'
    refine expLim_of he.names (by omega) fun x hx => ?_
    obtain ⟨m, b1, b2, b3⟩ := a2 x hx
    exact nodes_lim d x (he.kid hx) m b1 (by omega) b3
theorem nodesOk_lim {e : Exp} (he : e.Lim) (h : nodesOk e = true) : expLim e := nodes_lim 16 e he 40 (by omega) (by omega) (of_decide_eq_true h)
structure FewP (p : List Mod) (fuel : Int) : Prop where
  len : p.length ≤ 4
  fuel : fuel ≤ 2000
  lim : LimR p
  small : ∀ m ∈ p, m.vars.length ≤ 8 ∧ ∀ f ∈ m.funcs, f.params.length ≤ 8
theorem fewX_prog {p : List Mod} {args : List Val} {world : List Int} {fuel : Int} (h : fewX p args world fuel = true) (hm : ∀ m ∈ p, m.Lim) : FewP p fuel := by
  unfold fewX at h
  simp only [Bool.and_eq_true, decide_eq_true_eq, List.all_eq_true, fewM] at h
  obtain ⟨⟨⟨⟨c1, _⟩, _⟩, c4⟩, c5, _⟩ := h
  have hs : ∀ m ∈ p, m.vars.length ≤ 8 ∧ ∀ f ∈ m.funcs, f.params.length ≤ 8 := fun m hmp => by
    obtain ⟨⟨⟨⟨d1, d2⟩, d3⟩, d4⟩, d5, d6⟩ := c5 m hmp
    exact ⟨by omega, fun f hf => (d6 f hf).2⟩
  refine ⟨c1, c4, ⟨⟨⟨by omega, fun m hmp => ?_⟩, fun m hmp f hf => ?_⟩, fun m hmp => ?_⟩, hs⟩
  · obtain ⟨⟨⟨⟨d1, d2⟩, d3⟩, d4⟩, d5, d6⟩ := c5 m hmp
    exact ⟨by omega, by omega⟩
  · obtain ⟨⟨⟨⟨d1, d2⟩, d3⟩, d4⟩, d5, d6⟩ := c5 m hmp
    exact ⟨nodesOk_lim ((hm m hmp).fns f hf).body (d6 f hf).1, by have := (d6 f hf).2; omega⟩
  · obtain ⟨⟨⟨⟨d1, d2⟩, d3⟩, d4⟩, d5, d6⟩ := c5 m hmp
    exact ⟨by omega, fun e he => nodesOk_lim ((hm m hmp).ies e he) (d5 e he)⟩
theorem fewX_world {p : List Mod} {args : List Val} {world : List Int} {fuel : Int} (h : fewX p args world fuel = true) : world.length ≤ 30 := by
  unfold fewX at h
  simp only [Bool.and_eq_true, decide_eq_true_eq, List.all_eq_true] at h
  exact h.1.1.2
theorem run_outLim {p : List Mod} {fu : Int} (F : FewP p fu) (module fn : Str) (args : List Val) (world : List Int) (fuel : Int) : OutLim (runX p module fn args world fuel) :=
  outLim_of (B := 8) (n := p.length) (run_lim p module fn args world fuel F.small) (run_right ..) (by omega) (by have := F.len; omega)
end Go.Proofs.Ytgbopmciiadmlaa
