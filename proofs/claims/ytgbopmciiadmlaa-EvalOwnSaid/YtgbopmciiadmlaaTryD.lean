/- The program of law 19 is good. No condition. -/
import Derived.Test.YtgbopmciiadmlaaTryC
import Derived.Test.YtgbopmciiadmlaaLc
namespace Go.Proofs.Ytgbopmciiadmlaa
open Go Go.Av
set_option maxRecDepth 100000
theorem tryW_size (w : World) : (tryW w).heap.size = w.heap.size + 2 := by simp [tryW]
theorem tryW_old (w : World) (b : Nat) (hb : b < w.heap.size) : (tryW w).heap[b]? = w.heap[b]? := by
  unfold tryW
  rw [heap_alloc_old _ _ (by simp; omega), heap_alloc_old _ _ hb]
theorem tryW_gro (w : World) : Gro w (tryW w) := (Gro.alloc w _ _).trans (Gro.alloc _ _ _)
theorem tryS_gro (w w' : World) (u0 u1 u2 u3 e : Value) : Gro w' (tryS w w' u0 u1 u2 u3 e) :=
  ((((Gro.setCell _ _ _).trans (Gro.setCell _ _ _)).trans (Gro.setCell _ _ _)).trans (Gro.setCell _ _ _)).trans (Gro.setCell _ _ _)
theorem tryS_same (w w' : World) (u0 u1 u2 u3 e : Value) (b : Nat) (hb : ¬ (w.heap.size ≤ b ∧ b < (tryW w).heap.size)) : (tryS w w' u0 u1 u2 u3 e).heap[b]? = w'.heap[b]? := by
  rw [tryW_size] at hb
  unfold tryS
  rw [setCell_heap (by simp; omega), setCell_heap (by simp; omega), setCell_heap (by simp; omega), setCell_heap (by simp; omega), setCell_heap (by simp; omega)]
theorem callV_inv {call : FuncId → List AV → M AV} {f : AV} {xs : List AV} {h : Hp} (hr : callV call f xs h ≠ .fail) : ∃ g a c, f = .fn (.func g) a c := by
  unfold callV at hr
  split at hr
  · exact ⟨_, _, _, rfl⟩
  · exact absurd rfl hr
theorem try_ok : TryOK := by
  intro call hC args h S β w vs hr hg hw hh hv
  have key : ∀ f, args = [f] → Calls Try.prog 40 vs.toArray w (CPost none S β h w (tryE 33 .i64 (.agg [.int .i64 0, .int .i64 0, .sl [], .sl []]) call args h)) := by
    rintro f rfl
    have ht : tryE 33 .i64 (.agg [.int .i64 0, .int .i64 0, .sl [], .sl []]) call [f] h = tryP 33 .i64 (.agg [.int .i64 0, .int .i64 0, .sl [], .sl []]) (callV call f [] h) := rfl
    rw [ht] at hr ⊢
    clear ht
    simp only [VRs] at hv
    obtain ⟨fv, _, rfl, hv, rfl⟩ := hv
    have hne : callV call f [] h ≠ .fail := fun e => by rw [e] at hr; exact hr rfl
    obtain ⟨g, a, c, rfl⟩ := callV_inv hne
    · have hcv : callV call (.fn (.func g) a c) [] h = call g (a ++ [] ++ c) h := rfl
      rw [hcv] at hr hne ⊢
      simp only [VR] at hv
      obtain ⟨x, y, rfl, hx, hy⟩ := hv
      have hold := tryW_old w
      have hv2 : VRs S β (a ++ [] ++ c) (x ++ y) := by simpa using hx.append hy
      obtain ⟨hcall, hfn⟩ := hC g (a ++ [] ++ c) h S β (tryW w) (x ++ y) hne ⟨hg.1.mono fun b hb => hold b (Nat.lt_of_lt_of_le hb hg.1.lt), hg.2⟩ (hw.grow hold) (hh.grow hold) hv2
      refine try_walk g x.toArray y.toArray w _ hfn ?_
      have e : (x ++ y).toArray = x.toArray ++ y.toArray := by simp
      rw [← e]
      refine hcall.mono fun en w' hp => ?_
      have kk : ∀ S' β' h', Go.Av.Left (HOwn β h) S β (tryW w) S' β' w' h' → w'.heap[w.heap.size]? = (tryW w).heap[w.heap.size]? ∧ w'.heap[w.heap.size + 1]? = (tryW w).heap[w.heap.size + 1]? := fun S' β' h' L =>
        ⟨(L.keep _ (by rw [tryW_size]; omega) fun ho => by have := hh.low ho; omega).1, (L.keep _ (by rw [tryW_size]; omega) fun ho => by have := hh.low ho; omega).1⟩
      generalize call g (a ++ [] ++ c) h = r at hr hne hp ⊢
      cases r with
      | fail => exact absurd rfl hne
      | ok v h' =>
        obtain ⟨S', β', u, rfl, hu, L, _⟩ := hp
        refine ⟨(kk _ _ _ L).1, (kk _ _ _ L).2, .inl ?_⟩
        simp only [tryP] at hr ⊢
        cases hok : okEl 4 v with
        | false => rw [hok] at hr; exact absurd rfl hr
        | true =>
          obtain ⟨g1, g2, g3⟩ := okEl_ok hok hu
          have hcs : ∃ cs, v = .agg cs := by
            simp only [okEl, Bool.and_eq_true] at hok
            have h1 := hok.1
            cases v <;> simp [sizeA] at h1
            exact ⟨_, rfl⟩
          obtain ⟨cs, rfl⟩ := hcs
          simp only [VR] at hu
          obtain ⟨us, rfl, hus⟩ := hu
          simp only [Value.cells] at g1 g3
          match us, g1 with
          | [u0, u1, u2, u3], _ =>
            refine ⟨u0, u1, u2, u3, g3 u0 (by simp), g3 u1 (by simp), g3 u2 (by simp), g3 u3 (by simp), rfl, S', β', _, rfl, ?_, left_wrap (tryW_gro w) hold L (tryS_gro ..) (fun b hb => tryS_same w w' _ _ _ _ _ b hb) hw hh, fun sz hsz => by cases hsz⟩
            simp only [VR, VRs]
            exact ⟨[.agg #[u0, u1, u2, u3], .int .i64 0], rfl, _, _, rfl, ⟨[u0, u1, u2, u3], rfl, hus⟩, _, _, rfl, rfl, rfl⟩
      | pan v h' =>
        obtain ⟨S', β', u, rfl, hu, L⟩ := hp
        refine ⟨(kk _ _ _ L).1, (kk _ _ _ L).2, .inr ?_⟩
        unfold tryP at hr ⊢
        split at hr
        · rename_i heq; cases heq
        · rename_i t' k' n h'' heq
          cases heq
          cases hb : (Nat.beq t' 33 && decide (k' = IntKind.i64)) with
          | false => rw [hb] at hr; exact absurd rfl hr
          | true =>
            simp only [Bool.and_eq_true, decide_eq_true_eq] at hb
            obtain ⟨hb1, rfl⟩ := hb
            have := Nat.eq_of_beq_eq_true hb1
            subst this
            simp only [VR] at hu
            obtain ⟨u', rfl, rfl⟩ := hu
            refine ⟨n, rfl, S', β', _, rfl, ?_, left_wrap (tryW_gro w) hold L (tryS_gro ..) (fun b hb => tryS_same w w' _ _ _ _ _ b hb) hw hh, fun sz hsz => by cases hsz⟩
            simp only [VR, VRs]
            refine ⟨[.agg #[.int .i64 0, .int .i64 0, .slice none 0 0, .slice none 0 0], .int .i64 n], rfl, _, _, rfl, ⟨[.int .i64 0, .int .i64 0, .slice none 0 0, .slice none 0 0], rfl, _, _, rfl, rfl, _, _, rfl, rfl, _, _, rfl, ?_, _, _, rfl, ?_, rfl⟩, _, _, rfl, rfl, rfl⟩
            · exact ⟨none, 0, rfl, Nat.le_refl _, fun _ => rfl, fun q hq => by cases hq⟩
            · exact ⟨none, 0, rfl, Nat.le_refl _, fun _ => rfl, fun q hq => by cases hq⟩
        · exact absurd rfl hr
  rcases args with _ | ⟨f, _ | ⟨f2, r⟩⟩
  · exact absurd rfl hr
  · exact key _ rfl
  · exact absurd rfl hr
theorem good : GoodPg Try.prog pg := good_of try_ok
end Go.Proofs.Ytgbopmciiadmlaa
