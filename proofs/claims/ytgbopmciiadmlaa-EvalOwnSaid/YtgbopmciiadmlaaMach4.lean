/- Records. Condition: what eval gives with less fuel. -/
import Derived.Test.YtgbopmciiadmlaaMach3
namespace Go.Proofs.Ytgbopmciiadmlaa
open Go Go.Av Go.Av.Ap
theorem xbind_assoc {α β γ : Type} (x : X α) (f : α → X β) (g : β → X γ) : (x.bind f).bind g = x.bind fun a => (f a).bind g := by
  funext m
  unfold X.bind
  cases x m <;> rfl
theorem xbind_ok {α β : Type} (a : α) (f : α → X β) : (X.ok a).bind f = f a := rfl
theorem t96 (l : List Str) (h : l.length ≤ 8796093022208) : callW pg 96 [strs l] = M.pure (strs l) := by
  have e : callW pg 96 [strs l] = cloneV T 25 (callW pg) [strs l] := callW_other hOther rfl _
  rw [e]
  show lft (appA T 25 (.sl []) (strs l)) = _
  have := AP25 (a := []) (b := l) (by simp; omega)
  simp only [List.nil_append] at this
  show lft (appA T 25 (strs []) (strs l)) = _
  rw [this]
  rfl
theorem loop_rec {p : List Mod} {nm : SNm} {n : Nat} (IH : EvOK p nm n) (own : Int) (ns : List Str) (vs : List Val) (en : List Str) (es : List Exp) (x5 x6 x7 x8 : AV) (hes : ∀ e ∈ es, expLim e) (h8 : es.length ≤ 8) :
    ∀ (B A : List Exp) (acc : List Val) (m : Ms) (h : Hp), A ++ B = es → acc.length = A.length → (∀ v ∈ acc, Rv v) → en.length ≤ 8 → RepP p nm m h → GoodM p m → m.fuel ≤ n → Sc p own ns vs m →
    OutG p nm Val.av ((listX (evalX p n own ns vs) B).bind (fun ws => if levelV (.mk 2 0 en (acc ++ ws)) ≤ 4 then .ok (.mk 2 0 en (acc ++ ws)) else .er 6) m)
      (fixW (L78_0 (callW pg) fixW) [.hp 0 0, .ip (acells (scopeAv own ns vs)), exps es, .int .i64 es.length, .int .i64 A.length, x5, x6, x7, x8, .int .i64 2, .int .i64 0, strs en, vals acc] h)
  | [], A, acc, m, h, e, ha, hr, hen, R, G, hn, hs => by
    simp only [List.append_nil] at e
    subst e
    have hsz : (Val.mk 2 0 en acc).sz ≤ 1099511627776 := by
      have h2 : valsSz acc ≤ acc.length * 200000 := by
        have key : ∀ l : List Val, (∀ v ∈ l, Rv v) → valsSz l ≤ l.length * 200000 := by
          intro l
          induction l with
          | nil => intro _; simp [valsSz]
          | cons v l ih =>
            intro h
            have h1 := right_sz (h v List.mem_cons_self)
            have h2 := ih fun w hw => h w (List.mem_cons_of_mem _ hw)
            simp only [valsSz, List.length_cons]
            omega
        exact key acc hr
      simp only [Val.sz]
      have : acc.length * 200000 ≤ 8 * 200000 := Nat.mul_le_mul_right _ (by omega)
      omega
    have hlv := t97 _ (.mk 2 0 en acc) (Nat.le_refl _) hsz
    rw [Val.av_eq] at hlv
    simp only [Val.kind_mk, Val.n_mk, Val.names_mk, Val.values_mk] at hlv
    have hw : ∀ h, bnd (cellsNil 4 [] (AV.agg [.int .i64 2, .int .i64 0, strs en, vals acc])) (fun w => M.pure (AV.agg [nth (acells w) 0, nth (acells w) 1, nth (acells w) 2, nth (acells w) 3])) h = M.pure (Val.mk 2 0 en acc).av h := fun h => by
      have := wrap4' (Val.mk 2 0 en acc) h
      rw [Val.av_eq] at this ⊢
      exact this
    rw [FL78_0]
    simp only [listX, xbind_ok, List.append_nil]
    simp only [L78_0, nth_zero, nth_succ, bin_lss, bnd_some, condM_bool, Int.lt_irrefl, decide_false, Bool.false_eq_true, if_false, hlv, bnd_pure, bin_leq, bnd_must, mustM, hw]
    by_cases h4 : levelV (.mk 2 0 en acc) ≤ 4
    · have h4' : decide (((levelV (.mk 2 0 en acc) : Nat) : Int) ≤ 4) = true := by simp; omega
      simp only [h4, h4', if_true, hw]
      exact out_pure R
    · have h4' : decide (((levelV (.mk 2 0 en acc) : Nat) : Int) ≤ 4) = false := by simp; omega
      simp only [h4, h4', Bool.false_eq_true, if_false]
      exact out_er R
  | x :: B, A, acc, m, h, e, ha, hr, hen, R, G, hn, hs => by
    have hll : A.length + (B.length + 1) = es.length := by rw [← e]; simp
    have h1 : (A.length : Int) < (es.length : Int) := by omega
    have hx : es[A.length]'(by omega) = x := by subst e; simp
    have hm : x ∈ es := by rw [← e]; simp
    have hi := IX26 (l := es) (n := (A.length : Int)) (by omega) h1
    rw [show ((A.length : Int)).toNat = A.length by omega, getElem!_pos es A.length (by omega), hx] at hi
    have hsc : loadA T 98 (.ip (acells (scopeAv own ns vs))) = some (scopeAv own ns vs) := rfl
    have hex : loadA T 28 (.ip (acells x.av)) = some x.av := by simp
    rw [FL78_0]
    simp only [listX, xbind_assoc, xbind_ok]
    simp only [L78_0, nth_zero, nth_succ, bin_lss, bnd_some, condM_bool, h1, decide_true, if_true, hi, hex, cellsM_of (okEl_exp x), bnd_pure, hsc, acells_agg]
    refine out_bind (IH own ns vs x m h R G hn hs (hes x hm)) fun v s h' hv Rs => ?_
    obtain ⟨G2, rv, f2⟩ := G.eval hs.right hv
    have hb2 : buildSliceA T 23 1 [(0, v.av)] = some (vals [v]) := by rw [v.av_eq]; simp [vals, valsAv, v.av_eq]; rfl
    have ha2 : appA T 23 (vals acc) (vals [v]) = some (vals (acc ++ [v])) := AP23 (by simp; omega)
    have hc1 : cell1M (vals (acc ++ [v])) = M.pure (vals (acc ++ [v])) := rfl
    have hw : IntKind.i64.wrap ((A.length : Int) + 1) = ((A.length + 1 : Nat) : Int) := wrap_add1 (by omega)
    simp only [hb2, bnd_some, ha2, hc1, bnd_pure, bin_add, hw]
    have ih := loop_rec IH own ns vs en es x5 x6 x7 x8 hes h8 B (A ++ [x]) (acc ++ [v]) s h' (by rw [← e]; simp) (by simp [ha]) (fun w hw => by
      rcases List.mem_append.1 hw with k | k
      · exact hr w k
      · simp only [List.mem_singleton] at k; subst k; exact rv) hen Rs G2 (by omega) (hs.less f2)
    simp only [List.append_assoc, List.singleton_append, List.length_append, List.length_singleton] at ih
    exact ih
theorem t78 {p : List Mod} {nm : SNm} {n : Nat} (IH : EvOK p nm n) : RecOK p nm n := by
  intro own ns vs e m h R G hn hs he
  obtain ⟨l1, l2⟩ := expLim_names he
  unfold recordX
  have ha := t89 e.names (by omega)
  have hcl := t96 e.names (by omega)
  have hB : buildA T true 39 [(0, .int .i64 2), (2, strs e.names)] = some (.agg [.int .i64 2, .int .i64 0, strs e.names, .hn]) := rfl
  have hC : cellsNil 4 [3] (.agg [.int .i64 2, .int .i64 0, strs e.names, .hn]) = M.pure (.agg [.int .i64 2, .int .i64 0, strs e.names, .hn]) := rfl
  rw [C78]
  simp only [S78, acells_exp, FA28_4, FA28_5, List.drop_succ_cons, List.drop_zero, LD25, LD26, LENE25, LENE26, bnd_some, bin_eql, ha, bnd_pure, guardM_pure1, nth_zero, nth_succ, pickA_and, bnd_must, mustM, bin_leq, hcl, hB, hC, acells_agg]
  have hsc : (AV.ip (acells (scopeAv own ns vs))) = .ip [.int .i64 own, strs ns, vals vs] := rfl
  by_cases hl : e.names.length = e.args.length
  · by_cases hasc : asc e.names = true
    · have e1 : ((e.names.length : Int) == (e.args.length : Int) && asc e.names) = true := by simp [hl, hasc]
      simp only [hl, hasc, e1, and_self, if_true]
      by_cases h8 : e.args.length ≤ 8
      · have h8' : decide ((e.args.length : Int) ≤ 8) = true := by simp; omega
        have e2 : ((e.args.length : Int) == (e.args.length : Int) && true) = true := by simp
        simp only [h8, h8', e2, if_true]
        have := loop_rec IH own ns vs e.names e.args (.int .i64 0) (.int .i64 0) (.sl []) (.sl []) (fun x hx => expLim_arg he hx) h8 e.args [] [] m h rfl rfl (fun v hv => by cases hv) (by omega) R G hn hs
        simp only [List.nil_append] at this
        exact this
      · have h8' : decide ((e.args.length : Int) ≤ 8) = false := by simp; omega
        have e2 : ((e.args.length : Int) == (e.args.length : Int) && true) = true := by simp
        simp only [h8, h8', e2, if_true, Bool.false_eq_true, if_false]
        exact out_er R
    · have e1 : ((e.names.length : Int) == (e.args.length : Int) && false) = false := by simp
      have hasc' : asc e.names = false := by simpa using hasc
      simp only [e1, hasc', and_false, Bool.false_eq_true, if_false]
      exact out_er R
  · have e1 : ((e.names.length : Int) == (e.args.length : Int) && asc e.names) = false := by
      have : ((e.names.length : Int) == (e.args.length : Int)) = false := by
        rw [beq_eq_false_iff_ne]
        omega
      rw [this]
      rfl
    simp only [e1, hl, false_and, Bool.false_eq_true, if_false]
    exact out_er R
end Go.Proofs.Ytgbopmciiadmlaa
