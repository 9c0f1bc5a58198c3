/- Calls by name. Condition: what eval gives with less fuel. -/
import Derived.Test.YtgbopmciiadmlaaMach6
namespace Go.Proofs.Ytgbopmciiadmlaa
open Go Go.Av Go.Av.Ap
theorem loop_call {p : List Mod} {nm : SNm} {n : Nat} (IH : EvOK p nm n) (IE : EnterOK p nm n) (own : Int) (ns : List Str) (vs : List Val) (at_ : Int) (f : Fun) (es : List Exp) (x8 x9 x10 x11 : AV) (ha : 0 ≤ at_) (hat : at_ < p.length) (hf : f ∈ (p[at_.toNat]?.getD default).funcs) (hes : ∀ e ∈ es, expLim e) (h8 : es.length ≤ 274877906944) (hlen : es.length = f.params.length) :
    ∀ (B A : List Exp) (acc : List Val) (m : Ms) (h : Hp), A ++ B = es → acc.length = A.length → (∀ v ∈ acc, Rv v) → RepP p nm m h → GoodM p m → mu m < 1000000 → m.fuel ≤ n → Sc p own ns vs m →
    OutG p nm Val.av ((listX (evalX p n own ns vs) B).bind (fun ws => enterX p (evalX p n) at_ f (acc ++ ws)) m)
      (fixW (L80_0 (callW pg) fixW) [.hp 0 0, .ip (acells (scopeAv own ns vs)), .int .i64 at_, .ip (acells f.av), vals acc, exps es, .int .i64 es.length, .int .i64 A.length, x8, x9, x10, x11] h)
  | [], A, acc, m, h, e, hac, hr, R, G, hmu, hn, hs => by
    simp only [List.append_nil] at e
    subst e
    have hfl : loadA T 67 (.ip (acells f.av)) = some f.av := by simp
    have IE' := IE at_ f acc m h ha hat hf (by omega) hr R G hmu hn
    generalize hcode : fixW (L80_0 (callW pg) fixW) [.hp 0 0, .ip (acells (scopeAv own ns vs)), .int .i64 at_, .ip (acells f.av), vals acc, exps A, .int .i64 A.length, .int .i64 A.length, x8, x9, x10, x11] h = code
    rw [FL80_0] at hcode
    simp -implicitDefEqProofs only [L80_0, nth_zero, nth_succ, bin_lss, bnd_some, condM_bool, Int.lt_irrefl, decide_false, Bool.false_eq_true, if_false, hfl] at hcode
    simp only [listX, xbind_ok, List.append_nil]
    rw [← hcode]
    exact out_wrap IE'
  | x :: B, A, acc, m, h, e, hac, hr, R, G, hmu, hn, hs => by
    have hll : A.length + (B.length + 1) = es.length := by rw [← e]; simp
    have h1 : (A.length : Int) < (es.length : Int) := by omega
    have hx : es[A.length]'(by omega) = x := by subst e; simp
    have hm : x ∈ es := by rw [← e]; simp
    have hi := IX26 (l := es) (n := (A.length : Int)) (by omega) h1
    rw [show ((A.length : Int)).toNat = A.length by omega, getElem!_pos es A.length (by omega), hx] at hi
    have hsc : loadA T 98 (.ip (acells (scopeAv own ns vs))) = some (scopeAv own ns vs) := rfl
    have hex : loadA T 28 (.ip (acells x.av)) = some x.av := by simp
    have hw : IntKind.i64.wrap ((A.length : Int) + 1) = ((A.length + 1 : Nat) : Int) := wrap_add1 (by omega)
    generalize hcode : fixW (L80_0 (callW pg) fixW) [.hp 0 0, .ip (acells (scopeAv own ns vs)), .int .i64 at_, .ip (acells f.av), vals acc, exps es, .int .i64 es.length, .int .i64 A.length, x8, x9, x10, x11] h = code
    rw [FL80_0] at hcode
    simp -implicitDefEqProofs only [L80_0, nth_zero, nth_succ, bin_lss, bnd_some, condM_bool, h1, decide_true, if_true, hi, hex, cellsM_of (okEl_exp x), bnd_pure, hsc] at hcode
    have hex' : loadA T 28 (.ip (acells (.agg (acells x.av)))) = some x.av := hex
    simp -implicitDefEqProofs only [hex', bnd_some] at hcode
    rw [← hcode]
    simp only [listX, xbind_assoc, xbind_ok]
    refine out_bind (IH own ns vs x m h R G hn hs (hes x hm)) fun v s h' hv Rs => ?_
    obtain ⟨G2, rv, f2⟩ := G.eval hs.right hv
    obtain ⟨t1, _⟩ := tq_eval n own ns vs x m v s G.fuel hv
    have hb2 : buildSliceA T 23 1 [(0, v.av)] = some (vals [v]) := by rw [v.av_eq]; simp [vals, valsAv, v.av_eq]; rfl
    have ha2 : appA T 23 (vals acc) (vals [v]) = some (vals (acc ++ [v])) := AP23 (by simp; omega)
    have ih := loop_call IH IE own ns vs at_ f es x8 x9 x10 x11 ha hat hf hes h8 hlen B (A ++ [x]) (acc ++ [v]) s h' (by rw [← e]; simp) (by simp [hac]) (fun w hw => by
      rcases List.mem_append.1 hw with k | k
      · exact hr w k
      · simp only [List.mem_singleton] at k; subst k; exact rv) Rs G2 (by omega) (by omega) (hs.less f2)
    simp only [List.append_assoc, List.singleton_append, List.length_append, List.length_singleton] at ih
    simp only [hb2, bnd_some, ha2, bin_add, hw]
    exact ih
theorem cellsM_fun (f : Fun) : cellsM 12 f.av = M.pure (.agg (acells f.av)) := cellsM_of (okEl_fun f)
theorem call_rest {p : List Mod} {nm : SNm} {n : Nat} (LB : LimB p) (IH : EvOK p nm n) (own : Int) (ns : List Str) (vs : List Val) (e : Exp) (at_ : Int) (hat : at_ < p.length) (m : Ms) (h : Hp) (R : RepP p nm m h) (G : GoodM p m) (hmu : mu m < 1000000) (hn : m.fuel ≤ n) (hs : Sc p own ns vs m) (he : expLim e) (y1 y2 y3 y4 : AV) :
    OutG p nm Val.av ((match funcX p at_ e.s with
      | none => .er 12
      | some f => if e.m = [] ∨ f.pub = true then
          (if e.args.length = f.params.length then (listX (evalX p n own ns vs) e.args).bind fun l => enterX p (evalX p n) at_ f l else .er 13)
        else .er 12 : X Val) m)
      (K80_0 (callW pg) fixW [.hp 0 0, .ip (acells (scopeAv own ns vs)), .ip (acells e.av), .int .i64 at_, y1, y2, y3, y4] h) := by
  have IE := t42 LB IH
  obtain ⟨l1, l2⟩ := expLim_names he
  have hfn := t36 R LB.lim at_ hat e.s
  generalize hcode : K80_0 (callW pg) fixW [.hp 0 0, .ip (acells (scopeAv own ns vs)), .ip (acells e.av), .int .i64 at_, y1, y2, y3, y4] h = code
  simp -implicitDefEqProofs only [K80_0, nth_zero, nth_succ, acells_exp, FA28_2, FA28_3, FA28_5, List.drop_succ_cons, List.drop_zero, LD9, LD26, LENE26, bnd_some] at hcode
  rw [bnd_ok hfn] at hcode
  cases hf : funcX p at_ e.s with
  | none =>
    rw [hf] at hcode
    simp -implicitDefEqProofs only [funTup, extractA_tup, List.getElem?_cons_zero, List.getElem?_cons_succ, bnd_some, cellsM_fun, bnd_pure, guardM_ft, List.replicate, nth_zero, guardM_tup, pickA_false, bnd_must, mustM, Bool.false_eq_true, if_false] at hcode
    rw [← hcode]
    exact out_er R
  | some f =>
    rw [hf] at hcode
    obtain ⟨f1, f2, f3⟩ := funcX_some hf
    have hmp : p[at_.toNat]?.getD default ∈ p := by rw [List.getElem?_eq_getElem f2]; exact List.getElem_mem f2
    obtain ⟨_, hparams⟩ := LB.body _ hmp f f3
    have hac : ∀ f : Fun, acells (.agg (acells f.av)) = acells f.av := fun _ => rfl
    simp -implicitDefEqProofs only [funTup, extractA_tup, List.getElem?_cons_zero, List.getElem?_cons_succ, bnd_some, cellsM_fun, bnd_pure, guardM_take1, str_eql, nth_zero, hac] at hcode
    have hpub : loadA T 4 (.ip (List.drop 1 (acells f.av))) = some (.bool f.pub) := by simp
    have hpar : loadA T 58 (.ip (List.drop 2 (acells f.av))) = some (flds f.params) := by simp
    have hgu : guardM (.bool (e.m == [])) false 1 (M.pure [.bool f.pub]) = M.pure [gv (e.m == []) false (.bool f.pub)] := guardM_pure1 _ _ _
    have hpk : pickA (.bool (e.m == [])) (.bool true) (gv (e.m == []) false (.bool f.pub)) = some (.bool ((e.m == []) || f.pub)) := pickA_or _ _
    simp -implicitDefEqProofs only [FA67_1, FA67_2, hpub, hpar, bnd_some, hgu, bnd_pure, nth_zero, hpk, pickA_true, bnd_must, LENE58, bin_eql] at hcode
    by_cases h1 : e.m = [] ∨ f.pub = true
    · have h1' : (e.m == [] || f.pub) = true := by
        simp only [Bool.or_eq_true, beq_iff_eq]
        exact h1
      simp only [h1', mustM, if_true] at hcode
      simp only [if_pos h1]
      by_cases h2 : e.args.length = f.params.length
      · have h2' : ((e.args.length : Int) == (f.params.length : Int)) = true := by simp [h2]
        simp only [h2', if_true] at hcode
        simp only [if_pos h2]
        rw [← hcode]
        have := loop_call IH IE own ns vs at_ f e.args y1 y2 y3 y4 (by omega) hat f3 (fun x hx => expLim_arg he hx) (by omega) h2 e.args [] [] m h rfl rfl (fun v hv => by cases hv) R G hmu hn hs
        simp only [List.nil_append] at this
        exact this
      · have h2' : ((e.args.length : Int) == (f.params.length : Int)) = false := by
          rw [beq_eq_false_iff_ne]
          omega
        simp only [h2', Bool.false_eq_true, if_false] at hcode
        simp only [if_neg h2]
        rw [← hcode]
        exact out_er R
    · have h1' : (e.m == [] || f.pub) = false := by
        rw [← Bool.not_eq_true]
        simp only [Bool.or_eq_true, beq_iff_eq]
        exact h1
      simp only [h1', mustM, Bool.false_eq_true, if_false] at hcode
      simp only [if_neg h1]
      rw [← hcode]
      exact out_er R
theorem t80 {p : List Mod} {nm : SNm} {n : Nat} (LB : LimB p) (IH : EvOK p nm n) : CallOK p nm n := by
  intro own ns vs e m h R G hmu hn hs he
  unfold callX
  have hown : loadA T 3 (.ip [.int .i64 own, strs ns, vals vs]) = some (.int .i64 own) := rfl
  have hmd := t35 R LB.lim e.m
  generalize hcode : callW pg 80 [.hp 0 0, scopeAv own ns vs, e.av] h = code
  rw [C80] at hcode
  simp -implicitDefEqProofs only [S80, acells_scope, acells_exp, FA98_0, FA28_3, List.drop_succ_cons, List.drop_zero, hown, LD9, bnd_some, jn_def, str_neq, condM_bool] at hcode
  by_cases h0 : e.m = []
  · have h0' : (!(e.m == [])) = false := by simp [h0]
    simp only [h0', Bool.false_eq_true, if_false] at hcode
    simp only [if_pos h0]
    rw [← hcode]
    have := call_rest LB IH own ns vs e own hs.own m h R G hmu hn hs he (.int .i64 0) (.int .i64 0) (.sl []) (.sl [])
    simp only [acells_scope, acells_exp] at this
    exact this
  · have h0' : (!(e.m == [])) = true := by simp [h0]
    simp only [h0', if_true] at hcode
    rw [bnd_ok hmd] at hcode
    simp only [if_neg h0]
    rw [← hcode]
    have hlt : modAt p e.m < p.length := by
      rcases idxAt_lt (fun (x : Mod) => x.name == e.m) p 0 with k | k
      · show idxAt _ p 0 < _
        rw [k]; omega
      · show idxAt _ p 0 < _
        omega
    have := call_rest LB IH own ns vs e (modAt p e.m) hlt m h R G hmu hn hs he (.int .i64 0) (.int .i64 0) (.sl []) (.sl [])
    simp only [acells_scope, acells_exp] at this
    exact this
end Go.Proofs.Ytgbopmciiadmlaa
