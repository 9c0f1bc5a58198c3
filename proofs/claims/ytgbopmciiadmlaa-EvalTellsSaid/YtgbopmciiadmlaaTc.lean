/- What the functions of the seat compute, part 3: the texts of the claim, one behind the other. Conditions: bounds, as each theorem names them. -/
import Derived.Test.YtgbopmciiadmlaaTb
import Derived.Test.YtgbopmciiadmlaaLc

namespace Go.Proofs.Ytgbopmciiadmlaa
open Go Go.Av Go.Av.Ap
theorem loop_call {p : List Mod} {nm : SNm} {n : Nat} (IH : EvOK p nm n) (IE : EnterOK p nm n) (own : Int) (ns : List Str) (vs : List Val) (at_ : Int) (f : Fun) (es : List Exp) (x8 x9 x10 x11 : AV) (ha : 0 ≤ at_) (hat : at_ < p.length) (hf : f ∈ (p[at_.toNat]?.getD default).funcs) (hes : ∀ e ∈ es, expLim e) (h8 : es.length ≤ 274877906944) (hlen : es.length = f.params.length) :
  ∀ (B A : List Exp) (acc : List Val) (m : Ms) (h : Hp), A ++ B = es → acc.length = A.length → (∀ v ∈ acc, Rv v) → RepP p nm m h → GoodM p m → mu m < 1000000 → m.fuel ≤ n → Sc p own ns vs m →
  OutG p nm Val.av ((listX (evalX p n own ns vs) B).bind (fun ws => enterX p (evalX p n) at_ f (acc ++ ws)) m)
   (fixW (L80_0 (callW pg) fixW) [.hp 0 0, .ip (acells (scopeAv own ns vs)), .int .i64 at_, .ip (acells f.av), vals acc, exps es, .int .i64 es.length, .int .i64 A.length, x8, x9, x10, x11] h)
 | [], A, acc, m, h, e, hac, hr, R, G, hmu, hn, hs => by
  simp only [List.append_nil] at e
  subst e
  have hfl : loadA T 67 (.ip (acells f.av)) = some f.av := by simp
  have IE' := IE at_ f acc m h ha hat hf (by omega) hr R G hmu hn
  generalize hcode : fixW (L80_0 (callW pg) fixW) [.hp 0 0, .ip (acells (scopeAv own ns vs)), .int .i64 at_, .ip (acells f.av), vals acc, exps A, .int .i64 A.length, .int .i64 A.length, x8, x9, x10, x11] h = code
  rw [FL80_0] at hcode
  simp -implicitDefEqProofs only [L80_0, nth_zero, nth_succ, bin_lss, bnd_some, condM_bool, Int.lt_irrefl, decide_false, Bool.false_eq_true, if_false, hfl] at hcode
  simp only [listX, xbind_ok, List.append_nil]
  rw [← hcode]
  exact out_wrap IE'
 | x :: B, A, acc, m, h, e, hac, hr, R, G, hmu, hn, hs => by
  have hll : A.length + (B.length + 1) = es.length := by rw [← e]; simp
  have h1 : (A.length : Int) < (es.length : Int) := by omega
  have hx : es[A.length]'(by omega) = x := by subst e; simp
  have hm : x ∈ es := by rw [← e]; simp
  have hi := IX26 (l := es) (n := (A.length : Int)) (by omega) h1
  rw [show ((A.length : Int)).toNat = A.length by omega, getElem!_pos es A.length (by omega), hx] at hi
  have hsc : loadA T 98 (.ip (acells (scopeAv own ns vs))) = some (scopeAv own ns vs) := rfl
  have hex : loadA T 28 (.ip (acells x.av)) = some x.av := by simp
  have hw : IntKind.i64.wrap ((A.length : Int) + 1) = ((A.length + 1 : Nat) : Int) := wrap_add1 (by omega)
  generalize hcode : fixW (L80_0 (callW pg) fixW) [.hp 0 0, .ip (acells (scopeAv own ns vs)), .int .i64 at_, .ip (acells f.av), vals acc, exps es, .int .i64 es.length, .int .i64 A.length, x8, x9, x10, x11] h = code
  rw [FL80_0] at hcode
  simp -implicitDefEqProofs only [L80_0, nth_zero, nth_succ, bin_lss, bnd_some, condM_bool, h1, decide_true, if_true, hi, hex, cellsM_of (okEl_exp x), bnd_pure, hsc] at hcode
  have hex' : loadA T 28 (.ip (acells (.agg (acells x.av)))) = some x.av := hex
  simp -implicitDefEqProofs only [hex', bnd_some] at hcode
  rw [← hcode]
  simp only [listX, xbind_assoc, xbind_ok]
  refine out_bind (IH own ns vs x m h R G hn hs (hes x hm)) fun v s h' hv Rs => ?_
  obtain ⟨G2, rv, f2⟩ := G.eval hs.right hv
  obtain ⟨t1, _⟩ := tq_eval n own ns vs x m v s G.fuel hv
  have hb2 : buildSliceA T 23 1 [(0, v.av)] = some (vals [v]) := by rw [v.av_eq]; simp [vals, valsAv, v.av_eq]; rfl
  have ha2 : appA T 23 (vals acc) (vals [v]) = some (vals (acc ++ [v])) := AP23 (by simp; omega)
  have ih := loop_call IH IE own ns vs at_ f es x8 x9 x10 x11 ha hat hf hes h8 hlen B (A ++ [x]) (acc ++ [v]) s h' (by rw [← e]; simp) (by simp [hac]) (fun w hw => by
   rcases List.mem_append.1 hw with k | k
   ·exact hr w k
   ·simp only [List.mem_singleton] at k; subst k; exact rv) Rs G2 (by omega) (by omega) (hs.less f2)
  simp only [List.append_assoc, List.singleton_append, List.length_append, List.length_singleton] at ih
  simp only [hb2, bnd_some, ha2, bin_add, hw]
  exact ih
theorem cellsM_fun (f : Fun) : cellsM 12 f.av = M.pure (.agg (acells f.av)) := cellsM_of (okEl_fun f)
theorem call_rest {p : List Mod} {nm : SNm} {n : Nat} (LB : LimB p) (IH : EvOK p nm n) (own : Int) (ns : List Str) (vs : List Val) (e : Exp) (at_ : Int) (hat : at_ < p.length) (m : Ms) (h : Hp) (R : RepP p nm m h) (G : GoodM p m) (hmu : mu m < 1000000) (hn : m.fuel ≤ n) (hs : Sc p own ns vs m) (he : expLim e) (y1 y2 y3 y4 : AV) :
  OutG p nm Val.av ((match funcX p at_ e.s with
   | none => .er 12
   | some f => if e.m = [] ∨ f.pub = true then
     (if e.args.length = f.params.length then (listX (evalX p n own ns vs) e.args).bind fun l => enterX p (evalX p n) at_ f l else .er 13)
    else .er 12 : X Val) m)
   (K80_0 (callW pg) fixW [.hp 0 0, .ip (acells (scopeAv own ns vs)), .ip (acells e.av), .int .i64 at_, y1, y2, y3, y4] h) := by
 have IE := t42 LB IH
 obtain ⟨l1, l2⟩ := expLim_names he
 have hfn := t36 R LB.lim at_ hat e.s
 generalize hcode : K80_0 (callW pg) fixW [.hp 0 0, .ip (acells (scopeAv own ns vs)), .ip (acells e.av), .int .i64 at_, y1, y2, y3, y4] h = code
 simp -implicitDefEqProofs only [K80_0, nth_zero, nth_succ, acells_exp, FA28_2, FA28_3, FA28_5, List.drop_succ_cons, List.drop_zero, LD9, LD26, LENE26, bnd_some] at hcode
 rw [bnd_ok hfn] at hcode
 cases hf : funcX p at_ e.s with
 | none =>
  rw [hf] at hcode
  simp -implicitDefEqProofs only [funTup, extractA_tup, List.getElem?_cons_zero, List.getElem?_cons_succ, bnd_some, cellsM_fun, bnd_pure, guardM_ft, List.replicate, nth_zero, guardM_tup, pickA_false, bnd_must, mustM, Bool.false_eq_true, if_false] at hcode
  rw [← hcode]
  exact out_er R
 | some f =>
  rw [hf] at hcode
  obtain ⟨f1, f2, f3⟩ := funcX_some hf
  have hmp : p[at_.toNat]?.getD default ∈ p := by rw [List.getElem?_eq_getElem f2]; exact List.getElem_mem f2
  obtain ⟨_, hparams⟩ := LB.body _ hmp f f3
  have hac : ∀ f : Fun, acells (.agg (acells f.av)) = acells f.av := fun _ => rfl
  simp -implicitDefEqProofs only [funTup, extractA_tup, List.getElem?_cons_zero, List.getElem?_cons_succ, bnd_some, cellsM_fun, bnd_pure, guardM_take1, str_eql, nth_zero, hac] at hcode
  have hpub : loadA T 4 (.ip (List.drop 1 (acells f.av))) = some (.bool f.pub) := by simp
  have hpar : loadA T 58 (.ip (List.drop 2 (acells f.av))) = some (flds f.params) := by simp
  have hgu : guardM (.bool (e.m == [])) false 1 (M.pure [.bool f.pub]) = M.pure [gv (e.m == []) false (.bool f.pub)] := guardM_pure1 _ _ _
  have hpk : pickA (.bool (e.m == [])) (.bool true) (gv (e.m == []) false (.bool f.pub)) = some (.bool ((e.m == []) || f.pub)) := pickA_or _ _
  simp -implicitDefEqProofs only [FA67_1, FA67_2, hpub, hpar, bnd_some, hgu, bnd_pure, nth_zero, hpk, pickA_true, bnd_must, LENE58, bin_eql] at hcode
  by_cases h1 : e.m = [] ∨ f.pub = true
  ·have h1' : (e.m == [] || f.pub) = true := by
    simp only [Bool.or_eq_true, beq_iff_eq]
    exact h1
   simp only [h1', mustM, if_true] at hcode
   simp only [if_pos h1]
   by_cases h2 : e.args.length = f.params.length
   ·have h2' : ((e.args.length : Int) == (f.params.length : Int)) = true := by simp [h2]
    simp only [h2', if_true] at hcode
    simp only [if_pos h2]
    rw [← hcode]
    have := loop_call IH IE own ns vs at_ f e.args y1 y2 y3 y4 (by omega) hat f3 (fun x hx => expLim_arg he hx) (by omega) h2 e.args [] [] m h rfl rfl (fun v hv => by cases hv) R G hmu hn hs
    simp only [List.nil_append] at this
    exact this
   ·have h2' : ((e.args.length : Int) == (f.params.length : Int)) = false := by
     rw [beq_eq_false_iff_ne]
     omega
    simp only [h2', Bool.false_eq_true, if_false] at hcode
    simp only [if_neg h2]
    rw [← hcode]
    exact out_er R
  ·have h1' : (e.m == [] || f.pub) = false := by
    rw [← Bool.not_eq_true]
    simp only [Bool.or_eq_true, beq_iff_eq]
    exact h1
   simp only [h1', mustM, Bool.false_eq_true, if_false] at hcode
   simp only [if_neg h1]
   rw [← hcode]
   exact out_er R
theorem t80 {p : List Mod} {nm : SNm} {n : Nat} (LB : LimB p) (IH : EvOK p nm n) : CallOK p nm n := by
 intro own ns vs e m h R G hmu hn hs he
 unfold callX
 have hown : loadA T 3 (.ip [.int .i64 own, strs ns, vals vs]) = some (.int .i64 own) := rfl
 have hmd := t35 R LB.lim e.m
 generalize hcode : callW pg 80 [.hp 0 0, scopeAv own ns vs, e.av] h = code
 rw [C80] at hcode
 simp -implicitDefEqProofs only [S80, acells_scope, acells_exp, FA98_0, FA28_3, List.drop_succ_cons, List.drop_zero, hown, LD9, bnd_some, jn_def, str_neq, condM_bool] at hcode
 by_cases h0 : e.m = []
 ·have h0' : (!(e.m == [])) = false := by simp [h0]
  simp only [h0', Bool.false_eq_true, if_false] at hcode
  simp only [if_pos h0]
  rw [← hcode]
  have := call_rest LB IH own ns vs e own hs.own m h R G hmu hn hs he (.int .i64 0) (.int .i64 0) (.sl []) (.sl [])
  simp only [acells_scope, acells_exp] at this
  exact this
 ·have h0' : (!(e.m == [])) = true := by simp [h0]
  simp only [h0', if_true] at hcode
  rw [bnd_ok hmd] at hcode
  simp only [if_neg h0]
  rw [← hcode]
  have hlt : modAt p e.m < p.length := by
   rcases idxAt_lt (fun (x : Mod) => x.name == e.m) p 0 with k | k
   ·show idxAt _ p 0 < _
    rw [k]; omega
   ·show idxAt _ p 0 < _
    omega
  have := call_rest LB IH own ns vs e (modAt p e.m) hlt m h R G hmu hn hs he (.int .i64 0) (.int .i64 0) (.sl []) (.sl [])
  simp only [acells_scope, acells_exp] at this
  exact this
end Go.Proofs.Ytgbopmciiadmlaa

namespace Go.Proofs.Ytgbopmciiadmlaa
open Go Go.Av Go.Av.Ap
theorem ixh {t e : Nat} {ti ei : TI} (ht : T t = some ti) (hk : ti.kind = .slice e) (he : T e = some ei) {l off len sz : Nat} {ag : Bool} {n : Int} (h0 : 0 ≤ n) (h1 : n < len) : indexAddrA T t (.hs l off len sz ag) (.int .i64 n) = some (.hp l (off + n.toNat * ei.size)) := by
 simp [indexAddrA, ht, hk, he, h0, h1]
theorem push_deed {p : List Mod} {nm : SNm} {tag : Nat → Nat} {dv cv sv : AV} {m : Ms} {h : Hp} (R : RepT (rowP p nm.told) nm tag dv cv sv m h) (d : Deed) (hb : m.deeds.length ≤ 2000000) :
  ∃ dv' h1 h2, appH T 40 false dv (.sl [d.av]) h = .ok dv' h1 ∧ storeH T 40 (.hp 0 9) dv' h1 = .ok (.tup []) h2 ∧ RepP p nm { m with deeds := m.deeds ++ [d] } h2 := by
 obtain ⟨h1, dv', tag', e1, K, H, hc⟩ := push_row (T := T) (t := 40) rfl rfl rfl rfl (by decide) rfl (by decide) (x := d.av) R.ds (fun h0 => by
  have : m.deeds = [] := List.eq_nil_of_length_eq_zero h0
  rw [this]; rfl) (fun cs h => by rw [h]; exact deedCells_ok _) (okEl_deed d) (show (m.deeds.length + 1) * 24 ≤ 140737488355328 by omega)
 have h0 := (K 0 _ R.r0 (by rw [R.t0]; decide)).1
 refine ⟨dv', h1, _, e1, storeH_ok rfl h0 (okCell_one hc).1 (show 9 + 1 ≤ 12 by decide) (by decide), ?_⟩
 have hac : acells dv' = [dv'] := (okCell_one hc).2.1
 have := R.pushDeed (m' := { m with deeds := m.deeds ++ [d] }) K H rfl rfl rfl id
 refine ⟨tag', dv', cv, sv, ?_⟩
 rw [hac]
 exact this
theorem act_rest {p : List Mod} {nm : SNm} {m : Ms} {h : Hp} (R : RepP p nm m h) (hb : m.deeds.length ≤ 2000000) (e : Exp) (v : Val) (n : Int) (x1 x2 x3 x4 : AV) :
  OutG p nm Val.av (X.ok (numV n) { m with deeds := m.deeds ++ [⟨e.n, v.n, n⟩] }) (K81_0 (callW pg) fixW [.hp 0 0, .ip (acells e.av), .ip (acells v.av), .int .i64 n, x1, x2, x3, x4] h) := by
 obtain ⟨tag, dv, cv, sv, R0⟩ := R
 obtain ⟨dv', h1, h2, e1, e2, R2⟩ := push_deed R0 ⟨e.n, v.n, n⟩ hb
 have hB : buildA T false 55 [(0, .int .i64 e.n), (1, .int .i64 v.n), (2, .int .i64 n)] = some (Deed.av ⟨e.n, v.n, n⟩) := rfl
 have hBS : buildSliceA T 40 1 [(0, Deed.av ⟨e.n, v.n, n⟩)] = some (.sl [Deed.av ⟨e.n, v.n, n⟩]) := rfl
 have ld : ∀ g : AV → M AV, bnd (loadH T 40 (.hp 0 9)) g h = g dv h := fun g => bnd_ok (loadH_one rfl rfl R0.r0 rfl)
 generalize hcode : K81_0 (callW pg) fixW [.hp 0 0, .ip (acells e.av), .ip (acells v.av), .int .i64 n, x1, x2, x3, x4] h = code
 simp -implicitDefEqProofs only [K81_0, nth_zero, nth_succ, nilChkA_hp, bnd_some, FH81_4, FH43_2, Nat.zero_add, Nat.reduceAdd, ld, acells_exp, FA28_1, List.drop_succ_cons, List.drop_zero, LD3, acells_val, FA39_1, hB, hBS] at hcode
 rw [bnd_ok e1] at hcode
 rw [bnd_ok e2] at hcode
 simp -implicitDefEqProofs only [t74, bnd_pure] at hcode
 rw [wrap4'] at hcode
 rw [← hcode]
 exact out_pure R2
theorem set_world {p : List Mod} {nm : SNm} {m : Ms} {h : Hp} (R : RepP p nm m h) (w : List Int) (hw0 : m.world = [] → w = []) : ∃ h1, (m.world ≠ [] → RepP p nm { m with world := w } h1) ∧ (∀ f : AV → M AV, bnd (loadH T 24 (.hp 0 1)) f h = f (wvOf nm.told m.world) h) ∧
  (m.world ≠ [] → ∀ f : AV → M AV, bnd (storeH T 24 (.hp 0 1) (ints w)) f h = f (.tup []) h1) := by
 obtain ⟨tag, dv, cv, sv, R⟩ := R
 refine ⟨h.set 0 (setCells (rowP p nm.told m dv cv sv) 1 (acells (ints w))), fun hne => ⟨tag, dv, cv, sv, ?_⟩, fun f => bnd_ok (loadH_one rfl rfl R.r0 rfl), fun _ f => bnd_ok (storeH_ok rfl R.r0 rfl (show 1 + 1 ≤ 12 by decide) (by decide))⟩
 have ht : nm.told = false := by
  cases ht : nm.told with
  | false => rfl
  | true => exact absurd (R.wok ht) hne
 have e : setCells (rowP p nm.told m dv cv sv) 1 (acells (ints w)) = rowP p nm.told { m with world := w } dv cv sv := by
  simp only [ht]
  rfl
 rw [e]
 exact R.set0 rfl rfl rfl hw0
theorem t81 {p : List Mod} {nm : SNm} {n : Nat} (LB : LimB p) (IH : EvOK p nm n) : WorldOK p nm n := by
 intro own ns vs e m h hop hcn R G hmu hn hs he
 obtain ⟨l1, l2⟩ := expLim_names he
 have hscl : loadA T 98 (.ip [.int .i64 own, strs ns, vals vs]) = some (scopeAv own ns vs) := rfl
 have hown : loadA T 3 (.ip [.int .i64 own, strs ns, vals vs]) = some (.int .i64 own) := rfl
 generalize hcode : callW pg 81 [.hp 0 0, scopeAv own ns vs, e.av] h = code
 rw [C81] at hcode
 obtain ⟨op, en, es, em, en2, ea⟩ := e
 simp only [op_mk] at hop
 unfold CntOK at hcn
 simp only [op_mk, args_mk] at hcn
 have hlen : op = 16 ∨ op = 18 → ∃ a, ea = [a] := by
  intro h
  apply len1
  rcases h with rfl | rfl
  ·simp [argsN] at hcn; omega
  ·simp [argsN] at hcn; omega
 by_cases h16 : op = 16
 ·obtain ⟨a, rfl⟩ := hlen (.inl h16)
  subst h16
  have ha : expLim a := expLim_arg he (by simp)
  simp -implicitDefEqProofs only [S81, acells_scope, acells_exp, op_mk, n_mk, s_mk, m_mk, names_mk, args_mk, FA28_0, FA28_1, FA28_5, List.drop_succ_cons, List.drop_zero, LD3, LD26, bnd_some, bin_eql, beq_self_eq_true, condM_bool, if_true, hscl, ixe0] at hcode
  have hex : loadA T 28 (.ip [.int .i64 a.op, .int .i64 a.n, .str a.s, .str a.m, strs a.names, exps a.args]) = some a.av := by
   have : loadA T 28 (.ip (acells a.av)) = some a.av := by simp
   rwa [acells_exp] at this
  simp -implicitDefEqProofs only [hex, bnd_some] at hcode
  rw [← hcode]
  simp only [worldX, op_mk, actX]
  have e0 : ([a] : List Exp)[0]! = a := rfl
  simp only [args_mk, e0]
  refine out_bind (IH own ns vs a _ _ R G hn hs ha) fun v s1 h2 hv R2 => ?_
  obtain ⟨G2, rv, f2⟩ := G.eval hs.right hv
  generalize hcode2 : bnd (cellsM 4 v.av) _ h2 = code2
  simp -implicitDefEqProofs only [cellsM_of (okEl_val v), bnd_pure, acells_agg, acells_val, FA39_0, List.drop_zero, LD3, bnd_some, bin_eql, bnd_must, guardM_pure1, nth_zero, pickA_or] at hcode2
  by_cases hk : v.kind = 0
  ·have hk' : (v.kind == 0) = true := by simp [hk]
   simp only [hk', mustM, if_true] at hcode2
   simp only [if_pos hk]
   by_cases hn4' : (Exp.mk 16 en es em en2 [a]).n = 1 ∨ (Exp.mk 16 en es em en2 [a]).n = 2 ∨ (Exp.mk 16 en es em en2 [a]).n = 4 ∨ (Exp.mk 16 en es em en2 [a]).n = 8
   ·have hn4 : en = 1 ∨ en = 2 ∨ en = 4 ∨ en = 8 := hn4'
    have hn' : (en == 1 || en == 2 || en == 4 || en == 8) = true := by
     simp only [Bool.or_eq_true, beq_iff_eq]
     omega
    simp only [hn', if_true] at hcode2
    simp only [if_pos hn4']
    obtain ⟨h3, R3, lw, sw⟩ := set_world R2 s1.world.tail (fun h => by rw [h]; rfl)
    have hmu2 := (tq_eval n own ns vs a m v s1 G.fuel hv).1
    have hdl : s1.deeds.length ≤ 2000000 := by
     have := G2.fuel
     simp only [mu] at hmu2 hmu
     omega
    show OutG p nm Val.av (X.ok (numV (s1.world.headD 0)) { s1 with world := s1.world.tail, deeds := s1.deeds ++ [⟨en, v.n, s1.world.headD 0⟩] }) code2
    have lenw : lenA T 24 (wvOf nm.told s1.world) = some (.int .i64 s1.world.length) := by
     unfold wvOf
     split
     ·rename_i ht
      obtain ⟨_, _, _, _, R2'⟩ := R2
      rw [R2'.wok ht]
      rfl
     ·exact LENE24 _
    simp -implicitDefEqProofs only [jn_def, nilChkA_hp, bnd_some, FH81_1, Nat.zero_add, lw, lenw, bnd_some, bin_gtr, condM_bool] at hcode2
    cases hwd : s1.world with
    | nil =>
     rw [hwd] at hcode2
     simp only [List.length_nil, show decide ((0 : Int) < ((0 : Nat) : Int)) = false by decide, Bool.false_eq_true, if_false] at hcode2
     have := act_rest R2 hdl (.mk 16 en es em en2 [a]) v 0 (.int .i64 0) (.int .i64 0) (.sl []) (.sl [])
     simp only [acells_exp, acells_val, op_mk, n_mk, s_mk, m_mk, names_mk, args_mk] at this
     rw [hcode2] at this
     have e5 : ({ s1 with deeds := s1.deeds ++ [⟨en, v.n, 0⟩] } : Ms) = { s1 with world := ([] : List Int).tail, deeds := s1.deeds ++ [⟨en, v.n, ([] : List Int).headD 0⟩] } := by
      cases s1
      simp only at hwd
      subst hwd
      rfl
     rw [e5] at this
     exact this
    | cons x wl =>
     have hd : decide ((0 : Int) < (((x :: wl).length : Nat) : Int)) = true := by simp <;> omega
     have hne : s1.world ≠ [] := by rw [hwd]; simp
     have sw := sw hne
     have R3 := R3 hne
     have hwv : wvOf nm.told s1.world = ints s1.world := by
      unfold wvOf
      rw [if_neg]
      intro ht
      obtain ⟨_, _, _, _, R2'⟩ := R2
      exact hne (R2'.wok ht)
     rw [hwv] at lw
     rw [hwd] at hcode2 sw R3 lw
     have hix : indexAddrA T 24 (ints (x :: wl)) (.int .i64 0) = some (.ip [.int .i64 x]) := by
      have := IX24 (l := x :: wl) (n := 0) (by omega) (by simp <;> omega)
      simpa using this
     have hsl : sliceA T 24 (ints (x :: wl)) (some (.int .i64 1)) none none = some (ints wl) := by
      have := sliceA_lo (T := T) (t := 24) (e := 3) rfl rfl rfl ((x :: wl).map (AV.int .i64)) (by exact okSz_ints _) (n := 1) (by omega) (by simp <;> omega)
      simpa [ints] using this
     simp only [List.tail_cons] at sw R3
     simp -implicitDefEqProofs only [hd, if_true, lw, hix, bnd_some, LD3, hsl, sw] at hcode2
     have := act_rest R3 hdl (.mk 16 en es em en2 [a]) v x (.int .i64 0) (.int .i64 0) (.sl []) (.sl [])
     simp only [acells_exp, acells_val, op_mk, n_mk, s_mk, m_mk, names_mk, args_mk] at this
     rw [hcode2] at this
     exact this
   ·have hn4 : ¬ (en = 1 ∨ en = 2 ∨ en = 4 ∨ en = 8) := hn4'
    have hn' : (en == 1 || en == 2 || en == 4 || en == 8) = false := by
     rw [← Bool.not_eq_true]
     simp only [Bool.or_eq_true, beq_iff_eq]
     omega
    simp only [hn', Bool.false_eq_true, if_false] at hcode2
    simp only [if_neg hn4']
    rw [← hcode2]
    exact out_er R2
  ·have hk' : (v.kind == 0) = false := by simpa using hk
   simp only [hk', mustM, Bool.false_eq_true, if_false] at hcode2
   simp only [if_neg hk]
   rw [← hcode2]
   exact out_er R2
 have h16' : ((op : Int) == 16) = false := by simpa using h16
 have h16x : ¬ ((Exp.mk op en es em en2 ea).op = 16) := h16
 unfold worldX
 simp only [if_neg h16x]
 unfold varX
 simp -implicitDefEqProofs only [S81, acells_scope, acells_exp, op_mk, n_mk, s_mk, m_mk, names_mk, args_mk, FA98_0, FA28_0, FA28_1, FA28_5, List.drop_succ_cons, List.drop_zero, LD3, LD26, bnd_some, bin_eql, h16', Bool.false_eq_true, condM_bool, if_false, hown, hscl, bin_geq, bnd_must, jn_def] at hcode
 by_cases ho : own < 0
 ·have ho' : decide (0 ≤ own) = false := by simp; omega
  simp only [ho', mustM, Bool.false_eq_true, if_false] at hcode
  simp only [if_pos ho]
  rw [← hcode]
  exact out_er R
 have ho' : decide (0 ≤ own) = true := by simp; omega
 simp only [ho', mustM, if_true] at hcode
 simp only [if_neg ho]
 have hol := hs.own
 have hlt : own.toNat < p.length := by omega
 have hix := IX22 (l := p) (n := own) (by omega) hol
 rw [getElem!_pos p own.toNat hlt] at hix
 have e3 : p[own.toNat]?.getD default = p[own.toNat] := by rw [List.getElem?_eq_getElem hlt]; rfl
 have hvl := (LB.lim.funcsAt own.toNat).2
 rw [e3] at hvl ⊢
 have hff := t98' p[own.toNat].vars hvl (.mk op en es em en2 ea)
 simp only [acells_exp, op_mk, n_mk, s_mk, m_mk, names_mk, args_mk] at hff
 have Rk := R
 obtain ⟨tag, dv, cv, sv, R0⟩ := R
 have lm : ∀ g : AV → M AV, bnd (loadH T 22 (.hp 0 0)) g h = g (mods p) h := fun g => bnd_ok (loadH_one rfl rfl R0.r0 (by rw [← pvOf_ne (t := nm.told) (fun e => by subst e; simp at hlt)]; rfl))
 have lsv : ∀ g : AV → M AV, bnd (loadH T 32 (.hp 0 11)) g h = g nm.sv h := fun g => bnd_ok (loadH_one rfl rfl R0.r0 (by rw [← R0.sve]; rfl))
 simp -implicitDefEqProofs only [nilChkA_hp, bnd_some, FH81_0, FH81_4, FH43_4, Nat.zero_add, Nat.reduceAdd, lm, hix, acells_mod, FA63_2, List.drop_succ_cons, List.drop_zero, LD58, hff, noPan_pure, bnd_pure, bin_geq, bnd_must] at hcode
 by_cases hi : fldAt p[own.toNat].vars (Exp.mk op en es em en2 ea).s < 0
 ·have hi' : decide (0 ≤ fldAt p[own.toNat].vars es) = false := by
   have : fldAt p[own.toNat].vars es < 0 := hi
   simp; omega
  simp only [hi', mustM, Bool.false_eq_true, if_false] at hcode
  simp only [if_pos hi]
  rw [← hcode]
  exact out_er Rk
 have hi0 : 0 ≤ fldAt p[own.toNat].vars es := by
  have : ¬ fldAt p[own.toNat].vars es < 0 := hi
  omega
 have hi' : decide (0 ≤ fldAt p[own.toNat].vars es) = true := by simp; omega
 simp only [hi', mustM, if_true, lsv] at hcode
 simp only [if_neg hi]
 have hil : fldAt p[own.toNat].vars es < p[own.toNat].vars.length := by
  rcases idxAt_lt (fun (x : Fld) => x.1 == es) p[own.toNat].vars 0 with k | k
  ·have : fldAt p[own.toNat].vars es = -1 := k
   omega
  ·have : fldAt p[own.toNat].vars es = idxAt (fun (x : Fld) => x.1 == es) p[own.toNat].vars 0 := rfl
   omega
 obtain ⟨l, hl1, hl2⟩ := G.shape own.toNat _ (List.getElem?_eq_getElem hlt)
 have hne : l ≠ [] := fun e => by rw [e] at hl2; simp at hl2; omega
 have hsl : own.toNat < m.state.length := (List.getElem?_eq_some_iff.1 hl1).1
 obtain ⟨q, r, v1, v2, v3, v4, v5, v6⟩ := R0.var (fun _ => rfl) hl1 hne
 have hx1 : indexAddrA T 32 nm.sv (.int .i64 own) = some (.hp q (own.toNat * 2)) := by
  rw [v1]
  have := ixh (t := 32) rfl rfl rfl (l := q) (off := 0) (len := m.state.length) (sz := 2) (ag := true) (n := own) (by omega) (by omega)
  rw [this]
  simp
 have lv : ∀ g : AV → M AV, bnd (loadH T 23 (.hp q (own.toNat * 2 + 1))) g h = g (.hs r 0 l.length 4 true) h := fun g => bnd_ok (loadH_one rfl rfl v2 v3)
 simp -implicitDefEqProofs only [hx1, bnd_some, FH47_1, lv] at hcode
 generalize hI : fldAt p[own.toNat].vars es = I at *
 have hI2 : fldAt p[own.toNat].vars (Exp.mk op en es em en2 ea).s = I := hI
 rw [hI2]
 have hx2 : indexAddrA T 23 (.hs r 0 l.length 4 true) (.int .i64 I) = some (.hp r (I.toNat * 4)) := by
  have := ixh (t := 23) rfl rfl rfl (l := r) (off := 0) (len := l.length) (sz := 4) (ag := true) (n := I) (by omega) (by omega)
  rw [this]
  simp
 have hk : I.toNat < l.length := by omega
 by_cases h18 : op = 18
 ·have h18x : (Exp.mk op en es em en2 ea).op = 18 := h18
  simp only [if_pos h18x]
  obtain ⟨a, rfl⟩ := hlen (.inr h18)
  have ha : expLim a := expLim_arg he (by simp)
  have hb18 : (op == 18) = true := by simp [h18]
  have hex : loadA T 28 (.ip (acells a.av)) = some a.av := by simp
  have e0 : (Exp.mk op en es em en2 [a]).args[0]! = a := rfl
  simp -implicitDefEqProofs only [hb18, if_true, ixe0, bnd_some, hex] at hcode
  rw [← hcode, e0]
  refine out_bind (IH own ns vs a _ _ Rk G hn hs ha) fun v s1 h2 hv R2 => ?_
  obtain ⟨G2, rv, f2⟩ := G.eval hs.right hv
  obtain ⟨tag2, dv2, cv2, sv2, R20⟩ := R2
  obtain ⟨l', hl1', hl2'⟩ := G2.shape own.toNat _ (List.getElem?_eq_getElem hlt)
  have hne' : l' ≠ [] := fun e => by rw [e] at hl2'; simp at hl2'; omega
  obtain ⟨q', r', w1, w2, w3, w4, w5, w6⟩ := R20.var (fun _ => rfl) hl1' hne'
  have hll : l'.length = l.length := by omega
  have hrr : r' = r := by
   rw [v3] at w3
   simp only [Option.some.injEq, AV.hs.injEq] at w3
   exact w3.1.symm
  subst hrr
  have hst : storeH T 39 (.hp r' (I.toNat * 4)) v.av h2 = .ok (.tup []) (h2.set r' (valCells (l'.set I.toNat v))) := by
   have := storeH_ok (T := T) (t := 39) rfl w5 (v := v.av) (k := I.toNat * 4) (okEl_val v) (by rw [valCells_len]; show I.toNat * 4 + 4 ≤ _; omega) (by decide)
   rw [this, valCells_set (by omega)]
  have R3 := w6 I.toNat v (by omega)
  have hset : ((s1.state[own.toNat]?.getD []).set I.toNat v) = l'.set I.toNat v := by rw [hl1']; rfl
  have hld2 : loadH T 39 (.hp r' (I.toNat * 4)) (h2.set r' (valCells (l'.set I.toNat v))) = .ok v.av (h2.set r' (valCells (l'.set I.toNat v))) := by
   have hlt2 : r' < h2.length := (List.getElem?_eq_some_iff.1 w5).1
   have := loadH_agg (T := T) (t := 39) rfl rfl (h := h2.set r' (valCells (l'.set I.toNat v))) (l := r') (k := I.toNat * 4) (List.getElem?_set_self hlt2) (by rw [valCells_len, List.length_set]; show I.toNat * 4 + 4 ≤ _; omega)
   rw [this]
   have hg := valCells_get (l := l'.set I.toNat v) (k := I.toNat) (by simp; omega)
   show Av.R.ok (AV.agg (((valCells (l'.set I.toNat v)).drop (I.toNat * 4)).take 4)) _ = _
   rw [hg, List.getElem_set_self]
   rw [Val.av_eq]
   rfl
  generalize hcode2 : bnd (lft (indexAddrA T 23 (.hs r' 0 l.length 4 true) (.int .i64 I))) _ h2 = code2
  simp -implicitDefEqProofs only [hx2, bnd_some] at hcode2
  rw [bnd_ok hst] at hcode2
  simp -implicitDefEqProofs only [K81_1, nth_zero, nth_succ, hx2, bnd_some] at hcode2
  rw [bnd_ok hld2, wrap4'] at hcode2
  rw [← hcode2]
  exact ⟨_, rfl, tag2, dv2, cv2, sv2, R3⟩
 ·have h18x : ¬ ((Exp.mk op en es em en2 ea).op = 18) := h18
  have hb18 : (op == 18) = false := by simpa using h18
  have hld2 : loadH T 39 (.hp r (I.toNat * 4)) h = .ok (l[I.toNat]).av h := by
   have := loadH_agg (T := T) (t := 39) rfl rfl (h := h) (l := r) (k := I.toNat * 4) v5 (by rw [valCells_len]; show I.toNat * 4 + 4 ≤ _; omega)
   rw [this]
   have hg := valCells_get (l := l) (k := I.toNat) hk
   show Av.R.ok (AV.agg (((valCells l).drop (I.toNat * 4)).take 4)) _ = _
   rw [hg, Val.av_eq]
   rfl
  simp only [if_neg h18x]
  simp -implicitDefEqProofs only [hb18, Bool.false_eq_true, if_false, K81_1, nth_zero, nth_succ, hx2, bnd_some] at hcode
  rw [bnd_ok hld2, wrap4'] at hcode
  rw [← hcode]
  have hgs : getSt m.state own.toNat I.toNat = l[I.toNat] := by
   simp [getSt, List.getD_eq_getElem?_getD, hl1, hk]
  show OutG p nm Val.av (X.ok (getSt m.state own.toNat I.toNat) m) _
  rw [hgs]
  exact out_pure Rk
end Go.Proofs.Ytgbopmciiadmlaa

namespace Go.Proofs.Ytgbopmciiadmlaa
open Go Go.Av Go.Av.Ap
theorem evOK {p : List Mod} {nm : SNm} (LB : LimB p) : ∀ n, EvOK p nm n
 | 0 => fun own ns vs e m h R G hn hs he => ⟨h, ev_low R (by omega) _ e, R⟩
 | n + 1 => by
  have IH := evOK (nm := nm) LB n
  exact eval_step IH (t78 IH) (t80 LB IH) (t81 LB IH)
theorem enterOK {p : List Mod} {nm : SNm} (LB : LimB p) (n : Nat) : EnterOK p nm n := t42 LB (evOK LB n)
end Go.Proofs.Ytgbopmciiadmlaa

namespace Go.Proofs.Ytgbopmciiadmlaa
open Go Go.Av Go.Av.Ap
theorem isoP_ok {m : M AV} {r : AV} {h' : Hp} (h1 : m [] = .ok r h') (h2 : ∀ g, cl g r = r) : isoP m = M.pure r := by
 funext h
 unfold isoP
 rw [h1]
 simp only [M.pure]
 have : frz 6 h' r = r := h2 _
 rw [this]
theorem vals_any (l : List Val) : (l.any fun v => !fitsP 4 v) = !(l.all (fitsP 4)) := by
 induction l with
 | nil => rfl
 | cons v l ih => simp only [List.any_cons, List.all_cons, ih]; cases fitsP 4 v <;> simp
theorem okv (v : Val) : loadA T 39 (.ip (acells v.av)) = some v.av := by simp
theorem t48 (v : Val) (hv : v.sz ≤ 4611686018427387904) : callW pg 48 [v.av] = M.pure (.bool !fitsP 4 v) := by
 rw [C48]
 simp only [S48, cl_val, okv, bnd_some, t21 v hv, bnd_pure, unA_not]
 exact isoP_pure fun g => rfl
theorem t38 (v : Val) (hv : v.sz ≤ 4611686018427387904) : callW pg 38 [v.av] = M.pure (.bool !fitsP 4 v) := by
 rw [C38]
 simp only [S38, cl_val, okv, bnd_some, t21 v hv, bnd_pure, unA_not]
 exact isoP_pure fun g => rfl
theorem t62 (v : Val) (hv : v.sz ≤ 4611686018427387904) : callW pg 62 [v.av] = M.pure (.bool !fitsP 4 v) := by
 rw [C62]
 simp only [S62, cl_val, okv, bnd_some, t21 v hv, bnd_pure, unA_not]
 exact isoP_pure fun g => rfl
theorem any_not (k : Nat) (hk : ∀ v : Val, v.sz ≤ 4611686018427387904 → callW pg k [v.av] = M.pure (.bool !fitsP 4 v)) (l : List Val) (hl : valsSz l ≤ 4611686018427387904) : callW pg 37 [vals l, .fn (.func k) [] []] = M.pure (.bool !(l.all (fitsP 4))) := by
 have := t37 (.fn (.func k) [] []) (fun v => !fitsP 4 v) l (Nat.le_trans (valsSz_len l) hl) (fun g => rfl) (fun v hv => hk v (Nat.le_trans (valsSz_mem hv) hl))
 rw [this, vals_any]
theorem t40 (f : AV) (h : Hp) : callW pg 40 [f] h = tryP 33 .i64 (.agg [.int .i64 0, .int .i64 0, .sl [], .sl []]) (callV (callW pg) f [] h) := by
 have e : callW pg 40 [f] = tryE 33 .i64 (.agg [.int .i64 0, .int .i64 0, .sl [], .sl []]) (callW pg) [f] := callW_other hOther rfl _
 rw [e]
 rfl
def nm0 : SNm := ⟨[], .hn, [], true⟩
theorem limB_nil : LimB [] := ⟨⟨by simp, fun m hm => by cases hm⟩, fun m hm => by cases hm⟩
theorem rep_exp : RepP [] nm0 (startM [] 100000 []) [[.hn, .hn, .int .i64 100000, .int .i64 0, .int .i64 0, .int .i64 0, .int .i64 0, .hn, .hn, .hn, .hn, .hn]] :=
 ⟨fun _ => 0, .hn, .hn, .hn, rfl, rfl, .inl ⟨rfl, rfl⟩, .inl ⟨rfl, rfl⟩, .inl ⟨rfl, rfl⟩, rfl, fun _ => rfl⟩
theorem good_exp : GoodM [] (startM [] 100000 []) := ⟨⟨fun l hl => by simp [startM] at hl, fun c hc => by simp [startM] at hc⟩, by simp [mu, startM], by simp [startM], by simp [startM], fun i x hx => by simp at hx⟩
def pairOf : Rs Val → AV
 | .ok v _ => .tup [v.av, .int .i64 0]
 | .er e _ => .tup [Val.av default, .int .i64 e]
theorem cl_pair (g) (v : Val) (e : Int) : cl g (.tup [v.av, .int .i64 e]) = .tup [v.av, .int .i64 e] := by simp [cl, cls]
theorem t19 (e : Exp) (ns : List Str) (vs : List Val) (he : expLim e) (hn : ns.length ≤ 274877906944) (hv : valsSz vs ≤ 4611686018427387904) : callW pg 19 [e.av, strs ns, vals vs] = M.pure (pairOf (expX e ns vs)) := by
 have ha := any_not 48 t48 vs hv
 have hl1 : loadA T 25 (.ip (acells (strs ns))) = some (strs ns) := rfl
 have hl2 : loadA T 23 (.ip (acells (vals vs))) = some (vals vs) := rfl
 have hB : buildA T true 81 [(2, .int .i64 100000)] = some (.agg [.hn, .hn, .int .i64 100000, .int .i64 0, .int .i64 0, .int .i64 0, .int .i64 0, .hn, .hn, .hn, .hn, .hn]) := rfl
 have hZ : buildA T false 39 [] = some (Val.av default) := rfl
 have hcl : ∀ h : AV → M AV, bnd (newH [.hn, .hn, .int .i64 100000, .int .i64 0, .int .i64 0, .int .i64 0, .int .i64 0, .hn, .hn, .hn, .hn, .hn]) h [] = h (.hp 0 0) [[.hn, .hn, .int .i64 100000, .int .i64 0, .int .i64 0, .int .i64 0, .int .i64 0, .hn, .hn, .hn, .hn, .hn]] := fun h => rfl
 rw [C19, cl_strs, cl_vals, cl_exp]
 unfold expX
 by_cases hr : ns.length = vs.length ∧ vs.all (fitsP 4) = true
 ·rw [if_pos hr]
  have hne : ((ns.length : Int) != (vs.length : Int)) = false := by simp [hr.1]
  have hrs : RightS ns vs := ⟨hr.1, fun v hv => (List.all_eq_true.1 hr.2) v hv⟩
  have hev := evOK (nm := nm0) limB_nil 100000 (-1) ns vs e _ _ rep_exp good_exp (by simp [startM]) ⟨by simp, hrs, by simp only [startM]; omega⟩ he
  have hcell : cellsM 1 (.hp 0 0) = M.pure (.agg [.hp 0 0]) := rfl
  have hBS : buildA T false 98 [(0, .int .i64 (-1)), (1, strs ns), (2, vals vs)] = some (scopeAv (-1) ns vs) := rfl
  have hlp : loadA T 79 (.ip [.hp 0 0]) = some (.hp 0 0) := rfl
  have hex : loadA T 28 (.ip (acells e.av)) = some e.av := by simp
  have hcall : ∀ h, callW pg 49 [.ip [.hp 0 0], .ip (acells (strs ns)), .ip (acells (vals vs)), .ip (acells e.av)] h = bnd (callW pg 50 [.hp 0 0, scopeAv (-1) ns vs, e.av]) (fun v => bnd (cellsNil 4 [] v) fun w => M.pure (AV.agg [nth (acells w) 0, nth (acells w) 1, nth (acells w) 2, nth (acells w) 3])) h := fun h => by
   rw [C49]
   simp -implicitDefEqProofs only [S49, hlp, hl1, hl2, hex, hBS, bnd_some]
  have hS : S19 (callW pg) fixW e.av (strs ns) (vals vs) [] = .ok (pairOf (evalX [] 100000 (-1) ns vs e (startM [] 100000 []))) [] ∨ ∃ h', S19 (callW pg) fixW e.av (strs ns) (vals vs) [] = .ok (pairOf (evalX [] 100000 (-1) ns vs e (startM [] 100000 []))) h' := by
   right
   simp -implicitDefEqProofs only [S19, hl1, hl2, bnd_some, LENE25, LENE23, bin_neq, hne, guardM_take1, ha, bnd_pure, hr.2, Bool.not_true, nth_zero, pickA_false, condM_bool, Bool.false_eq_true, if_false, hB, acells_agg, hcl, hcell]
   have htry := t40 (.fn (.func 49) [] [.ip [.hp 0 0], .ip (acells (strs ns)), .ip (acells (vals vs)), .ip (acells e.av)]) [[.hn, .hn, .int .i64 100000, .int .i64 0, .int .i64 0, .int .i64 0, .int .i64 0, .hn, .hn, .hn, .hn, .hn]]
   have hcv : callV (callW pg) (.fn (.func 49) [] [.ip [.hp 0 0], .ip (acells (strs ns)), .ip (acells (vals vs)), .ip (acells e.av)]) [] = callW pg 49 [.ip [.hp 0 0], .ip (acells (strs ns)), .ip (acells (vals vs)), .ip (acells e.av)] := rfl
   rw [hcv, hcall] at htry
   have how := out_wrap hev
   generalize evalX [] 100000 (-1) ns vs e (startM [] 100000 []) = r at how ⊢
   cases r with
   | ok v s =>
    obtain ⟨h', e1, _⟩ := how
    refine ⟨h', ?_⟩
    rw [e1] at htry
    simp only [tryP, okEl_val, cond_true] at htry
    rw [bnd_ok htry]
    simp [pairOf, M.pure]
   | er c s =>
    obtain ⟨h', e1, _⟩ := how
    refine ⟨h', ?_⟩
    rw [e1] at htry
    have ht : tryP 33 .i64 (.agg [.int .i64 0, .int .i64 0, .sl [], .sl []]) (.pan (errAv c) h') = .ok (.tup [Val.av default, .int .i64 c]) h' := rfl
    rw [ht] at htry
    rw [bnd_ok htry]
    simp [pairOf, M.pure]
  rcases hS with h | ⟨h', h⟩
  ·exact isoP_ok h fun g => by cases evalX [] 100000 (-1) ns vs e (startM [] 100000 []) <;> exact cl_pair g _ _
  ·exact isoP_ok h fun g => by cases evalX [] 100000 (-1) ns vs e (startM [] 100000 []) <;> exact cl_pair g _ _
 ·rw [if_neg hr]
  have hb : ((ns.length : Int) != (vs.length : Int) || !(vs.all (fitsP 4))) = true := by
   by_cases h1 : ns.length = vs.length
   ·have : vs.all (fitsP 4) = false := by
     rw [← Bool.not_eq_true]
     exact fun h2 => hr ⟨h1, h2⟩
    simp [this]
   ·have : ((ns.length : Int) != (vs.length : Int)) = true := by
     rw [bne_iff_ne]
     omega
    simp [this]
  have hgu : guardM (.bool ((ns.length : Int) != (vs.length : Int))) false 1 (M.pure [.bool !(vs.all (fitsP 4))]) = M.pure [gv ((ns.length : Int) != (vs.length : Int)) false (.bool !(vs.all (fitsP 4)))] := guardM_pure1 _ _ _
  have hS : S19 (callW pg) fixW e.av (strs ns) (vals vs) = M.pure (.tup [Val.av default, .int .i64 1]) := by
   simp -implicitDefEqProofs only [S19, hl1, hl2, bnd_some, LENE25, LENE23, bin_neq, ha, bnd_pure, hgu, nth_zero, pickA_or, hb, condM_bool, if_true, hZ]
   simp
  rw [hS]
  exact isoP_pure fun g => cl_pair g _ _
end Go.Proofs.Ytgbopmciiadmlaa

namespace Go.Proofs.Ytgbopmciiadmlaa
open Go Go.Av Go.Av.Ap
theorem okm (m : Mod) : loadA T 63 (.ip (acells m.av)) = some m.av := by simp
theorem t32 (p : List Mod) (hp : p.length ≤ 1099511627776) : callW pg 32 [mods p] = M.pure (.int .i64 (namesX p)) := by
 let D : Nat → Bool := fun i => (p.take i).any fun m => m.name == (p[i]?.getD default).name
 have hloop : ∀ (n k : Nat), p.length - k = n → k ≤ p.length → fixW (L32_0 (callW pg) fixW) [mods p, mods p, .int .i64 p.length, .int .i64 k] = M.pure (.int .i64 (if (List.range' k n).any D = true then 5 else 0)) := by
  intro n
  induction n with
  | zero =>
   intro k hk hl
   obtain rfl : k = p.length := by omega
   rw [FL32_0]
   simp [L32_0]
  | succ n ih =>
   intro k hk hl
   have h1 : (k : Int) < (p.length : Int) := by omega
   have hlt : k < p.length := by omega
   have hi := IX22 (l := p) (n := (k : Int)) (by omega) h1
   rw [show ((k : Int)).toNat = k by omega, getElem!_pos p k hlt] at hi
   have hs : sliceA T 22 (mods p) none (some (.int .i64 k)) none = some (mods (p.take k)) := by
    have := sliceA_hi (T := T) (t := 22) (e := 63) rfl rfl rfl (p.map Mod.av) (n := (k : Int)) (by omega) (by simp; omega)
    simpa [mods, List.map_take] using this
   have ha := t58 (.fn (.func 59) [] [.ip (acells p[k].av)]) (fun m => m.name == p[k].name) (p.take k) (by simp; omega) (fun g => by simp [cl, cls]) (fun m _ => t59 m p[k])
   have hD : D k = ((p.take k).any fun m => m.name == p[k].name) := by simp only [D, List.getElem?_eq_getElem hlt, Option.getD_some]
   have hw : IntKind.i64.wrap ((k : Int) + 1) = ((k + 1 : Nat) : Int) := wrap_add1 (by omega)
   rw [FL32_0]
   simp -implicitDefEqProofs only [L32_0, nth_zero, nth_succ, bin_lss, bnd_some, condM_bool, h1, decide_true, if_true, hi, okm, cellsM_of (okEl_mod _), bnd_pure, acells_agg, hs, ha, bin_add, hw]
   rw [ih (k + 1) (by omega) (by omega), List.range'_succ, List.any_cons, hD]
   generalize ((p.take k).any fun m => m.name == p[k].name) = b
   generalize (List.range' (k + 1) n).any D = c
   cases b <;> cases c <;> rfl
 rw [C32, cl_mods]
 have h0 := hloop p.length 0 (by omega) (by omega)
 have ht : twice p = (List.range' 0 p.length).any D := by
  unfold twice
  rw [List.range_eq_range']
 have hS : S32 (callW pg) fixW (mods p) = M.pure (.int .i64 (namesX p)) := by
  unfold namesX
  rw [ht]
  by_cases h20 : 20 < p.length
  ·have h20' : (20 : Int) < (p.length : Int) := by omega
   simp only [h20, if_true]
   simp -implicitDefEqProofs only [S32, LENE22, bnd_some, bin_gtr, condM_bool, h20', decide_true, if_true]
  ·have : ¬ ((20 : Int) < (p.length : Int)) := by omega
   simp only [h20, if_false]
   simp -implicitDefEqProofs only [S32, LENE22, bnd_some, bin_gtr, condM_bool, this, decide_false, Bool.false_eq_true, if_false]
   exact h0
 rw [hS]
 exact isoP_pure fun g => rfl
theorem t61 (m : Mod) (v : Vars) (hv : valsSz v.values ≤ 4611686018427387904) (_hm : m.vars.length ≤ 1099511627776) : callW pg 61 [m.av, v.av] = M.pure (.bool (v.module == m.name && (v.values.length == m.vars.length && v.values.all (fitsP 4)))) := by
 have ha := any_not 62 t62 v.values hv
 have e1 : (((v.values.length : Nat) : Int) == ((m.vars.length : Nat) : Int)) = (v.values.length == m.vars.length) := by rw [Bool.eq_iff_iff]; simp
 rw [C61]
 simp [S61, ha, e1]
 cases v.module == m.name <;> cases (v.values.length == m.vars.length) <;> simp
theorem okvars (v : Vars) : loadA T 47 (.ip (acells v.av)) = some v.av := by simp
theorem t34 (p : List Mod) (st : List Vars) (hp : p.length ≤ 1099511627776) (hm : ∀ m ∈ p, m.vars.length ≤ 1099511627776) (hv : ∀ v ∈ st, valsSz v.values ≤ 4611686018427387904) : callW pg 34 [mods p, varss st] = M.pure (.bool (belongs p st)) := by
 let F : Mod → Vars → Bool := fun m v => v.module == m.name && (v.values.length == m.vars.length && v.values.all (fitsP 4))
 have hloop : p.length = st.length → ∀ (n : Nat) (i : Int), p.length - i.toNat = n → 0 ≤ i → i ≤ p.length →
   fixW (L60_0 (callW pg) fixW) [varss st, .fn (.func 61) [] [], mods p, .int .i64 p.length, .int .i64 i] = M.pure (.bool (all2 F (p.drop i.toNat) (st.drop i.toNat))) := by
  intro hab n
  induction n with
  | zero =>
   intro i hn hi hl
   rw [FL60_0]
   simp only [L60_0]
   have h1 : ¬ (i < (p.length : Int)) := by omega
   have h2 : p.drop i.toNat = [] := List.drop_eq_nil_of_le (by omega)
   have h3 : st.drop i.toNat = [] := List.drop_eq_nil_of_le (by omega)
   simp [h1, h2, h3, all2]
  | succ n ih =>
   intro i hn hi hl
   have h1 : i < (p.length : Int) := by omega
   have hlt : i.toNat < p.length := by omega
   have hlt' : i.toNat < st.length := by omega
   have h3 := t61 p[i.toNat] st[i.toNat] (hv _ (List.getElem_mem hlt')) (hm _ (List.getElem_mem hlt))
   have h4 := ih (i + 1) (by omega) (by omega) (by omega)
   rw [show (i + 1).toNat = i.toNat + 1 by omega] at h4
   have i1 := IX22 (l := p) (n := i) hi h1
   have i2 := IX32 (l := st) (n := i) hi (by omega)
   rw [getElem!_pos p _ hlt] at i1
   rw [getElem!_pos st _ hlt'] at i2
   have hw : IntKind.i64.wrap (i + 1) = i + 1 := wrap_in (by omega) (by omega)
   have hcv : ∀ x y : AV, callV (callW pg) (.fn (.func 61) [] []) [x, y] = callW pg 61 [x, y] := fun _ _ => rfl
   have hm1 : ∀ m : Mod, AV.agg (acells m.av) = m.av := fun m => rfl
   have hv1 : ∀ v : Vars, AV.agg (acells v.av) = v.av := fun v => rfl
   rw [FL60_0, all2_drop F p st i.toNat hlt hlt']
   simp -implicitDefEqProofs only [L60_0, nth_zero, nth_succ, bin_lss, bnd_some, condM_bool, h1, decide_true, if_true, i1, i2, okm, okvars, cellsM_of (okEl_mod _), cellsM_of (okEl_vars _), bnd_pure, hm1, hv1, hcv, h3, unA_not, bin_add, hw, h4]
   have hF : F p[i.toNat] st[i.toNat] = (st[i.toNat].module == p[i.toNat].name && (st[i.toNat].values.length == p[i.toNat].vars.length && st[i.toNat].values.all (fitsP 4))) := rfl
   rw [hF]
   generalize (st[i.toNat].module == p[i.toNat].name && (st[i.toNat].values.length == p[i.toNat].vars.length && st[i.toNat].values.all (fitsP 4))) = b
   cases b <;> simp
 have hT : callW pg 60 [mods p, varss st, .fn (.func 61) [] []] = M.pure (.bool (all2 F p st)) := by
  rw [C60]
  by_cases h : p.length = st.length
  ·have := hloop h p.length 0 rfl (by omega) (by omega)
   simp [S60, h, cl, cls] at this ⊢
   simp [this]
  ·have h3 : (p.length != st.length) = true := by simp [h]
   simp [S60, h3, all2_length F p st h, cl, cls]
 rw [C34]
 simp only [S34, cl_mods, cl_varss, hT, bnd_pure]
 exact isoP_pure fun g => rfl
def freshAv : Except Int (List Vars) → AV
 | .ok st => .tup [varss st, .int .i64 0]
 | .error e => .tup [.sl [], .int .i64 e]
theorem expX_err {e : Exp} {ns : List Str} {vs : List Val} {c : Int} {s : Ms} (h : expX e ns vs = .er c s) : c ≠ 0 := by
 unfold expX at h
 split at h
 ·exact eval_err h
 ·cases h; decide
theorem fresh_in (outer : List AV → M AV) (p : List Mod) (out : List Vars) (i : AV) (nm : Str) (es : List Exp) (hes : ∀ e ∈ es, expLim e) (hlen : es.length ≤ 274877906944) (hout : out.length ≤ 1099511627776) : ∀ (B A : List Exp) (acc : List Val) (k : Int), A ++ B = es → acc.length = A.length → i = .int .i64 k → -4611686018427387904 ≤ k → k ≤ 4611686018427387904 →
  fixW (L10_0 (callW pg) fixW outer) [varss out, mods p, .int .i64 p.length, i, exps es, .int .i64 es.length, .int .i64 A.length, .str nm, vals acc] =
  match initL B with
  | .error c => M.pure (.tup [.sl [], .int .i64 c])
  | .ok vs => outer [varss (out ++ [⟨nm, acc ++ vs⟩]), mods p, .int .i64 p.length, .int .i64 (k + 1)]
 | [], A, acc, k, e, hac, hi, hk1, hk2 => by
  simp only [List.append_nil] at e
  subst e
  subst hi
  have hb : buildSliceA T 32 1 [(0, .agg [.str nm, vals acc])] = some (varss [⟨nm, acc⟩]) := rfl
  have ha : appA T 32 (varss out) (varss [⟨nm, acc⟩]) = some (varss (out ++ [⟨nm, acc⟩])) := AP32 (by simp; omega)
  have hw : IntKind.i64.wrap (k + 1) = k + 1 := wrap_in (by omega) (by omega)
  rw [FL10_0]
  simp -implicitDefEqProofs only [L10_0, nth_zero, nth_succ, bin_lss, bnd_some, condM_bool, Int.lt_irrefl, decide_false, Bool.false_eq_true, if_false, hb, ha, bin_add, hw]
  simp [initL]
 | x :: B, A, acc, k, e, hac, hi, hk1, hk2 => by
  have hll : A.length + (B.length + 1) = es.length := by rw [← e]; simp
  have h1 : (A.length : Int) < (es.length : Int) := by omega
  have hx : es[A.length]'(by omega) = x := by subst e; simp
  have hm : x ∈ es := by rw [← e]; simp
  have hix := IX26 (l := es) (n := (A.length : Int)) (by omega) h1
  rw [show ((A.length : Int)).toNat = A.length by omega, getElem!_pos es A.length (by omega), hx] at hix
  have hex : loadA T 28 (.ip (acells x.av)) = some x.av := by simp
  have hx1 : ∀ e : Exp, AV.agg (acells e.av) = e.av := fun _ => rfl
  have hcall := t19 x [] [] (hes x hm) (by simp) (by simp [valsSz])
  have hcall' : callW pg 19 [x.av, .sl [], .sl []] = M.pure (pairOf (expX x [] [])) := hcall
  have hw : IntKind.i64.wrap ((A.length : Int) + 1) = ((A.length + 1 : Nat) : Int) := wrap_add1 (by omega)
  have hne : ∀ a b : Int, binA T .neq 33 (.int .i64 a) (.int .i64 b) = some (.bool (a != b)) := fun _ _ => rfl
  rw [FL10_0]
  simp -implicitDefEqProofs only [L10_0, nth_zero, nth_succ, bin_lss, bnd_some, condM_bool, h1, decide_true, if_true, hix, hex, cellsM_of (okEl_exp x), bnd_pure, hx1, hcall']
  unfold initL
  cases hr : expX x [] [] with
  | er c s =>
   have hc0 : (c != 0) = true := by
    have := expX_err hr
    simpa using this
   simp -implicitDefEqProofs only [pairOf, extractA_tup, List.getElem?_cons_zero, List.getElem?_cons_succ, bnd_some, cellsM_of (okEl_val default), bnd_pure, hne, hc0, condM_bool, if_true]
  | ok v s =>
   have hb2 : buildSliceA T 23 1 [(0, v.av)] = some (vals [v]) := by rw [v.av_eq]; simp [vals, valsAv, v.av_eq]; rfl
   have ha2 : appA T 23 (vals acc) (vals [v]) = some (vals (acc ++ [v])) := AP23 (by simp; omega)
   have hc1 : cell1M (vals (acc ++ [v])) = M.pure (vals (acc ++ [v])) := rfl
   have hvv : ∀ v : Val, AV.agg (acells v.av) = v.av := fun v => by simp
   have h00 : ((0 : Int) != 0) = false := rfl
   have hvl : loadA T 39 (.ip (acells v.av)) = some v.av := by simp
   have ih := fresh_in outer p out i nm es hes hlen hout B (A ++ [x]) (acc ++ [v]) k (by rw [← e]; simp) (by simp [hac]) hi hk1 hk2
   simp only [List.append_assoc, List.singleton_append, List.length_append, List.length_singleton] at ih
   simp -implicitDefEqProofs only [pairOf, extractA_tup, List.getElem?_cons_zero, List.getElem?_cons_succ, bnd_some, cellsM_of (okEl_val v), bnd_pure, hne, h00, condM_bool, Bool.false_eq_true, if_false, hvv, hvl, hb2, ha2, hc1, bin_add, hw, ih]
   cases initL B <;> rfl
theorem t10 (p : List Mod) (hp : p.length ≤ 1099511627776) (hm : ∀ m ∈ p, m.vars.length ≤ 1099511627776 ∧ m.init.length ≤ 274877906944 ∧ ∀ e ∈ m.init, expLim e) : callW pg 10 [mods p] = M.pure (freshAv (freshX p)) := by
 have hloop : ∀ (B A : List Mod) (out : List Vars), A ++ B = p → out.length = A.length → fixW (L10_1 (callW pg) fixW) [varss out, mods p, .int .i64 p.length, .int .i64 A.length] =
   M.pure (match freshL B with | .error c => .tup [.sl [], .int .i64 c] | .ok r => .tup [varss (out ++ r), .int .i64 0]) := by
  intro B
  induction B with
  | nil =>
   intro A out e ho
   simp only [List.append_nil] at e
   subst e
   rw [FL10_1]
   simp -implicitDefEqProofs only [L10_1, nth_zero, nth_succ, bin_lss, bnd_some, condM_bool, Int.lt_irrefl, decide_false, Bool.false_eq_true, if_false, freshL, List.append_nil]
  | cons x B ih =>
   intro A out e ho
   have hll : A.length + (B.length + 1) = p.length := by rw [← e]; simp
   have h1 : (A.length : Int) < (p.length : Int) := by omega
   have hx : p[A.length]'(by omega) = x := by subst e; simp
   have hmm : x ∈ p := by rw [← e]; simp
   obtain ⟨m1, m2, m3⟩ := hm x hmm
   have hix := IX22 (l := p) (n := (A.length : Int)) (by omega) h1
   rw [show ((A.length : Int)).toNat = A.length by omega, getElem!_pos p A.length (by omega), hx] at hix
   have hB : buildA T true 47 [(0, .str x.name)] = some (.agg [.str x.name, .hn]) := rfl
   have hC : cellsNil 2 [1] (.agg [.str x.name, .hn]) = M.pure (.agg [.str x.name, .hn]) := rfl
   have hin := fresh_in (fixW (L10_1 (callW pg) fixW)) p out (.int .i64 A.length) x.name x.init m3 m2 (by omega) x.init [] [] A.length rfl rfl rfl (by omega) (by omega)
   rw [FL10_1]
   simp -implicitDefEqProofs only [L10_1, nth_zero, nth_succ, bin_lss, bnd_some, condM_bool, h1, decide_true, if_true, hix, okm, cellsM_of (okEl_mod x), bnd_pure, acells_agg]
   simp -implicitDefEqProofs only [nth_zero, bnd_some, condM_bool, bnd_pure, acells_agg, acells_mod, FA63_0, FA63_2, FA63_3, List.drop_succ_cons, List.drop_zero, LD9, LD26, LD58, LENE26, LENE58, hB, hC, bin_neq]
   unfold freshL
   by_cases hl : x.init.length = x.vars.length
   ·have hl' : ((x.init.length : Int) != (x.vars.length : Int)) = false := by simp [hl]
    simp only [hl', Bool.false_eq_true, if_false, if_pos hl]
    have hz : ((([] : List Exp).length : Nat) : Int) = 0 := rfl
    rw [hz] at hin
    have hv0 : vals [] = .sl [] := rfl
    rw [hv0] at hin
    rw [hin]
    cases initL x.init with
    | error c => rfl
    | ok vs =>
     have := ih (A ++ [x]) (out ++ [⟨x.name, vs⟩]) (by rw [← e]; simp) (by simp [ho])
     simp only [List.length_append, List.length_singleton] at this
     have hcast : ((A.length : Int) + 1) = ((A.length + 1 : Nat) : Int) := by omega
     simp only [List.nil_append, hcast, this]
     cases freshL B <;> simp
   ·have hl' : ((x.init.length : Int) != (x.vars.length : Int)) = true := by
     rw [bne_iff_ne]
     omega
    simp only [hl', if_true, if_neg hl]
 have h0 := hloop p [] [] rfl rfl
 have hne : ∀ a b : Int, binA T .neq 33 (.int .i64 a) (.int .i64 b) = some (.bool (a != b)) := fun _ _ => rfl
 have hS : S10 (callW pg) fixW (mods p) = M.pure (freshAv (freshX p)) := by
  unfold freshX
  by_cases hn : namesX p = 0
  ·have hn' : (namesX p != 0) = false := by simp [hn]
   simp -implicitDefEqProofs only [S10, t32 p hp, bnd_pure, hne, bnd_some, hn', condM_bool, Bool.false_eq_true, if_false, LENE22]
   rw [if_pos hn]
   simp only [List.length_nil, List.nil_append] at h0
   have : varss [] = .sl [] := rfl
   rw [this] at h0
   have hz : ((0 : Nat) : Int) = 0 := rfl
   rw [hz] at h0
   rw [h0]
   cases freshL p <;> rfl
  ·have hn' : (namesX p != 0) = true := by simp [hn]
   simp -implicitDefEqProofs only [S10, t32 p hp, bnd_pure, hne, bnd_some, hn', condM_bool, if_true]
   rw [if_neg hn]
   rfl
 rw [C10, cl_mods, hS]
 exact isoP_pure fun g => by
  cases freshX p with
  | error e => rfl
  | ok st => simp [freshAv, cl, cls]
end Go.Proofs.Ytgbopmciiadmlaa

namespace Go.Proofs.Ytgbopmciiadmlaa
open Go Go.Av Go.Av.Ap
theorem okEl_vars2 (s : Str) (v : AV) (h : okCell v = true) : okEl 2 (.agg [.str s, v]) = true := by
 simp only [okEl, sizeA, acells, List.all_cons, List.all_nil]
 rw [h]
 rfl
theorem push_state {p : List Mod} {nm : SNm} {tag : Nat → Nat} {dv cv sv : AV} {m : Ms} {h : Hp} (R : RepT (rowP p nm.told) nm tag dv cv sv m h) (hnil : m.state = [] → nm.cells = [] ∧ nm.names = []) (x : Vars) (hb : x.values.length ≤ 274877906944) (hs : m.state.length ≤ 1099511627776) :
  ∃ av h1 sv' h2 h3 nm', callW pg 39 [vals x.values] h = .ok av h1 ∧ okCell av = true ∧ loadH T 32 (.hp 0 11) h = .ok sv h ∧ appH T 32 false sv (.sl [.agg [.str x.module, av]]) h1 = .ok sv' h2 ∧ storeH T 32 (.hp 0 11) sv' h2 = .ok (.tup []) h3 ∧
   nm'.names = nm.names ++ [x.module] ∧ nm'.told = nm.told ∧ RepP p nm' { m with state := m.state ++ [x.values] } h3 := by
 have e0 : callW pg 39 [vals x.values] = cloneH T 23 (callW pg) [vals x.values] := callW_other hOther rfl _
 have e1 := cloneH_vals (T := T) (t := 23) rfl rfl rfl rfl rfl (by decide) (callW pg) x.values (show x.values.length * 64 ≤ 140737488355328 by omega) h
 have hl : loadH T 32 (.hp 0 11) h = .ok sv h := loadH_one rfl rfl R.r0 rfl
 -- the clone
 have hcl : ∃ av h1 tag1, callW pg 39 [vals x.values] h = .ok av h1 ∧ RepT (rowP p nm.told) nm tag1 dv cv sv m h1 ∧ okCell av = true ∧ ((x.values = [] ∧ av = .sl []) ∨ ∃ r, av = .hs r 0 x.values.length 4 true ∧ tag1 r = 6 + m.state.length ∧ h1[r]? = some (valCells x.values)) := by
  rw [e0]
  by_cases hv : x.values = []
  ·rw [if_pos hv] at e1
   exact ⟨_, h, tag, e1, R, rfl, .inl ⟨hv, rfl⟩⟩
  ·rw [if_neg hv] at e1
   exact ⟨_, _, _, e1, (R.more (valCells x.values) (6 + m.state.length)).1, rfl, .inr ⟨h.length, rfl, by simp, by simp⟩⟩
 obtain ⟨av, h1, tag1, c1, R1, ok1, A1⟩ := hcl
 obtain ⟨h2, sv', tag', p1, K, H, hc⟩ := push_row (T := T) (t := 32) rfl rfl rfl rfl (by decide) rfl (by decide) (x := .agg [.str x.module, av]) R1.st (fun h0 => by
  have h00 : m.state = [] := List.eq_nil_of_length_eq_zero h0
  obtain ⟨n1, n2⟩ := hnil h00
  rw [h00, n2]
  exact ⟨n1.symm, rfl⟩) (fun cs h => h.2.ok) (okEl_vars2 _ _ ok1) (show (m.state.length + 1) * 40 ≤ 140737488355328 by omega)
 have h0 := (K 0 _ R1.r0 (by rw [R1.t0]; decide)).1
 have hac : acells sv' = [sv'] := (okCell_one hc).2.1
 have := R1.pushState (n := x.module) (l := x.values) K A1 H
 refine ⟨av, h1, sv', h2, _, ⟨nm.names ++ [x.module], sv', nm.cells ++ [.str x.module, av], nm.told⟩, c1, ok1, hl, p1, storeH_ok rfl h0 (okCell_one hc).1 (show 11 + 1 ≤ 12 by decide) (by decide), rfl, rfl, tag', dv, cv, sv', ?_⟩
 rw [hac]
 exact this
theorem build_vars (s : Str) (v : AV) (h : okCell v = true) : buildA T false 47 [(0, .str s), (1, v)] = some (.agg [.str s, v]) := by
 cases v with
 | any => cases h
 | agg _ => cases h
 | tup _ => cases h
 | _ => rfl
theorem buildS_vars (x : AV) (hx : sizeA x = some 2) : buildSliceA T 32 1 [(0, x)] = some (.sl [x]) := by
 have h1 : buildSliceA T 32 1 [(0, x)] = (fillEls 2 (List.replicate 1 (.agg [.str [], .sl []])) [(0, x)]).map .sl := rfl
 rw [h1]
 simp only [fillEls, hx, List.length_replicate]
 rfl
theorem loop_from {p : List Mod} (st : List Vars) (hst : st.length ≤ 1099511627776) (hv : ∀ x ∈ st, x.values.length ≤ 274877906944) (y0 y2 y3 y7 y8 y9 y10 y11 y12 y13 y14 : AV) : ∀ (B A : List Vars) (nm : SNm) (m : Ms) (h : Hp), A ++ B = st → m.state = A.map (·.values) → nm.names = A.map (·.module) → (m.state = [] → nm.cells = []) → nm.told = false → RepP p nm m h →
  ∃ nm' h', nm'.names = st.map (·.module) ∧ nm'.told = false ∧ RepP p nm' { m with state := st.map (·.values) } h' ∧
   fixW (L17_0 (callW pg) fixW) [y0, .ip [.hp 0 0], y2, y3, varss st, .int .i64 st.length, .int .i64 A.length, y7, y8, y9, y10, y11, y12, y13, y14] h =
   fixW (L17_0 (callW pg) fixW) [y0, .ip [.hp 0 0], y2, y3, varss st, .int .i64 st.length, .int .i64 st.length, y7, y8, y9, y10, y11, y12, y13, y14] h'
 | [], A, nm, m, h, e, hs, hn, hc, ht, R => by
  simp only [List.append_nil] at e
  subst e
  refine ⟨nm, h, hn, ht, ?_, rfl⟩
  rw [← hs]
  exact R
 | x :: B, A, nm, m, h, e, hs, hn, hc, ht, R => by
  have hll : A.length + (B.length + 1) = st.length := by rw [← e]; simp
  have h1 : (A.length : Int) < (st.length : Int) := by omega
  have hx : st[A.length]'(by omega) = x := by subst e; simp
  have hm : x ∈ st := by rw [← e]; simp
  have hix := IX32 (l := st) (n := (A.length : Int)) (by omega) h1
  rw [show ((A.length : Int)).toNat = A.length by omega, getElem!_pos st A.length (by omega), hx] at hix
  have hmsl : m.state.length = A.length := by rw [hs]; simp
  obtain ⟨tag, dv, cv, sv, R0⟩ := R
  obtain ⟨av, h2, sv', h3, h4, nm', c1, ok1, l1, p1, s1, n1, t1, R'⟩ := push_state R0 (fun h0 => ⟨hc h0, by
   rw [hn]
   have : A = [] := by
    apply List.eq_nil_of_length_eq_zero
    rw [← hmsl, h0]
    rfl
   rw [this]; rfl⟩) x (hv x hm) (by omega)
  obtain ⟨nm2, h', j1, j2, j3, j4⟩ := loop_from (p := p) st hst hv y0 y2 y3 y7 y8 y9 y10 y11 y12 y13 y14 B (A ++ [x]) nm' _ h4 (by rw [← e]; simp) (by simp [hs]) (by rw [n1, hn]; simp) (fun h0 => by simp at h0) (t1.trans ht) R'
  refine ⟨nm2, h', j1, j2, j3, ?_⟩
  rw [← j4]
  generalize hcode : fixW (L17_0 (callW pg) fixW) [y0, .ip [.hp 0 0], y2, y3, varss st, .int .i64 st.length, .int .i64 A.length, y7, y8, y9, y10, y11, y12, y13, y14] h = code
  have hlp : loadA T 79 (.ip [.hp 0 0]) = some (.hp 0 0) := rfl
  have hvv : AV.agg (acells x.av) = x.av := rfl
  have hac : acells x.av = [.str x.module, vals x.values] := rfl
  have hw : IntKind.i64.wrap ((A.length : Int) + 1) = ((A.length + 1 : Nat) : Int) := wrap_add1 (by omega)
  have ls : ∀ g : AV → M AV, bnd (loadH T 32 (.hp 0 11)) g h = g sv h := fun g => bnd_ok l1
  rw [FL17_0] at hcode
  simp -implicitDefEqProofs only [L17_0, nth_zero, nth_succ, bin_lss, bnd_some, condM_bool, h1, decide_true, if_true, hix, okvars, cellsM_of (okEl_vars x), bnd_pure, acells_agg, hlp, nilChkA_hp, FH81_4, FH43_4, Nat.zero_add, Nat.reduceAdd, ls] at hcode
  simp -implicitDefEqProofs only [bnd_some, hac, FA47_0, FA47_1, List.drop_succ_cons, List.drop_zero, LD9, LD23] at hcode
  rw [bnd_ok c1] at hcode
  simp -implicitDefEqProofs only [build_vars _ _ ok1, buildS_vars (.agg [.str x.module, av]) rfl, bnd_some] at hcode
  rw [bnd_ok p1] at hcode
  rw [bnd_ok s1] at hcode
  simp -implicitDefEqProofs only [bin_add, bnd_some, hw] at hcode
  rw [← hcode]
  simp only [List.length_append, List.length_singleton]
theorem any_right (l : List Val) (hl : valsSz l ≤ 4611686018427387904) : callW pg 37 [vals l, .fn (.func 38) [] []] = M.pure (.bool !(l.all (fitsP 4))) := any_not 38 t38 l hl
def nmF : SNm := ⟨[], .hn, [], false⟩
def rowF (p : List Mod) (world : List Int) (fuel : Int) : List AV := [mods p, ints world, .int .i64 fuel, .int .i64 0, .int .i64 0, .int .i64 0, .int .i64 0, .hn, .hn, .hn, .hn, .hn]
theorem rep_from (p : List Mod) (world : List Int) (fuel : Int) : RepP p nmF (startM world fuel []) [rowF p world fuel] :=
 ⟨fun _ => 0, .hn, .hn, .hn, rfl, rfl, .inl ⟨rfl, rfl⟩, .inl ⟨rfl, rfl⟩, .inl ⟨rfl, rfl⟩, rfl, fun h => by cases h⟩
theorem freeze_out {p : List Mod} {nm : SNm} {m : Ms} {h : Hp} (R : RepP p nm m h) (e : Int) (v : Val) : ∃ h1 cells, (storeH T 39 (.hp 0 5) v.av h = .ok (.tup []) h1) ∧ ∃ h2, storeH T 33 (.hp 0 4) (.int .i64 e) h1 = .ok (.tup []) h2 ∧ loadH T 43 (.hp 0 4) h2 = .ok (.agg cells) h2 ∧
  bnd (cellsNil 8 [] (.agg cells)) (fun w => M.pure (AV.agg [nth (acells w) 0, nth (acells w) 1, nth (acells w) 2, nth (acells w) 3, nth (acells w) 4, nth (acells w) 5, nth (acells w) 6, nth (acells w) 7])) h2 = .ok (.agg cells) h2 ∧ frz 6 h2 (.agg cells) = Out.av ⟨e, v, m.deeds, m.calls, List.zipWith Vars.mk nm.names m.state⟩ := by
 obtain ⟨tag, dv, cv, sv, R⟩ := R
 have hlt : 0 < h.length := (List.getElem?_eq_some_iff.1 R.r0).1
 have s1 := storeH_ok (T := T) (t := 39) rfl R.r0 (v := v.av) (k := 5) (okEl_val v) (show 5 + 4 ≤ 12 by decide) (by decide)
 have e1 : setCells (rowP p nm.told m dv cv sv) 5 (acells v.av) = [pvOf nm.told p, wvOf nm.told m.world, .int .i64 m.fuel, .int .i64 m.frames, .int .i64 0, .int .i64 v.kind, .int .i64 v.n, strs v.names, vals v.values, dv, cv, sv] := by
  rw [acells_val]
  rfl
 rw [e1] at s1
 have s2 := storeH_ok (T := T) (t := 33) rfl (h := h.set 0 [pvOf nm.told p, wvOf nm.told m.world, .int .i64 m.fuel, .int .i64 m.frames, .int .i64 0, .int .i64 v.kind, .int .i64 v.n, strs v.names, vals v.values, dv, cv, sv]) (l := 0) (k := 4) (v := .int .i64 e) (List.getElem?_set_self hlt) rfl (show 4 + 1 ≤ 12 by decide) (by decide)
 rw [List.set_set] at s2
 have e2 : setCells [pvOf nm.told p, wvOf nm.told m.world, .int .i64 m.fuel, .int .i64 m.frames, .int .i64 0, .int .i64 v.kind, .int .i64 v.n, strs v.names, vals v.values, dv, cv, sv] 4 (acells (.int .i64 e)) = [pvOf nm.told p, wvOf nm.told m.world, .int .i64 m.fuel, .int .i64 m.frames, .int .i64 e, .int .i64 v.kind, .int .i64 v.n, strs v.names, vals v.values, dv, cv, sv] := rfl
 rw [e2] at s2
 refine ⟨_, [.int .i64 e, .int .i64 v.kind, .int .i64 v.n, strs v.names, vals v.values, dv, cv, sv], s1, _, s2, ?_, ?_, ?_⟩
 ·exact loadH_agg (T := T) (t := 43) rfl rfl (List.getElem?_set_self hlt) (show 4 + 8 ≤ 12 by decide)
 ·have hd : okCell dv = true := by rcases R.ds with ⟨_, rfl⟩ | ⟨q, cs, rfl, _⟩ <;> rfl
  have hc : okCell cv = true := by rcases R.cs with ⟨_, rfl⟩ | ⟨q, cs, rfl, _⟩ <;> rfl
  have hs : okCell sv = true := by rcases R.st with ⟨_, rfl⟩ | ⟨q, cs, rfl, _⟩ <;> rfl
  have hok : okEl 8 (.agg [.int .i64 e, .int .i64 v.kind, .int .i64 v.n, strs v.names, vals v.values, dv, cv, sv]) = true := by
   simp only [okEl, sizeA, acells, List.all_cons, List.all_nil, hd, hc, hs]
   rfl
  rw [cellsNil_of hok]
  rfl
 ·-- the rows but the first one are as they were
  have K : Kp tag tag (fun k => k = 0) h (h.set 0 [pvOf nm.told p, wvOf nm.told m.world, .int .i64 m.fuel, .int .i64 m.frames, .int .i64 e, .int .i64 v.kind, .int .i64 v.n, strs v.names, vals v.values, dv, cv, sv]) := Kp.kill R.t0 _
  have d1 := frz_deeds (d := 4) (R.ds.keep K (c' := fun cs => cs = deedCells m.deeds) (by decide) fun _ h => h)
  have d2 := frz_calls (d := 4) (R.cs.keep K (by decide) fun _ h => h.keep K (by decide))
  have d3 := frz_states (d := 4) (c0 := nm.cells) (R.st.keep K (by decide) fun _ h => ⟨h.1, h.2.keep K (by omega)⟩)
  rw [frz_succ]
  simp only [cl, cls, d1, d2, d3, cl_strs, cl_vals]
  rfl
theorem isoP_frz {m : M AV} {a r : AV} {h' : Hp} (h1 : m [] = .ok a h') (h2 : frz 6 h' a = r) : isoP m = M.pure r := by
 funext h
 unfold isoP
 rw [h1]
 simp only [M.pure, h2]
theorem wrap8 (o : Out) : bnd (cellsNil 8 [] o.av) (fun w => M.pure (AV.agg [nth (acells w) 0, nth (acells w) 1, nth (acells w) 2, nth (acells w) 3, nth (acells w) 4, nth (acells w) 5, nth (acells w) 6, nth (acells w) 7])) = M.pure o.av := by
 rw [cellsNil_of (okEl_out o)]
 rfl
theorem build_err (e : Int) : buildA T false 43 [(0, .int .i64 e)] = some (errO e).av := rfl
theorem from_body {p : List Mod} (LB : LimB p) (st : List Vars) (args : List Val) (world : List Int) (fuel at_ : Int) (f : Fun) (hst : st.length ≤ 1099511627776) (hv : ∀ x ∈ st, x.values.length ≤ 274877906944)
  (hat0 : 0 ≤ at_) (hat : at_ < p.length) (hf : f ∈ (p[at_.toNat]?.getD default).funcs) (hlen : args.length = f.params.length) (hr : ∀ v ∈ args, Rv v) (hb : belongs p st = true) (hfu : 0 ≤ fuel ∧ fuel ≤ 100000) (y7 y8 y9 y10 y11 y12 y13 y14 : AV) :
  ∃ a h', fixW (L17_0 (callW pg) fixW) [.ip (acells (vals args)), .ip [.hp 0 0], .ip [.int .i64 at_], .ip (acells f.av), varss st, .int .i64 st.length, .int .i64 0, y7, y8, y9, y10, y11, y12, y13, y14] [rowF p world fuel] = .ok a h' ∧
   frz 6 h' a = (outOf (st.map (·.module)) (enterX p (evalX p 100000) at_ f args (startM world fuel (st.map (·.values))))).av := by
 obtain ⟨nm, h1, n1, n2, R1, e1⟩ := loop_from (p := p) st hst hv (.ip (acells (vals args))) (.ip [.int .i64 at_]) (.ip (acells f.av)) y7 y8 y9 y10 y11 y12 y13 y14 st [] nmF (startM world fuel []) _ rfl rfl rfl (fun _ => rfl) rfl (rep_from p world fuel)
 have hz : ((([] : List Vars).length : Nat) : Int) = 0 := rfl
 rw [hz] at e1
 rw [e1]
 have hbr := belongs_right hb
 have e2 : ({ startM world fuel [] with state := st.map (·.values) } : Ms) = startM world fuel (st.map (·.values)) := rfl
 rw [e2] at R1
 have G : GoodM p (startM world fuel (st.map (·.values))) := by
  refine ⟨⟨fun l hl v hv => ?_, fun c hc => by simp [startM] at hc⟩, by simp [mu, startM]; omega, by simp [startM], by simp [startM]; omega, fun i x hx => ?_⟩
  ·simp only [startM, List.mem_map] at hl
   obtain ⟨y, hy, rfl⟩ := hl
   exact hbr.2.1 y hy v hv
  ·have hi : i < p.length := (List.getElem?_eq_some_iff.1 hx).1
   have hi2 : i < st.length := by rw [hbr.1]; exact hi
   refine ⟨st[i].values, by simp [startM, hi2], ?_⟩
   exact (hbr.2.2 i x st[i] hx (List.getElem?_eq_getElem hi2)).2
 have hen := enterOK (nm := nm) LB 100000 at_ f args _ _ hat0 hat hf hlen hr R1 G (by simp [mu, startM]; omega) (by simp [startM]; omega)
 have hlp : loadA T 79 (.ip [.hp 0 0]) = some (.hp 0 0) := rfl
 have hla : loadA T 3 (.ip [.int .i64 at_]) = some (.int .i64 at_) := rfl
 have hlf : loadA T 67 (.ip (acells f.av)) = some f.av := by simp
 have hlv : loadA T 23 (.ip (acells (vals args))) = some (vals args) := rfl
 have hcall : ∀ h, callW pg 41 [.ip [.hp 0 0], .ip [.int .i64 at_], .ip (acells f.av), .ip (acells (vals args))] h = bnd (callW pg 42 [.hp 0 0, .int .i64 at_, f.av, vals args]) (fun v => bnd (cellsNil 4 [] v) fun w => M.pure (AV.agg [nth (acells w) 0, nth (acells w) 1, nth (acells w) 2, nth (acells w) 3])) h := fun h => by
  rw [C41]
  simp -implicitDefEqProofs only [S41, hlp, hla, hlf, hlv, bnd_some]
 have htry := t40 (.fn (.func 41) [] [.ip [.hp 0 0], .ip [.int .i64 at_], .ip (acells f.av), .ip (acells (vals args))]) h1
 have hcv : callV (callW pg) (.fn (.func 41) [] [.ip [.hp 0 0], .ip [.int .i64 at_], .ip (acells f.av), .ip (acells (vals args))]) [] = callW pg 41 [.ip [.hp 0 0], .ip [.int .i64 at_], .ip (acells f.av), .ip (acells (vals args))] := rfl
 rw [hcv, hcall] at htry
 have how := out_wrap hen
 generalize hcode : fixW (L17_0 (callW pg) fixW) [.ip (acells (vals args)), .ip [.hp 0 0], .ip [.int .i64 at_], .ip (acells f.av), varss st, .int .i64 st.length, .int .i64 st.length, y7, y8, y9, y10, y11, y12, y13, y14] h1 = code
 rw [FL17_0] at hcode
 simp -implicitDefEqProofs only [L17_0, nth_zero, nth_succ, bin_lss, bnd_some, condM_bool, Int.lt_irrefl, decide_false, Bool.false_eq_true, if_false, hlp] at hcode
 generalize enterX p (evalX p 100000) at_ f args (startM world fuel (st.map (·.values))) = r at how ⊢
 -- what the catch leaves
 have hfin : ∃ (e : Int) (v : Val) (s : Ms) (h2 : Hp), outOf (st.map (·.module)) r = ⟨e, v, s.deeds, s.calls, List.zipWith Vars.mk (st.map (·.module)) s.state⟩ ∧ RepP p nm s h2 ∧ callW pg 40 [.fn (.func 41) [] [.ip [.hp 0 0], .ip [.int .i64 at_], .ip (acells f.av), .ip (acells (vals args))]] h1 = .ok (.tup [v.av, .int .i64 e]) h2 := by
  cases r with
  | ok v s =>
   obtain ⟨h', g1, g2⟩ := how
   rw [g1] at htry
   simp only [tryP, okEl_val, cond_true] at htry
   refine ⟨0, v, s, h', rfl, g2, ?_⟩
   rw [htry]
   simp
  | er c s =>
   obtain ⟨h', g1, g2⟩ := how
   rw [g1] at htry
   exact ⟨c, default, s, h', rfl, g2, htry⟩
 obtain ⟨e, v, s, h2, o1, R2, t1⟩ := hfin
 obtain ⟨h3, cells, s1, h4, s2, l1, w1, fz⟩ := freeze_out R2 e v
 rw [bnd_ok t1] at hcode
 simp -implicitDefEqProofs only [extractA_tup, List.getElem?_cons_zero, List.getElem?_cons_succ, bnd_some, nilChkA_hp, FH81_4, FH43_0, FH43_1, Nat.zero_add, Nat.reduceAdd] at hcode
 rw [bnd_ok s1] at hcode
 rw [bnd_ok s2] at hcode
 rw [bnd_ok l1] at hcode
 rw [w1] at hcode
 refine ⟨_, _, hcode.symm, ?_⟩
 rw [fz, o1, n1]
end Go.Proofs.Ytgbopmciiadmlaa

namespace Go.Proofs.Ytgbopmciiadmlaa
open Go Go.Av Go.Av.Ap
theorem err_ne (a b : Int) : binA T .neq 33 (.int .i64 a) (.int .i64 b) = some (.bool (a != b)) := rfl
theorem t17 {p : List Mod} (LB : LimB p) (st : List Vars) (module fn : Str) (args : List Val) (world : List Int) (fuel : Int) (hst : st.length ≤ 1099511627776) (hv : ∀ x ∈ st, x.values.length ≤ 274877906944 ∧ valsSz x.values ≤ 4611686018427387904)
  (hargs : valsSz args ≤ 4611686018427387904) : callW pg 17 [mods p, varss st, .str module, .str fn, vals args, ints world, .int .i64 fuel] = M.pure (fromX p st module fn args world fuel).av := by
 have hnm := t32 p LB.lim.len
 have hbl := t34 p st LB.lim.len (fun m hm => (LB.lim.funcs m hm).2) (fun x hx => (hv x hx).2)
 have hany := any_right args hargs
 have hcl1 : ∀ s : Str, cl noHs (.str s) = .str s := fun _ => rfl
 have hcl2 : ∀ n : Int, cl noHs (.int .i64 n) = .int .i64 n := fun _ => rfl
 rw [C17, cl_mods, cl_varss, hcl1, hcl1, cl_vals, cl_ints, hcl2]
 have key : ∃ a h', S17 (callW pg) fixW (mods p) (varss st) (.str module) (.str fn) (vals args) (ints world) (.int .i64 fuel) [] = .ok a h' ∧ frz 6 h' a = (fromX p st module fn args world fuel).av := by
  have done : ∀ (o : Out) (c : M AV), c [] = M.pure o.av [] → ∃ a h', c [] = .ok a h' ∧ frz 6 h' a = o.av := fun o c h => ⟨o.av, [], h, cl_out _ o⟩
  generalize hcode : S17 (callW pg) fixW (mods p) (varss st) (.str module) (.str fn) (vals args) (ints world) (.int .i64 fuel) [] = code
  simp -implicitDefEqProofs only [S17, hnm, bnd_pure, err_ne, bnd_some, condM_bool] at hcode
  unfold fromX
  by_cases hn : namesX p = 0
  ·have hn' : (namesX p != 0) = false := by simp [hn]
   have hnn : ¬ (namesX p ≠ 0) := fun h => h hn
   simp only [hn', Bool.false_eq_true, if_false] at hcode
   simp only [if_neg hnn]
   have hg1 : guardM (.bool (decide (fuel < 0))) false 1 (M.pure [.bool (decide (100000 < fuel))]) = M.pure [gv (decide (fuel < 0)) false (.bool (decide (100000 < fuel)))] := guardM_pure1 _ _ _
   have hg2 : guardM (.bool (decide (fuel < 0) || decide (100000 < fuel))) false 1 (M.pure [.bool !(belongs p st)]) = M.pure [gv (decide (fuel < 0) || decide (100000 < fuel)) false (.bool !(belongs p st))] := guardM_pure1 _ _ _
   simp -implicitDefEqProofs only [bin_lss, bin_gtr, bnd_some, hg1, bnd_pure, nth_zero, pickA_or, hbl, unA_not, hg2, condM_bool] at hcode
   by_cases hb : fuel < 0 ∨ 100000 < fuel ∨ belongs p st = false
   ·have hb' : (decide (fuel < 0) || decide (100000 < fuel) || !(belongs p st)) = true := by
     simp only [Bool.or_eq_true, decide_eq_true_eq, Bool.not_eq_true']
     rcases hb with h | h | h
     ·exact .inl (.inl h)
     ·exact .inl (.inr h)
     ·exact .inr h
    simp only [hb', if_true, build_err, bnd_some, wrap8] at hcode
    simp only [if_pos hb]
    rw [← hcode]
    exact ⟨_, [], rfl, cl_out _ _⟩
   ·have hb' : (decide (fuel < 0) || decide (100000 < fuel) || !(belongs p st)) = false := by
     rw [← Bool.not_eq_true]
     simp only [Bool.or_eq_true, decide_eq_true_eq, Bool.not_eq_true']
     rintro ((h | h) | h)
     ·exact hb (.inl h)
     ·exact hb (.inr (.inl h))
     ·exact hb (.inr (.inr h))
    have hbe : belongs p st = true := by
     cases h : belongs p st with
     | true => rfl
     | false => exact absurd (.inr (.inr h)) hb
    have hfu : 0 ≤ fuel ∧ fuel ≤ 100000 := by omega
    have hB : buildA T true 81 [(0, mods p), (1, ints world), (2, .int .i64 fuel)] = some (.agg (rowF p world fuel)) := rfl
    have hnew : ∀ g : AV → M AV, bnd (newH (rowF p world fuel)) g [] = g (.hp 0 0) [rowF p world fuel] := fun g => rfl
    have hcell : cellsM 1 (.hp 0 0) = M.pure (.agg [.hp 0 0]) := rfl
    have hcelli : ∀ n : Int, cellsM 1 (.int .i64 n) = M.pure (.agg [.int .i64 n]) := fun _ => rfl
    have hlp : loadA T 79 (.ip [.hp 0 0]) = some (.hp 0 0) := rfl
    have hla : ∀ n : Int, loadA T 3 (.ip [.int .i64 n]) = some (.int .i64 n) := fun _ => rfl
    have hmd := t35 (rep_from p world fuel) LB.lim module
    have hlt : modAt p module < p.length ∨ p = [] := by
     rcases idxAt_lt (fun (x : Mod) => x.name == module) p 0 with k | k
     ·have : modAt p module = -1 := k
      left
      omega
     ·have : modAt p module = idxAt (fun (x : Mod) => x.name == module) p 0 := rfl
      left
      omega
    have hlt' : modAt p module < p.length := by
     rcases hlt with h | h
     ·exact h
     ·subst h; show idxAt _ [] 0 < _; simp [idxAt]
    have hfn := t36 (rep_from p world fuel) LB.lim (modAt p module) hlt' fn
    simp only [hb', Bool.false_eq_true, if_false] at hcode
    simp only [if_neg hb]
    simp -implicitDefEqProofs only [hB, bnd_some, acells_agg, hnew, hcell, bnd_pure, hlp] at hcode
    rw [bnd_ok hmd] at hcode
    simp -implicitDefEqProofs only [hcelli, bnd_pure, acells_agg, bnd_some, hla] at hcode
    rw [bnd_ok hfn] at hcode
    cases hf : funcX p (modAt p module) fn with
    | none =>
     rw [hf] at hcode
     simp -implicitDefEqProofs only [funTup, extractA_tup, List.getElem?_cons_zero, List.getElem?_cons_succ, bnd_some, cellsM_fun, bnd_pure, unA_not, Bool.not_false, condM_bool, if_true, build_err, wrap8] at hcode
     rw [← hcode]
     exact ⟨_, _, rfl, cl_out _ _⟩
    | some f =>
     rw [hf] at hcode
     obtain ⟨f1, f2, f3⟩ := funcX_some hf
     have hac : ∀ f : Fun, acells (.agg (acells f.av)) = acells f.av := fun _ => rfl
     have hpar : loadA T 58 (.ip (List.drop 2 (acells f.av))) = some (flds f.params) := by simp
     have hlv : loadA T 23 (.ip (acells (vals args))) = some (vals args) := rfl
     have hg3 : guardM (.bool ((args.length : Int) != (f.params.length : Int))) false 1 (M.pure [.bool !(args.all (fitsP 4))]) = M.pure [gv ((args.length : Int) != (f.params.length : Int)) false (.bool !(args.all (fitsP 4)))] := guardM_pure1 _ _ _
     simp -implicitDefEqProofs only [funTup, extractA_tup, List.getElem?_cons_zero, List.getElem?_cons_succ, bnd_some, cellsM_fun, bnd_pure, unA_not, Bool.not_true, condM_bool, Bool.false_eq_true, if_false, hlv, LENE23, hac, FA67_2, hpar, LENE58, bin_neq, hany, hg3, nth_zero, pickA_or] at hcode
     simp only
     by_cases hr : args.length = f.params.length ∧ args.all (fitsP 4) = true
     ·have hr' : (((args.length : Int) != (f.params.length : Int)) || !(args.all (fitsP 4))) = false := by
       have : ((args.length : Int) != (f.params.length : Int)) = false := by simp [hr.1]
       rw [this, hr.2]
       rfl
      simp -implicitDefEqProofs only [hr', Bool.false_eq_true, if_false, LENE32, bnd_some] at hcode
      simp only [if_pos hr]
      obtain ⟨a, h', g1, g2⟩ := from_body LB st args world fuel (modAt p module) f hst (fun x hx => (hv x hx).1) (by omega) hlt' f3 hr.1 (fun v hv => (List.all_eq_true.1 hr.2) v hv) hbe hfu (.int .i64 0) (.int .i64 0) (.int .i64 0) (.sl []) (.sl []) (.sl []) (.sl []) (.sl [])
      rw [g1] at hcode
      exact ⟨a, h', hcode.symm, g2⟩
     ·have hr' : (((args.length : Int) != (f.params.length : Int)) || !(args.all (fitsP 4))) = true := by
       by_cases h1 : args.length = f.params.length
       ·have : args.all (fitsP 4) = false := by
         rw [← Bool.not_eq_true]
         exact fun h2 => hr ⟨h1, h2⟩
        rw [this]
        simp
       ·have : ((args.length : Int) != (f.params.length : Int)) = true := by
         rw [bne_iff_ne]
         omega
        rw [this]
        rfl
      simp -implicitDefEqProofs only [hr', if_true, build_err, bnd_some, wrap8] at hcode
      simp only [if_neg hr]
      rw [← hcode]
      exact ⟨_, _, rfl, cl_out _ _⟩
  ·have hn' : (namesX p != 0) = true := by simp [hn]
   simp only [hn', if_true, build_err, bnd_some, wrap8] at hcode
   simp only [if_pos hn]
   rw [← hcode]
   exact ⟨_, [], rfl, cl_out _ _⟩
 obtain ⟨a, h', h1, h2⟩ := key
 exact isoP_frz h1 h2
structure LimR (p : List Mod) : Prop where
 body : LimB p
 init : ∀ m ∈ p, m.init.length ≤ 274877906944 ∧ ∀ e ∈ m.init, expLim e
theorem vals_right_sz : (l : List Val) → (∀ v ∈ l, Rv v) → valsSz l ≤ l.length * 200000
 | [], _ => by simp [valsSz]
 | v :: l, h => by
  have h1 := right_sz (h v List.mem_cons_self)
  have h2 := vals_right_sz l fun w hw => h w (List.mem_cons_of_mem _ hw)
  simp only [valsSz, List.length_cons]
  omega
theorem freshL_lens : (p : List Mod) → (st : List Vars) → freshL p = .ok st → ∀ x ∈ st, ∃ m ∈ p, x.values.length = m.init.length
 | [], st, h, x, hx => by cases h; cases hx
 | m :: ms, st, h, x, hx => by
  unfold freshL at h
  split at h
  ·split at h
   ·cases h
   ·rename_i vs hvs
    split at h
    ·cases h
    ·rename_i r hr
     cases h
     rcases List.mem_cons.1 hx with rfl | hx
     ·exact ⟨m, List.mem_cons_self, (initL_right _ _ hvs).1⟩
     ·obtain ⟨m', h1, h2⟩ := freshL_lens ms r hr x hx
      exact ⟨m', List.mem_cons_of_mem _ h1, h2⟩
  ·cases h
theorem t14 {p : List Mod} (L : LimR p) (module fn : Str) (args : List Val) (world : List Int) (fuel : Int) (hargs : valsSz args ≤ 4611686018427387904) :
  callW pg 14 [mods p, .str module, .str fn, vals args, ints world, .int .i64 fuel] = M.pure (runX p module fn args world fuel).av := by
 have hfr := t10 p L.body.lim.len (fun m hm => ⟨(L.body.lim.funcs m hm).2, L.init m hm⟩)
 have hcl1 : ∀ s : Str, cl noHs (.str s) = .str s := fun _ => rfl
 have hcl2 : ∀ n : Int, cl noHs (.int .i64 n) = .int .i64 n := fun _ => rfl
 have hS : S14 (callW pg) fixW (mods p) (.str module) (.str fn) (vals args) (ints world) (.int .i64 fuel) = M.pure (runX p module fn args world fuel).av := by
  unfold runX
  simp -implicitDefEqProofs only [S14, hfr, bnd_pure]
  cases hx : freshX p with
  | error e =>
   have he : (e != 0) = true := by
    have := freshX_err hx
    simpa using this
   simp -implicitDefEqProofs only [freshAv, extractA_tup, List.getElem?_cons_zero, List.getElem?_cons_succ, bnd_some, err_ne, he, condM_bool, if_true, build_err, wrap8]
  | ok st =>
   have hb := belongs_right (freshX_belongs hx)
   have hlen : ∀ x ∈ st, x.values.length ≤ 274877906944 := fun x hx' => by
    unfold freshX at hx
    split at hx
    ·obtain ⟨m, h1, h2⟩ := freshL_lens p st hx x hx'
     rw [h2]
     exact (L.init m h1).1
    ·cases hx
   have hfrom := t17 L.body st module fn args world fuel (by rw [hb.1]; exact L.body.lim.len) (fun x hx' => ⟨hlen x hx', Nat.le_trans (vals_right_sz _ (hb.2.1 x hx')) (by have := hlen x hx'; omega)⟩) hargs
   have h0 : ((0 : Int) != 0) = false := rfl
   simp -implicitDefEqProofs only [freshAv, extractA_tup, List.getElem?_cons_zero, List.getElem?_cons_succ, bnd_some, err_ne, h0, condM_bool, Bool.false_eq_true, if_false, hfrom, bnd_pure, wrap8]
 rw [C14, cl_mods, hcl1, hcl1, cl_vals, cl_ints, hcl2, hS]
 exact isoP_pure fun g => cl_out g _
end Go.Proofs.Ytgbopmciiadmlaa

namespace Go.Proofs.Ytgbopmciiadmlaa
open Go Go.Av Go.Av.Ap
def CpR (tag : Nat → Nat) (st : List Vars) (v : AV) (h : Hp) : Prop := SlR tag 5 2 st.length (fun cs => StatesR tag h 0 (st.map (·.module)) (st.map (·.values)) cs) v h
theorem cpR_len {tag : Nat → Nat} {st : List Vars} {v : AV} {h : Hp} (H : CpR tag st v h) : okCell v = true := by
 rcases H with ⟨_, rfl⟩ | ⟨_, _, rfl, _⟩ <;> rfl
theorem push_copy {tag : Nat → Nat} {st : List Vars} {v : AV} {h : Hp} (H : CpR tag st v h) (x : Vars) (hb : x.values.length ≤ 274877906944) (hs : st.length ≤ 1099511627776) :
  ∃ av h1 v' h2 tag', appH T 23 true (.sl []) (vals x.values) h = .ok av h1 ∧ okCell av = true ∧ appH T 32 false v (.sl [.agg [.str x.module, av]]) h1 = .ok v' h2 ∧ CpR tag' (st ++ [x]) v' h2 ∧ Kp tag tag' (fun j => j = 5) h h2 := by
 have e1 := cloneH_vals (T := T) (t := 23) rfl rfl rfl rfl rfl (by decide) (callW pg) x.values (show x.values.length * 64 ≤ 140737488355328 by omega) h
 have e0 : cloneH T 23 (callW pg) [vals x.values] h = appH T 23 true (.sl []) (vals x.values) h := rfl
 rw [e0] at e1
 have hcl : ∃ av h1 tag1, appH T 23 true (.sl []) (vals x.values) h = .ok av h1 ∧ CpR tag1 st v h1 ∧ Kp tag tag1 (fun _ => False) h h1 ∧ okCell av = true ∧ ((x.values = [] ∧ av = .sl []) ∨ ∃ r, av = .hs r 0 x.values.length 4 true ∧ tag1 r = 6 + (0 + (st.map (·.values)).length) ∧ h1[r]? = some (valCells x.values)) := by
  by_cases hv : x.values = []
  ·rw [if_pos hv] at e1
   exact ⟨_, h, tag, e1, H, (fun r cs hr _ => ⟨hr, rfl⟩), rfl, .inl ⟨hv, rfl⟩⟩
  ·rw [if_neg hv] at e1
   have K := Kp.new tag h (valCells x.values) (6 + st.length)
   exact ⟨_, _, _, e1, SlR.keep K (fun h => h) (fun cs hcs => hcs.keep K fun i h => h) H, K, rfl, .inr ⟨h.length, rfl, by simp, by simp⟩⟩
 obtain ⟨av, h1, tag1, c1, H1, K0, ok1, A1⟩ := hcl
 obtain ⟨h2, v', tag', p1, K, H2, hc⟩ := push_row (T := T) (t := 32) rfl rfl rfl rfl (by decide) rfl (by decide) (x := .agg [.str x.module, av]) H1 (fun h0 => by
  have h00 : st = [] := List.eq_nil_of_length_eq_zero h0
  subst h00; rfl) (fun cs h => h.ok) (okEl_vars2 _ _ ok1) (show (st.length + 1) * 40 ≤ 140737488355328 by omega)
 refine ⟨av, h1, v', h2, tag', c1, ok1, p1, ?_, (K0.trans K).mono fun j h => h.elim False.elim id⟩
 have A2 : (x.values = [] ∧ av = .sl []) ∨ ∃ r, av = .hs r 0 x.values.length 4 true ∧ tag' r = 6 + (0 + (st.map (·.values)).length) ∧ h2[r]? = some (valCells x.values) := by
  rcases A1 with A1 | ⟨r, a1, a2, a3⟩
  ·exact .inl A1
  ·obtain ⟨k1, k2⟩ := K r _ a3 (by rw [a2]; omega)
   exact .inr ⟨r, a1, k2.trans a2, k1⟩
 unfold CpR
 rw [List.length_append, List.length_singleton]
 have hst : ∀ cs', (∃ cs, StatesR tag1 h1 0 (st.map (·.module)) (st.map (·.values)) cs ∧ cs' = cs ++ acells (.agg [.str x.module, av])) → StatesR tag' h2 0 ((st ++ [x]).map (·.module)) ((st ++ [x]).map (·.values)) cs' := by
  rintro cs' ⟨cs, g1, rfl⟩
  rw [List.map_append, List.map_append]
  exact (g1.keep K fun i h => by omega).snoc A2
 rcases H2 with ⟨h0, _⟩ | ⟨q, cs, j1, j2, j3, j4, j5, j6⟩
 ·omega
 ·exact .inr ⟨q, cs, j1, j2, j3, j4, j5, hst cs j6⟩
theorem loop_copy (st : List Vars) (hst : st.length ≤ 1099511627776) (hv : ∀ x ∈ st, x.values.length ≤ 274877906944) : ∀ (B A : List Vars) (tag : Nat → Nat) (v : AV) (h : Hp), A ++ B = st → CpR tag A v h →
  ∃ tag' v' h', fixW (L16_0 (callW pg) fixW) [varss st, v, .int .i64 A.length] h = .ok v' h' ∧ CpR tag' st v' h' ∧ Kp tag tag' (fun j => j = 5) h h'
 | [], A, tag, v, h, e, H => by
  have e' : A = st := by rw [← e]; simp
  subst e'
  refine ⟨tag, v, h, ?_, H, fun r cs hr _ => ⟨hr, rfl⟩⟩
  rw [FL16_0]
  simp [L16_0, M.pure]
 | x :: B, A, tag, v, h, e, H => by
  have hll : A.length + (B.length + 1) = st.length := by rw [← e]; simp
  have h1 : (A.length : Int) < (st.length : Int) := by omega
  have hx : st[A.length]'(by omega) = x := by subst e; simp
  have hm : x ∈ st := by rw [← e]; simp
  have hix := IX32 (l := st) (n := (A.length : Int)) (by omega) h1
  rw [show ((A.length : Int)).toNat = A.length by omega, getElem!_pos st A.length (by omega), hx] at hix
  obtain ⟨av, h1', v', h2', tag', c1, ok1, p1, H', K1⟩ := push_copy H x (hv x hm) (by omega)
  obtain ⟨tag2, v2, h2, j1, j2, K2⟩ := loop_copy st hst hv B (A ++ [x]) tag' v' h2' (by rw [← e]; simp) H'
  refine ⟨tag2, v2, h2, ?_, j2, (K1.trans K2).mono fun j h => h.elim id id⟩
  rw [← j1]
  generalize hcode : fixW (L16_0 (callW pg) fixW) [varss st, v, .int .i64 A.length] h = code
  have hac : acells x.av = [.str x.module, vals x.values] := rfl
  have hw : IntKind.i64.wrap ((A.length : Int) + 1) = ((A.length + 1 : Nat) : Int) := wrap_add1 (by omega)
  have hb0 : buildSliceA T 23 0 [] = some (.sl []) := rfl
  have hlen : lenA T 32 (varss st) = some (.int .i64 st.length) := by simp [varss]
  rw [FL16_0] at hcode
  simp -implicitDefEqProofs only [L16_0, nth_zero, nth_succ, hlen, bin_lss, bnd_some, condM_bool, h1, decide_true, if_true, hix, hac, FA47_0, FA47_1, List.drop_succ_cons, List.drop_zero, LD9, LD23, hb0] at hcode
  rw [bnd_ok c1] at hcode
  simp -implicitDefEqProofs only [build_vars _ _ ok1, buildS_vars (.agg [.str x.module, av]) rfl, bnd_some] at hcode
  rw [bnd_ok p1] at hcode
  simp -implicitDefEqProofs only [bin_add, bnd_some, hw] at hcode
  rw [← hcode]
  simp only [List.length_append, List.length_singleton]
theorem t16 (st : List Vars) (hst : st.length ≤ 1099511627776) (hv : ∀ x ∈ st, x.values.length ≤ 274877906944) (h : Hp) : ∃ tag v h', callW pg 16 [varss st] h = .ok v h' ∧ CpR tag st v h' ∧ Kp (fun _ => 0) tag (fun j => j = 5) h h' := by
 obtain ⟨tag, v, h', j1, j2, j3⟩ := loop_copy st hst hv st [] (fun _ => 0) .hn h rfl (.inl ⟨rfl, rfl⟩)
 exact ⟨tag, v, h', by rw [C16]; exact j1, j2, j3⟩
end Go.Proofs.Ytgbopmciiadmlaa

namespace Go.Proofs.Ytgbopmciiadmlaa
open Go Go.Av Go.Av.Ap
def rowR (t : Bool) (p : List Mod) (full : List Int) (e : Int) (m : Ms) (dv cv sv : AV) : List AV := [pvOf t p, .int .i64 e, .int .i64 0, .int .i64 0, .hn, .hn, dv, cv, sv, wvOf t full, .int .i64 ((full.length : Int) - (m.world.length : Int)), .int .i64 m.fuel, .int .i64 m.frames]
structure RepR (p : List Mod) (full : List Int) (nm : SNm) (e : Int) (m : Ms) (h : Hp) : Prop where
 sub : m.world <:+ full
 tld : nm.told = true → full = []
 rep : Rep (rowR nm.told p full e) nm m h
def ErrR (p : List Mod) (full : List Int) (nm : SNm) (e : Int) (m : Ms) (h : Hp) : Prop := ∃ s, RepR p full nm e s h ∧ s.deeds = m.deeds ∧ s.calls = m.calls ∧ s.state = m.state
def OutR (p : List Mod) (full : List Int) (nm : SNm) (r : Rs Val) (o : Av.R AV) : Prop := match r with
 | .ok v m => ∃ h, o = .ok v.av h ∧ RepR p full nm 0 m h
 | .er e m => ∃ (w : Val) (h : Hp), o = .ok w.av h ∧ ErrR p full nm e m h
section
variable {p : List Mod} {full : List Int} {nm : SNm} {e : Int} {m : Ms} {h : Hp}
theorem RepR.r0 (R : RepR p full nm e m h) : ∃ dv cv sv, h[0]? = some (rowR nm.told p full e m dv cv sv) := by
 obtain ⟨tag, dv, cv, sv, R⟩ := R.rep
 exact ⟨dv, cv, sv, R.r0⟩
theorem RepR.lErr (R : RepR p full nm e m h) (g : AV → M AV) : bnd (loadH T 33 (.hp 0 1)) g h = g (.int .i64 e) h := by
 obtain ⟨dv, cv, sv, R⟩ := R.r0
 exact bnd_ok (loadH_one rfl rfl R rfl)
theorem RepR.lFuel (R : RepR p full nm e m h) (g : AV → M AV) : bnd (loadH T 3 (.hp 0 11)) g h = g (.int .i64 m.fuel) h := by
 obtain ⟨dv, cv, sv, R⟩ := R.r0
 exact bnd_ok (loadH_one rfl rfl R rfl)
theorem RepR.lFrames (R : RepR p full nm e m h) (g : AV → M AV) : bnd (loadH T 3 (.hp 0 12)) g h = g (.int .i64 m.frames) h := by
 obtain ⟨dv, cv, sv, R⟩ := R.r0
 exact bnd_ok (loadH_one rfl rfl R rfl)
theorem RepR.lAt (R : RepR p full nm e m h) (g : AV → M AV) : bnd (loadH T 3 (.hp 0 10)) g h = g (.int .i64 ((full.length : Int) - (m.world.length : Int))) h := by
 obtain ⟨dv, cv, sv, R⟩ := R.r0
 exact bnd_ok (loadH_one rfl rfl R rfl)
theorem RepR.lWorld (R : RepR p full nm e m h) (g : AV → M AV) : bnd (loadH T 24 (.hp 0 9)) g h = g (wvOf nm.told full) h := by
 obtain ⟨dv, cv, sv, R⟩ := R.r0
 exact bnd_ok (loadH_one rfl rfl R rfl)
theorem RepR.lProg (R : RepR p full nm e m h) (g : AV → M AV) : bnd (loadH T 22 (.hp 0 0)) g h = g (pvOf nm.told p) h := by
 obtain ⟨dv, cv, sv, R⟩ := R.r0
 exact bnd_ok (loadH_one rfl rfl R rfl)
theorem _root_.Go.Av.Ap.RepT.turn {row row' : Ms → AV → AV → AV → List AV} {nm : SNm} {tag : Nat → Nat} {dv cv sv : AV} {m m' : Ms} {h : Hp} (R : RepT row nm tag dv cv sv m h) (h1 : m'.deeds = m.deeds) (h2 : m'.calls = m.calls) (h3 : m'.state = m.state) (h4 : m.world = [] → m'.world = []) :
  RepT row' nm tag dv cv sv m' (h.set 0 (row' m' dv cv sv)) := by
 have hlt : 0 < h.length := (List.getElem?_eq_some_iff.1 R.r0).1
 have K : Kp tag tag (fun k => k = 0) h (h.set 0 (row' m' dv cv sv)) := fun r cs hr hk => by
  have : r ≠ 0 := fun e => hk (by rw [e]; exact R.t0)
  exact ⟨by rw [List.getElem?_set_ne (Ne.symm this)]; exact hr, rfl⟩
 refine ⟨by rw [List.getElem?_set_self hlt], R.t0, ?_, ?_, ?_, R.sve, fun t => h4 (R.wok t)⟩
 ·rw [h1]; exact R.ds.keep K (by decide) fun _ h => h
 ·rw [h2]; exact R.cs.keep K (by decide) fun _ h => h.keep K (by decide)
 ·rw [h3]; exact R.st.keep K (by decide) fun _ h => ⟨h.1, h.2.keep K (by omega)⟩
theorem RepR.sErr (R : RepR p full nm e m h) (e' : Int) : ∃ h', (∀ g : AV → M AV, bnd (storeH T 33 (.hp 0 1) (.int .i64 e')) g h = g (.tup []) h') ∧ RepR p full nm e' m h' := by
 obtain ⟨tag, dv, cv, sv, R0⟩ := R.rep
 exact ⟨_, fun g => bnd_ok (storeH_ok rfl R0.r0 rfl (show 1 + 1 ≤ 13 by decide) (by decide)), R.sub, R.tld, tag, dv, cv, sv, R0.turn rfl rfl rfl id⟩
theorem RepR.sFuel (R : RepR p full nm e m h) (f : Int) : ∃ h', (∀ g : AV → M AV, bnd (storeH T 3 (.hp 0 11) (.int .i64 f)) g h = g (.tup []) h') ∧ RepR p full nm e { m with fuel := f } h' := by
 obtain ⟨tag, dv, cv, sv, R0⟩ := R.rep
 exact ⟨_, fun g => bnd_ok (storeH_ok rfl R0.r0 rfl (show 11 + 1 ≤ 13 by decide) (by decide)), R.sub, R.tld, tag, dv, cv, sv, R0.turn (m' := { m with fuel := f }) (row' := rowR nm.told p full e) rfl rfl rfl id⟩
theorem RepR.sFrames (R : RepR p full nm e m h) (f : Int) : ∃ h', (∀ g : AV → M AV, bnd (storeH T 3 (.hp 0 12) (.int .i64 f)) g h = g (.tup []) h') ∧ RepR p full nm e { m with frames := f } h' := by
 obtain ⟨tag, dv, cv, sv, R0⟩ := R.rep
 exact ⟨_, fun g => bnd_ok (storeH_ok rfl R0.r0 rfl (show 12 + 1 ≤ 13 by decide) (by decide)), R.sub, R.tld, tag, dv, cv, sv, R0.turn (m' := { m with frames := f }) (row' := rowR nm.told p full e) rfl rfl rfl id⟩
theorem RepR.sAt (R : RepR p full nm e m h) {x : Int} {w : List Int} (hw : m.world = x :: w) : ∃ h', (∀ g : AV → M AV, bnd (storeH T 3 (.hp 0 10) (.int .i64 ((full.length : Int) - (m.world.length : Int) + 1))) g h = g (.tup []) h') ∧ RepR p full nm e { m with world := m.world.tail } h' := by
 obtain ⟨tag, dv, cv, sv, R0⟩ := R.rep
 refine ⟨_, fun g => bnd_ok (storeH_ok rfl R0.r0 rfl (show 10 + 1 ≤ 13 by decide) (by decide)), ?_, R.tld, tag, dv, cv, sv, ?_⟩
 ·exact (List.tail_suffix m.world).trans R.sub
 ·have e1 : (full.length : Int) - (m.world.length : Int) + 1 = (full.length : Int) - ((m.world.tail).length : Int) := by rw [hw]; simp; omega
  have := R0.turn (m' := { m with world := m.world.tail }) (row' := rowR nm.told p full e) rfl rfl rfl (fun h => by rw [h]; rfl)
  rw [e1]
  exact this
theorem RepR.er (R : RepR p full nm e m h) : ErrR p full nm e m h := ⟨m, R, rfl, rfl, rfl⟩
theorem ErrR.lErr (R : ErrR p full nm e m h) (g : AV → M AV) : bnd (loadH T 33 (.hp 0 1)) g h = g (.int .i64 e) h := by
 obtain ⟨s, R, _⟩ := R
 exact R.lErr g
theorem cn4 (v : Val) : cellsNil 4 [] v.av = M.pure v.av := by
 unfold cellsNil cellsN
 rw [okEl_val, Val.av_eq]
 rfl
theorem wrap4r (v : Val) : (M.pure (AV.agg [nth (acells v.av) 0, nth (acells v.av) 1, nth (acells v.av) 2, nth (acells v.av) 3]) : M AV) = M.pure v.av := by
 rw [acells_val, Val.av_eq]; rfl
theorem build_zero : buildA T false 39 [] = some (default : Val).av := rfl
theorem err_eq (a b : Int) : binA T .eql 33 (.int .i64 a) (.int .i64 b) = some (.bool (a == b)) := rfl
theorem t71 (R : RepR p full nm 0 m h) (c : Int) (_hc : c ≠ 0) : ∃ h', callW pg 71 [.hp 0 0, .int .i64 c] h = .ok (default : Val).av h' ∧ RepR p full nm c m h' := by
 obtain ⟨h', s1, R'⟩ := R.sErr c
 refine ⟨h', ?_, R'⟩
 generalize hcode : callW pg 71 [.hp 0 0, .int .i64 c] h = code
 rw [C71] at hcode
 simp -implicitDefEqProofs only [S71, jn_def, nilChkA_hp, bnd_some, FH95_1, FH43_0, Nat.zero_add, Nat.add_zero, R.lErr, err_eq, beq_self_eq_true, condM_bool, if_true, s1, K71_0, build_zero, cn4, bnd_pure, wrap4r] at hcode
 rw [← hcode]
 rfl
theorem out_fail (R : RepR p full nm 0 m h) (c : Int) (hc : c ≠ 0) : OutR p full nm (.er c m) (bnd (callW pg 71 [.hp 0 0, .int .i64 c]) (fun v => bnd (cellsNil 4 [] v) fun v => M.pure (AV.agg [nth (acells v) 0, nth (acells v) 1, nth (acells v) 2, nth (acells v) 3])) h) := by
 obtain ⟨h', e1, R'⟩ := t71 R c hc
 refine ⟨default, h', ?_, R'.er⟩
 rw [bnd_ok e1, cn4, bnd_pure, wrap4r]
 rfl
theorem out_ok {v : Val} (R : RepR p full nm 0 m h) : OutR p full nm (.ok v m) (M.pure v.av h) := ⟨h, rfl, R⟩
theorem out_okc {v : Val} (R : RepR p full nm 0 m h) : OutR p full nm (.ok v m) (bnd (cellsNil 4 [] v.av) (fun v => M.pure (AV.agg [nth (acells v) 0, nth (acells v) 1, nth (acells v) 2, nth (acells v) 3])) h) := by
 rw [cn4, bnd_pure, wrap4r]
 exact ⟨h, rfl, R⟩
theorem outR_bind {c : M AV} {x : X Val} {f : Val → X Val} {k : AV → M AV} (H : OutR p full nm (x m) (c h)) (he : ∀ a s, x m = .er a s → a ≠ 0) (hok : ∀ v s h', x m = .ok v s → RepR p full nm 0 s h' → OutR p full nm (f v s) (k v.av h'))
  (her : ∀ a s (w : Val) h', a ≠ 0 → ErrR p full nm a s h' → ∃ w' : Val, ∃ h'', k w.av h' = .ok w'.av h'' ∧ ErrR p full nm a s h'') : OutR p full nm (x.bind f m) (bnd c k h) := by
 unfold X.bind
 cases hx : x m with
 | ok v s =>
  rw [hx] at H
  obtain ⟨h', e1, R'⟩ := H
  rw [bnd_ok e1]
  exact hok v s h' hx R'
 | er a s =>
  rw [hx] at H
  obtain ⟨w, h', e1, R'⟩ := H
  obtain ⟨w', h'', e2, R2⟩ := her a s w h' (he a s hx) R'
  exact ⟨w', h'', by rw [bnd_ok e1, e2], R2⟩
end
theorem t83 (b : Bool) : callW pg 83 [.bool b] = M.pure (truthV b).av := by
 rw [C83]
 have hb : buildA T false 39 [(0, .int .i64 1)] = some (Val.mk 1 0 [] []).av := rfl
 have hc1 : cell1M (.int .i64 1) = M.pure (.int .i64 1) := rfl
 have hcl : cl noHs (.bool b) = .bool b := rfl
 rw [hcl]
 have hS : S83 (callW pg) fixW (.bool b) = M.pure (truthV b).av := by
  simp only [S83, hb, bnd_some, cn4, bnd_pure, jn_def, condM_bool, hc1, K83_0]
  cases b <;> rfl
 rw [hS, isoP_val]
theorem t82 (n : Int) : callW pg 82 [.int .i64 n] = M.pure (.int .i64 (argsN n)) := by
 rw [C82]
 have hcl : cl noHs (.int .i64 n) = .int .i64 n := rfl
 rw [hcl]
 have hS : S82 (callW pg) fixW (.int .i64 n) = M.pure (.int .i64 (argsN n)) := by
  simp only [S82, K82_0, K82_1, K82_2, jn_def, bin_eql, bin_gtr, bin_leq, bnd_some, condM_bool, nth_zero, nth_succ]
  by_cases h0 : n = 0
  ·subst h0; rfl
  by_cases h1 : n = 1
  ·subst h1; rfl
  by_cases h2 : n = 2
  ·subst h2; rfl
  by_cases h17 : n = 17
  ·subst h17; rfl
  by_cases h10 : n = 10
  ·subst h10; rfl
  by_cases h14 : n = 14
  ·subst h14; rfl
  by_cases h16 : n = 16
  ·subst h16; rfl
  by_cases h18 : n = 18
  ·subst h18; rfl
  by_cases h11 : n = 11
  ·subst h11; rfl
  by_cases h13 : n = 13
  ·subst h13; rfl
  by_cases h15 : n = 15
  ·subst h15; rfl
  by_cases h2' : 2 < n
  ·by_cases h12 : n ≤ 12
   ·have : n = 3 ∨ n = 4 ∨ n = 5 ∨ n = 6 ∨ n = 7 ∨ n = 8 ∨ n = 9 ∨ n = 12 := by omega
    rcases this with rfl | rfl | rfl | rfl | rfl | rfl | rfl | rfl <;> rfl
   ·have : argsN n = -2 := by
     unfold argsN
     rw [if_neg (by omega), if_neg (by omega), if_neg (by omega), if_neg (by omega), if_neg (by omega)]
    simp [h0, h1, h2, h17, h10, h14, h16, h18, h11, h13, h15, h2', h12, this]
  ·have : argsN n = -2 := by
    unfold argsN
    rw [if_neg (by omega), if_neg (by omega), if_neg (by omega), if_neg (by omega), if_neg (by omega)]
   simp [h0, h1, h2, h17, h10, h14, h16, h18, h11, h13, h15, h2', this]
 rw [hS, isoP_int]
theorem t72 (o : Int) (ns : List Str) (vs : List Val) (s : Str) (v : Val) (h1 : ns.length ≤ 1099511627776) (h2 : vs.length ≤ 1099511627776) : callW pg 72 [scopeAv o ns vs, .str s, v.av] = M.pure (scopeAv o (ns ++ [s]) (vs ++ [v])) := by
 have hcl : ∀ g, cl g (scopeAv o (ns ++ [s]) (vs ++ [v])) = scopeAv o (ns ++ [s]) (vs ++ [v]) := fun g => by simp [scopeAv, cl, cls]
 have hcl2 : cl noHs (scopeAv o ns vs) = scopeAv o ns vs := by simp [scopeAv, cl, cls]
 rw [C72, hcl2, cl_str, cl_val]
 have hS : S72 (callW pg) fixW (scopeAv o ns vs) (.str s) v.av = M.pure (scopeAv o (ns ++ [s]) (vs ++ [v])) := by
  have hc : cellsM 3 (scopeAv o ns vs) = M.pure (scopeAv o ns vs) := rfl
  have hz1 : buildSliceA T 25 0 [] = some (strs []) := rfl
  have hz2 : buildSliceA T 23 0 [] = some (vals []) := rfl
  have hb1 : buildSliceA T 25 1 [(0, .str s)] = some (strs [s]) := rfl
  have hv : loadA T 39 (.ip (acells v.av)) = some v.av := by simp
  have hb2 : buildSliceA T 23 1 [(0, v.av)] = some (vals [v]) := by rw [v.av_eq]; simp [vals, valsAv, v.av_eq]; rfl
  have a1 := AP25 (a := []) (b := ns) (by simp; omega)
  have a2 := AP25 (a := ns) (b := [s]) (by simp; omega)
  have a3 := AP23 (a := []) (b := vs) (by simp; omega)
  have a4 := AP23 (a := vs) (b := [v]) (by simp; omega)
  rw [List.nil_append] at a1 a3
  have c1 : ∀ l, cell1M (strs l) = M.pure (strs l) := fun _ => rfl
  have c2 : ∀ l, cell1M (vals l) = M.pure (vals l) := fun _ => rfl
  have hn : ∀ ns' vs', cellsNil 3 [] (AV.agg [.int .i64 o, strs ns', vals vs']) = M.pure (scopeAv o ns' vs') := fun _ _ => rfl
  simp only [S72, hc, bnd_pure, hz1, hz2, hb1, hv, hb2, bnd_some, acells_scope, nth_zero, nth_succ, a1, a2, a3, a4, c1, c2, hn]
  rfl
 rw [hS, isoP_pure hcl]
theorem t44 (p : List Mod) (hp : p.length ≤ 1099511627776) (s : Str) : callW pg 44 [mods p, .str s] = M.pure (.int .i64 (modAt p s)) := by
 have loop : ∀ (n : Nat) (i : Int), p.length - i.toNat = n → 0 ≤ i → i ≤ p.length → fixW (L44_0 (callW pg) fixW) [mods p, .str s, .int .i64 i] = M.pure (.int .i64 (idxAt (fun m => m.name == s) (p.drop i.toNat) i)) := by
  intro n
  induction n with
  | zero =>
   intro i hn hi hl
   rw [FL44_0]
   simp only [L44_0]
   have h1 : ¬ (i < (p.length : Int)) := by omega
   have h2 : p.drop i.toNat = [] := List.drop_eq_nil_of_le (by omega)
   simp [h1, h2, idxAt]
  | succ n ih =>
   intro i hn hi hl
   have h1 : i < (p.length : Int) := by omega
   have hlt : i.toNat < p.length := by omega
   have h2 : idxAt (fun m : Mod => m.name == s) (p.drop i.toNat) i = if (p[i.toNat].name == s) = true then i else idxAt (fun m : Mod => m.name == s) (p.drop (i.toNat + 1)) (i + 1) := by rw [List.drop_eq_getElem_cons hlt]; rfl
   have h4 := ih (i + 1) (by omega) (by omega) (by omega)
   rw [show (i + 1).toNat = i.toNat + 1 by omega] at h4
   rw [FL44_0]
   simp only [L44_0]
   simp (disch := omega) [h1, wrap_in, IX22, h2]
   by_cases hs : p[i.toNat].name = s
   ·simp [hs]
   ·simpa [hs] using h4
 have hl := loop p.length 0 rfl (by omega) (by omega)
 rw [C44, cl_mods, cl_str]
 have hS : S44 (callW pg) fixW (mods p) (.str s) = M.pure (.int .i64 (modAt p s)) := hl
 rw [hS, isoP_int]
theorem t45 (p : List Mod) (_hp : p.length ≤ 1099511627776) (hf : ∀ m ∈ p, m.funcs.length ≤ 1099511627776) (a : Int) (ha : a < p.length) (s : Str) : callW pg 45 [mods p, .int .i64 a, .str s] = M.pure (.int .i64 (if a < 0 then -1 else funAt (p[a.toNat]?.getD default).funcs s)) := by
 rw [C45, cl_mods, cl_str, cl_int]
 by_cases h0 : a < 0
 ·have hS : S45 (callW pg) fixW (mods p) (.int .i64 a) (.str s) = M.pure (.int .i64 (-1)) := by simp [S45, h0]
  rw [hS, isoP_int, if_pos h0]
 ·have hal : a.toNat < p.length := by omega
  have hx : p[a.toNat]?.getD default = p[a.toNat] := by rw [List.getElem?_eq_getElem hal]; rfl
  have hfl := hf _ (List.getElem_mem hal)
  have loop : ∀ (n : Nat) (i : Int), p[a.toNat].funcs.length - i.toNat = n → 0 ≤ i → i ≤ p[a.toNat].funcs.length → fixW (L45_0 (callW pg) fixW) [mods p, .int .i64 a, .str s, .int .i64 i] = M.pure (.int .i64 (idxAt (fun m => m.name == s) (p[a.toNat].funcs.drop i.toNat) i)) := by
   intro n
   induction n with
   | zero =>
    intro i hn hi hl
    rw [FL45_0]
    simp only [L45_0]
    have h1 : ¬ (i < (p[a.toNat].funcs.length : Int)) := by omega
    have h2 : p[a.toNat].funcs.drop i.toNat = [] := List.drop_eq_nil_of_le (by omega)
    simp (disch := omega) [h1, h2, idxAt, IX22]
   | succ n ih =>
    intro i hn hi hl
    have h1 : i < (p[a.toNat].funcs.length : Int) := by omega
    have hlt : i.toNat < p[a.toNat].funcs.length := by omega
    have h2 : idxAt (fun m : Fun => m.name == s) (p[a.toNat].funcs.drop i.toNat) i = if (p[a.toNat].funcs[i.toNat].name == s) = true then i else idxAt (fun m : Fun => m.name == s) (p[a.toNat].funcs.drop (i.toNat + 1)) (i + 1) := by rw [List.drop_eq_getElem_cons hlt]; rfl
    have h4 := ih (i + 1) (by omega) (by omega) (by omega)
    rw [show (i + 1).toNat = i.toNat + 1 by omega] at h4
    rw [FL45_0]
    simp only [L45_0]
    simp (disch := omega) [h1, wrap_in, IX22, IX59, h2]
    by_cases hs : p[a.toNat].funcs[i.toNat].name = s
    ·simp [hs]
    ·simpa [hs] using h4
  have hl := loop p[a.toNat].funcs.length 0 rfl (by omega) (by omega)
  have hS : S45 (callW pg) fixW (mods p) (.int .i64 a) (.str s) = M.pure (.int .i64 (funAt p[a.toNat].funcs s)) := by
   have hlt : decide (a < 0) = false := by simpa using h0
   simp only [S45, bin_lss, bnd_some, condM_bool, hlt, Bool.false_eq_true, if_false]
   exact hl
  rw [hS, isoP_int, if_neg h0, hx]
end Go.Proofs.Ytgbopmciiadmlaa

namespace Go.Proofs.Ytgbopmciiadmlaa
open Go Go.Av Go.Av.Ap
theorem minsA_two (a b : Int) : minsA true [.int .i64 a, .int .i64 b] = some (.int .i64 (max a b)) := by
 simp only [minsA, minA, cond_true]
 congr 2
 omega
theorem t102 : ∀ (d : Nat), d ≤ 100 → ∀ (v : Val), v.sz ≤ 4611686018427387904 → callW pg 102 [v.av, .int .i64 d] = M.pure (.int .i64 ((min (levelV v) (max d 1) : Nat) : Int)) := by
 intro d
 induction d with
 | zero =>
  intro _ v hv
  have h1 : min (levelV v) (max 0 1) = 1 := by rw [levelV_eq]; omega
  rw [C102, cl_val, cl_int]
  have hS : S102 (callW pg) fixW v.av (.int .i64 ((0 : Nat) : Int)) = M.pure (.int .i64 1) := by simp [S102]
  rw [hS, isoP_int, h1]
  rfl
 | succ d ih =>
  intro hd v hv
  by_cases h0 : d = 0
  ·subst h0
   have h1 : min (levelV v) (max (0 + 1) 1) = 1 := by rw [levelV_eq]; omega
   rw [C102, cl_val, cl_int]
   have hS : S102 (callW pg) fixW v.av (.int .i64 ((0 + 1 : Nat) : Int)) = M.pure (.int .i64 1) := by simp [S102]
   rw [hS, isoP_int, h1]
   rfl
  have ih' := ih (by omega)
  have hlen := v.sz_len
  have hl : ∀ (B A : List Val) (c : Nat), A ++ B = v.values → c ≤ d → fixW (L102_0 (callW pg) fixW) [.int .i64 ((d + 1 : Nat) : Int), .ip (acells v.av), .int .i64 (c : Nat), .int .i64 A.length] = M.pure (.int .i64 ((max c (min (levelsV B) d) + 1 : Nat))) := by
   intro B
   induction B with
   | nil =>
    intro A c e hc
    simp only [List.append_nil] at e
    subst e
    rw [FL102_0]
    simp (disch := omega) [L102_0, levelsV, wrap_in]
   | cons x B ih2 =>
    intro A c e hc
    have hll : A.length + (B.length + 1) = v.values.length := by rw [← e]; simp
    have h1 : (A.length : Int) < (v.values.length : Int) := by omega
    have hx : v.values[A.length]! = x := by
     rw [← e, getElem!_pos _ _ (by simp)]
     simp
    have hm : x ∈ v.values := by rw [← e]; simp
    have hx' : v.values[A.length]'(by omega) = x := by rw [← hx, getElem!_pos]
    have h3 := ih' x (by have := Val.sz_mem hm; omega)
    have hd1 : max d 1 = d := by omega
    rw [hd1] at h3
    have h4 := ih2 (A ++ [x]) (max c (min (levelV x) d)) (by rw [← e]; simp) (by omega)
    have hwd : IntKind.i64.wrap (((d : Int) + 1) - 1) = (d : Int) := by rw [wrap_in (by omega) (by omega)]; omega
    have hwA : IntKind.i64.wrap ((A.length : Int) + 1) = (A.length : Int) + 1 := wrap_in (by omega) (by omega)
    have hmx : ∀ a b : Nat, max (a : Int) ((min b d : Nat) : Int) = ((max a (min b d) : Nat) : Int) := fun a b => by omega
    have hlv : levelsV (x :: B) = max (levelV x) (levelsV B) := rfl
    have hfin : max (max c (min (levelV x) d)) (min (levelsV B) d) = max c (min (levelsV (x :: B)) d) := by rw [hlv]; omega
    have hl1 : lenA T 23 (vals v.values) = some (.int .i64 v.values.length) := LENE23 _
    have hix := IX23 (l := v.values) (n := (A.length : Int)) (by omega) h1
    rw [show ((A.length : Int)).toNat = A.length by omega, hx] at hix
    have hld : loadA T 39 (.ip (acells x.av)) = some x.av := by simp
    have hlvs : loadA T 23 (.ip ([AV.int .i64 v.kind, .int .i64 v.n, strs v.names, vals v.values].drop 3)) = some (vals v.values) := rfl
    rw [FL102_0]
    simp only [L102_0, nth_zero, nth_succ, acells_val, FA39_3, hlvs, hl1, bin_lss, bnd_some, condM_bool, h1, decide_true, if_true, hix, bin_sub, Int.natCast_add, Int.natCast_one, hwd]
    rw [← acells_val x, hld]
    simp only [bnd_some, h3, bnd_pure, minsA_two, hmx, bin_add, hwA]
    simp only [List.length_append, List.length_singleton, acells_val, Int.natCast_add, Int.natCast_one] at h4
    rw [h4, ← hfin]
  have hfin : min (levelV v) (max (d + 1) 1) = max 0 (min (levelsV v.values) d) + 1 := by rw [levelV_eq]; omega
  have := hl v.values [] 0 rfl (by omega)
  rw [C102, cl_val, cl_int]
  have hgt : decide (((d + 1 : Nat) : Int) ≤ 1) = false := by simp; omega
  have hS : S102 (callW pg) fixW v.av (.int .i64 ((d + 1 : Nat) : Int)) = M.pure (.int .i64 ((max 0 (min (levelsV v.values) d) + 1 : Nat))) := by
   simp only [S102, bin_leq, bnd_some, condM_bool, hgt, Bool.false_eq_true, if_false]
   exact this
  rw [hS, isoP_int, hfin]
theorem t100 (v : Val) (hv : v.sz ≤ 4611686018427387904) : callW pg 100 [v.av] = M.pure (.int .i64 ((min (levelV v) 6 : Nat) : Int)) := by
 rw [C100, cl_val]
 have h := t102 6 (by omega) v hv
 have hld : loadA T 39 (.ip (acells v.av)) = some v.av := by simp
 have hS : S100 (callW pg) fixW v.av = M.pure (.int .i64 ((min (levelV v) 6 : Nat) : Int)) := by
  simp only [S100, hld, bnd_some]
  rw [show (AV.int IntKind.i64 6) = .int .i64 ((6 : Nat) : Int) from rfl, h]
  rfl
 rw [hS, isoP_int]
section
variable {p : List Mod} {full : List Int} {nm : SNm} {m : Ms} {h : Hp}
theorem eval_er {c : Int} (hc : c ≠ 0) (R : ErrR p full nm c m h) (sc x : AV) : callW pg 51 [.hp 0 0, sc, x] h = .ok (default : Val).av h := by
 have hne : (c != 0) = true := by simpa using hc
 generalize hcode : callW pg 51 [.hp 0 0, sc, x] h = code
 rw [C51] at hcode
 simp -implicitDefEqProofs only [S51, nilChkA_hp, bnd_some, FH95_1, FH43_0, Nat.zero_add, Nat.add_zero, R.lErr, err_ne, hne, condM_bool, if_true, build_zero, cn4, bnd_pure, wrap4r] at hcode
 rw [← hcode]
 rfl
theorem enter_er {c : Int} (hc : c ≠ 0) (R : ErrR p full nm c m h) (x y z : AV) : callW pg 47 [.hp 0 0, x, y, z] h = .ok (default : Val).av h := by
 have hne : (c != 0) = true := by simpa using hc
 generalize hcode : callW pg 47 [.hp 0 0, x, y, z] h = code
 rw [C47] at hcode
 simp -implicitDefEqProofs only [S47, nilChkA_hp, bnd_some, FH95_1, FH43_0, Nat.zero_add, Nat.add_zero, R.lErr, err_ne, hne, condM_bool, if_true, build_zero, cn4, bnd_pure, wrap4r] at hcode
 rw [← hcode]
 rfl
theorem okEl_c (v : Val) : cellsM 4 v.av = M.pure (.agg (acells v.av)) := cellsM_of (okEl_val v)
theorem t101 (R : RepR p full nm 0 m h) (op : Int) (a b : Val) (hop : op = 3 ∨ op = 4 ∨ op = 5 ∨ op = 6 ∨ op = 7) (ra : Rv a) (_rb : Rv b) : OutR p full nm (binX op a b m) (callW pg 101 [.hp 0 0, .int .i64 op, a.av, b.av] h) := by
 have hv : ∀ x y (z w : Val), z.names = [] → z.values = [] → (AV.agg [.int .i64 x, .int .i64 y, strs z.names, vals z.values]) = (Val.mk x y [] []).av := fun x y z w h1 h2 => by rw [h1, h2]; rfl
 have hplain : ∀ z : Val, Rv z → z.kind = 0 → z.names = [] ∧ z.values = [] := fun z hz hk => by
  have := hz
  unfold Rv at this
  simp only [fitsP, hk] at this
  simp only [beq_self_eq_true, Bool.true_or, if_true, Bool.and_eq_true, beq_iff_eq] at this
  exact ⟨List.eq_nil_of_length_eq_zero this.1.1, List.eq_nil_of_length_eq_zero this.1.2⟩
 have f1 : ∀ z : Val, loadA T 3 (.ip ([AV.int .i64 z.kind, .int .i64 z.n, strs z.names, vals z.values].drop 0)) = some (.int .i64 z.kind) := fun _ => rfl
 have f2 : ∀ z : Val, loadA T 3 (.ip ([AV.int .i64 z.kind, .int .i64 z.n, strs z.names, vals z.values].drop 1)) = some (.int .i64 z.n) := fun _ => rfl
 have c1 : ∀ n, cell1M (.int .i64 n) = M.pure (.int .i64 n) := fun _ => rfl
 have hres : ∀ n : Int, a.kind = 0 → ∀ x1 x2 x3 x4 : AV, K101_0 (callW pg) fixW [.int .i64 a.kind, .int .i64 n, strs a.names, vals a.values, x1, x2, x3, x4] = M.pure (Val.mk 0 n [] []).av := fun n hk x1 x2 x3 x4 => by
  obtain ⟨e1, e2⟩ := hplain a ra hk
  rw [hk, e1, e2]
  rfl
 generalize hcode : callW pg 101 [.hp 0 0, .int .i64 op, a.av, b.av] h = code
 rw [C101] at hcode
 simp -implicitDefEqProofs only [S101, okEl_c, bnd_pure, acells_agg, acells_val, nth_zero, nth_succ, bin_eql, bin_neq, bin_lss, bin_add, bin_sub, bin_mul, bnd_some, FA39_0, FA39_1, f1, f2, guardM_pure1, pickA_and, pickA_or, condM_bool, jn_def, c1] at hcode
 have htr : ∀ b : Bool, bnd (callW pg 83 [AV.bool b]) (fun v13 => bnd (cellsNil 4 [] v13) fun v14 => M.pure (AV.agg [nth (acells v14) 0, nth (acells v14) 1, nth (acells v14) 2, nth (acells v14) 3])) = M.pure (truthV b).av := fun b => by
  rw [t83, bnd_pure, cn4, bnd_pure, wrap4r]
 have hne13 : (13 : Int) ≠ 0 := by decide
 rw [← hcode]
 unfold binX
 by_cases h7 : op = 7
 ·subst h7
  by_cases hk : a.kind = b.kind ∧ a.kind ≠ 2
  ·have e1 : ((7 : Int) == 7 && a.kind == b.kind && a.kind != 2) = true := by simp [hk.1]; rw [← hk.1]; exact hk.2
   simp only [e1, if_true, if_pos hk, htr]
   exact out_ok R
  ·have e1 : ((7 : Int) == 7 && a.kind == b.kind && a.kind != 2) = false := by
    rw [← Bool.not_eq_true]
    simp only [Bool.and_eq_true, beq_iff_eq, bne_iff_ne]
    exact fun h => hk ⟨h.1.2, h.2⟩
   have e2 : ((7 : Int) == 7 || a.kind != 0 || b.kind != 0) = true := rfl
   simp only [e1, e2, Bool.false_eq_true, if_true, if_false, if_neg hk]
   exact out_fail R 13 hne13
 ·have h7b : (op == 7) = false := by simpa using h7
  have e1 : (op == 7 && a.kind == b.kind && a.kind != 2) = false := by rw [h7b]; rfl
  simp only [e1, Bool.false_eq_true, if_false, if_neg h7]
  by_cases hk : a.kind = 0 ∧ b.kind = 0
  ·have e2 : (op == 7 || a.kind != 0 || b.kind != 0) = false := by rw [h7b, hk.1, hk.2]; rfl
   simp only [e2, Bool.false_eq_true, if_false, if_pos hk]
   rcases hop with rfl | rfl | rfl | rfl | rfl
   ·have := hres (IntKind.i64.wrap (a.n + b.n)) hk.1 (.int .i64 0) (.int .i64 0) (.sl []) (.sl [])
    simp only [show ((3 : Int) == 6) = false from rfl, show ((3 : Int) == 3) = true from rfl, Bool.false_eq_true, if_false, if_true, this]
    exact out_ok R
   ·have := hres (IntKind.i64.wrap (a.n - b.n)) hk.1 (.int .i64 0) (.int .i64 0) (.sl []) (.sl [])
    simp only [show ((4 : Int) == 6) = false from rfl, show ((4 : Int) == 3) = false from rfl, show ((4 : Int) == 4) = true from rfl, Bool.false_eq_true, if_false, if_true, this, show ¬ ((4 : Int) = 3) from by decide]
    exact out_ok R
   ·have := hres (IntKind.i64.wrap (a.n * b.n)) hk.1 (.int .i64 0) (.int .i64 0) (.sl []) (.sl [])
    simp only [show ((5 : Int) == 6) = false from rfl, show ((5 : Int) == 3) = false from rfl, show ((5 : Int) == 4) = false from rfl, Bool.false_eq_true, if_false, if_true, this, show ¬ ((5 : Int) = 3) from by decide, show ¬ ((5 : Int) = 4) from by decide]
    exact out_ok R
   ·simp only [show ((6 : Int) == 6) = true from rfl, if_true, htr, show ¬ ((6 : Int) = 3) from by decide, show ¬ ((6 : Int) = 4) from by decide, show ¬ ((6 : Int) = 5) from by decide, if_false]
    exact out_ok R
   ·exact absurd rfl h7
  ·have e2 : (op == 7 || a.kind != 0 || b.kind != 0) = true := by
    rw [h7b]
    by_cases h0 : a.kind = 0
    ·have : b.kind ≠ 0 := fun h => hk ⟨h0, h⟩
     simp [h0, this]
    ·simp [h0]
   simp only [e2, if_true, if_neg hk]
   exact out_fail R 13 hne13
def EvR (p : List Mod) (full : List Int) (nm : SNm) (n : Nat) : Prop := ∀ own ns vs e m h, RepR p full nm 0 m h → GoodM p m → m.fuel ≤ n → Sc p own ns vs m → expLim e → OutR p full nm (evalX p n own ns vs e m) (callW pg 51 [.hp 0 0, scopeAv own ns vs, e.av] h)
theorem eval_ne {n : Nat} {own : Int} {ns : List Str} {vs : List Val} {e : Exp} {a : Int} {s : Ms} (h : evalX p n own ns vs e m = .er a s) : a ≠ 0 := eval_err h
theorem rec_er {c : Int} (hc : c ≠ 0) (R : ErrR p full nm c m h) (own : Int) (ns : List Str) (vs : List Val) (en : List Str) (e : Exp) (hb : e.args.length ≤ 8) (x5 x6 x7 x8 : AV) :
  ∀ (B A : List Exp) (acc : List Val), A ++ B = e.args → acc.length = A.length → ∃ w : Val, fixW (L84_0 (callW pg) fixW) [.hp 0 0, .ip (acells (scopeAv own ns vs)), .ip (acells e.av), .int .i64 A.length, x5, x6, x7, x8, .int .i64 2, .int .i64 0, strs en, vals acc] h = .ok w.av h
 | [], A, acc, e0, ha => by
  simp only [List.append_nil] at e0
  subst e0
  refine ⟨.mk 2 0 en acc, ?_⟩
  have hl1 : lenA T 26 (exps e.args) = some (.int .i64 e.args.length) := LENE26 _
  have hne : (c == 0) = false := by simpa using hc
  have hw : (bnd (cellsNil 4 [] (AV.agg [.int .i64 2, .int .i64 0, strs en, vals acc])) (fun w => M.pure (AV.agg [nth (acells w) 0, nth (acells w) 1, nth (acells w) 2, nth (acells w) 3])) : M AV) = M.pure (Val.mk 2 0 en acc).av := by
   have h1 := cn4 (Val.mk 2 0 en acc)
   have h2 := wrap4r (Val.mk 2 0 en acc)
   rw [Val.av_eq] at h1 h2 ⊢
   rw [show (AV.agg [.int .i64 2, .int .i64 0, strs en, vals acc]) = .agg [.int .i64 (Val.mk 2 0 en acc).kind, .int .i64 (Val.mk 2 0 en acc).n, strs (Val.mk 2 0 en acc).names, vals (Val.mk 2 0 en acc).values] from rfl, h1, bnd_pure, h2]
  generalize hcode : fixW (L84_0 (callW pg) fixW) [.hp 0 0, .ip (acells (scopeAv own ns vs)), .ip (acells e.av), .int .i64 e.args.length, x5, x6, x7, x8, .int .i64 2, .int .i64 0, strs en, vals acc] h = code
  rw [FL84_0] at hcode
  simp -implicitDefEqProofs only [L84_0, nth_zero, nth_succ, acells_exp, FA28_5, List.drop_succ_cons, List.drop_zero, LD26, hl1, bin_lss, bnd_some, condM_bool, Int.lt_irrefl, decide_false, Bool.false_eq_true, if_false, nilChkA_hp, FH95_1, FH43_0, Nat.zero_add, Nat.add_zero, R.lErr, err_eq, hne, guardM, List.replicate, nth_zero, pickA, hw] at hcode
  rw [← hcode]
  rfl
 | x :: B, A, acc, e0, ha => by
  have hll : A.length + (B.length + 1) = e.args.length := by rw [← e0]; simp
  have h1 : (A.length : Int) < (e.args.length : Int) := by omega
  have hx : e.args[A.length]'(by omega) = x := by simp [← e0]
  have hi := IX26 (l := e.args) (n := (A.length : Int)) (by omega) h1
  rw [show ((A.length : Int)).toNat = A.length by omega, getElem!_pos e.args A.length (by omega), hx] at hi
  have hl1 : lenA T 26 (exps e.args) = some (.int .i64 e.args.length) := LENE26 _
  have hex : loadA T 28 (.ip (acells x.av)) = some x.av := by simp
  have hsc : loadA T 101 (.ip (acells (scopeAv own ns vs))) = some (scopeAv own ns vs) := rfl
  have hev := eval_er hc R (scopeAv own ns vs) x.av
  have hb2 : buildSliceA T 23 1 [(0, (default : Val).av)] = some (vals [default]) := rfl
  have ha2 : appA T 23 (vals acc) (vals [default]) = some (vals (acc ++ [default])) := AP23 (by simp; omega)
  have hc1 : ∀ l, cell1M (vals l) = M.pure (vals l) := fun _ => rfl
  have hw : IntKind.i64.wrap ((A.length : Int) + 1) = ((A.length + 1 : Nat) : Int) := wrap_add1 (by omega)
  obtain ⟨w, ih⟩ := rec_er hc R own ns vs en e hb x5 x6 x7 x8 B (A ++ [x]) (acc ++ [default]) (by rw [← e0]; simp) (by simp [ha])
  refine ⟨w, ?_⟩
  rw [← ih]
  generalize hcode : fixW (L84_0 (callW pg) fixW) [.hp 0 0, .ip (acells (scopeAv own ns vs)), .ip (acells e.av), .int .i64 A.length, x5, x6, x7, x8, .int .i64 2, .int .i64 0, strs en, vals acc] h = code
  rw [FL84_0] at hcode
  simp -implicitDefEqProofs only [L84_0, nth_zero, nth_succ, acells_exp e, FA28_5, List.drop_succ_cons, List.drop_zero, LD26, hl1, bin_lss, bnd_some, condM_bool, h1, decide_true, if_true, hi, hex, hsc] at hcode
  rw [bnd_ok hev] at hcode
  simp -implicitDefEqProofs only [hb2, bnd_some, ha2, hc1, bnd_pure, bin_add, hw] at hcode
  rw [← hcode]
  simp only [List.length_append, List.length_singleton, acells_exp]
theorem loop_rrec {n : Nat} (IH : EvR p full nm n) (own : Int) (ns : List Str) (vs : List Val) (en : List Str) (e : Exp) (x5 x6 x7 x8 : AV) (hes : ∀ x ∈ e.args, expLim x) (h8 : e.args.length ≤ 8) :
  ∀ (B A : List Exp) (acc : List Val) (m : Ms) (h : Hp), A ++ B = e.args → acc.length = A.length → (∀ v ∈ acc, Rv v) → en.length ≤ 8 → RepR p full nm 0 m h → GoodM p m → m.fuel ≤ n → Sc p own ns vs m →
  OutR p full nm ((listX (evalX p n own ns vs) B).bind (fun ws => if levelV (.mk 2 0 en (acc ++ ws)) ≤ 4 then .ok (.mk 2 0 en (acc ++ ws)) else .er 6) m)
   (fixW (L84_0 (callW pg) fixW) [.hp 0 0, .ip (acells (scopeAv own ns vs)), .ip (acells e.av), .int .i64 A.length, x5, x6, x7, x8, .int .i64 2, .int .i64 0, strs en, vals acc] h)
 | [], A, acc, m, h, e0, ha, hr, hen, R, G, hn, hs => by
  simp only [List.append_nil] at e0
  subst e0
  have hsz : (Val.mk 2 0 en acc).sz ≤ 4611686018427387904 := by
   have h2 := vals_right_sz acc hr
   simp only [Val.sz]
   have : acc.length * 200000 ≤ 8 * 200000 := Nat.mul_le_mul_right _ (by omega)
   omega
  have hlv := t100 (.mk 2 0 en acc) hsz
  rw [Val.av_eq] at hlv
  simp only [Val.kind_mk, Val.n_mk, Val.names_mk, Val.values_mk] at hlv
  have hw : (bnd (cellsNil 4 [] (AV.agg [.int .i64 2, .int .i64 0, strs en, vals acc])) (fun w => M.pure (AV.agg [nth (acells w) 0, nth (acells w) 1, nth (acells w) 2, nth (acells w) 3])) : M AV) = M.pure (Val.mk 2 0 en acc).av := by
   have h1 := cn4 (Val.mk 2 0 en acc)
   have h2 := wrap4r (Val.mk 2 0 en acc)
   rw [Val.av_eq] at h1 h2 ⊢
   rw [show (AV.agg [.int .i64 2, .int .i64 0, strs en, vals acc]) = .agg [.int .i64 (Val.mk 2 0 en acc).kind, .int .i64 (Val.mk 2 0 en acc).n, strs (Val.mk 2 0 en acc).names, vals (Val.mk 2 0 en acc).values] from rfl, h1, bnd_pure, h2]
  have hl1 : lenA T 26 (exps e.args) = some (.int .i64 e.args.length) := LENE26 _
  simp only [listX, xbind_ok, List.append_nil]
  generalize hcode : fixW (L84_0 (callW pg) fixW) [.hp 0 0, .ip (acells (scopeAv own ns vs)), .ip (acells e.av), .int .i64 e.args.length, x5, x6, x7, x8, .int .i64 2, .int .i64 0, strs en, vals acc] h = code
  rw [FL84_0] at hcode
  simp -implicitDefEqProofs only [L84_0, nth_zero, nth_succ, acells_exp, FA28_5, List.drop_succ_cons, List.drop_zero, LD26, hl1, bin_lss, bnd_some, condM_bool, Int.lt_irrefl, decide_false, Bool.false_eq_true, if_false, nilChkA_hp, FH95_1, FH43_0, Nat.zero_add, Nat.add_zero, R.lErr, err_eq, beq_self_eq_true, hlv, bin_gtr, guardM_pure1, bnd_pure, pickA_and, Bool.true_and, hw] at hcode
  rw [← hcode]
  by_cases h4 : levelV (.mk 2 0 en acc) ≤ 4
  ·have h4' : ¬ (4 < ((min (levelV (.mk 2 0 en acc)) 6 : Nat) : Int)) := by omega
   simp only [h4, h4', decide_false, Bool.false_eq_true, if_true, if_false]
   exact out_ok R
  ·have h4' : (4 < ((min (levelV (.mk 2 0 en acc)) 6 : Nat) : Int)) := by omega
   simp only [h4, h4', decide_true, if_true, if_false]
   exact out_fail R 6 (by decide)
 | x :: B, A, acc, m, h, e0, ha, hr, hen, R, G, hn, hs => by
  have hll : A.length + (B.length + 1) = e.args.length := by rw [← e0]; simp
  have h1 : (A.length : Int) < (e.args.length : Int) := by omega
  have hx : e.args[A.length]'(by omega) = x := by simp [← e0]
  have hm : x ∈ e.args := by rw [← e0]; simp
  have hi := IX26 (l := e.args) (n := (A.length : Int)) (by omega) h1
  rw [show ((A.length : Int)).toNat = A.length by omega, getElem!_pos e.args A.length (by omega), hx] at hi
  have hl1 : lenA T 26 (exps e.args) = some (.int .i64 e.args.length) := LENE26 _
  have hex : loadA T 28 (.ip (acells x.av)) = some x.av := by simp
  have hsc : loadA T 101 (.ip (acells (scopeAv own ns vs))) = some (scopeAv own ns vs) := rfl
  have hb2 : ∀ v : Val, buildSliceA T 23 1 [(0, v.av)] = some (vals [v]) := fun v => by rw [v.av_eq]; simp [vals, valsAv, v.av_eq]; rfl
  have ha2 : ∀ v : Val, appA T 23 (vals acc) (vals [v]) = some (vals (acc ++ [v])) := fun v => AP23 (by simp; omega)
  have hc1 : ∀ l, cell1M (vals l) = M.pure (vals l) := fun _ => rfl
  have hw : IntKind.i64.wrap ((A.length : Int) + 1) = ((A.length + 1 : Nat) : Int) := wrap_add1 (by omega)
  generalize hcode : fixW (L84_0 (callW pg) fixW) [.hp 0 0, .ip (acells (scopeAv own ns vs)), .ip (acells e.av), .int .i64 A.length, x5, x6, x7, x8, .int .i64 2, .int .i64 0, strs en, vals acc] h = code
  rw [FL84_0] at hcode
  simp -implicitDefEqProofs only [L84_0, nth_zero, nth_succ, acells_exp e, FA28_5, List.drop_succ_cons, List.drop_zero, LD26, hl1, bin_lss, bnd_some, condM_bool, h1, decide_true, if_true, hi, hex, hsc] at hcode
  rw [← hcode]
  simp only [listX, xbind_assoc, xbind_ok]
  refine outR_bind (IH own ns vs x m h R G hn hs (hes x hm)) (fun a s h => eval_ne h) (fun v s h' hv Rs => ?_) (fun a s w h' hc RE => ?_)
  ·obtain ⟨G2, rv, f2⟩ := G.eval hs.right hv
   simp only [hb2, bnd_some, ha2, hc1, bnd_pure, bin_add, hw]
   have ih := loop_rrec IH own ns vs en e x5 x6 x7 x8 hes h8 B (A ++ [x]) (acc ++ [v]) s h' (by rw [← e0]; simp) (by simp [ha]) (fun w hw => by
    rcases List.mem_append.1 hw with k | k
    ·exact hr w k
    ·simp only [List.mem_singleton] at k; subst k; exact rv) hen Rs G2 (by omega) (hs.less f2)
   simp only [List.append_assoc, List.singleton_append, List.length_append, List.length_singleton, acells_exp] at ih
   exact ih
  ·simp only [hb2, bnd_some, ha2, hc1, bnd_pure, bin_add, hw]
   obtain ⟨w', ih⟩ := rec_er hc RE own ns vs en e h8 x5 x6 x7 x8 B (A ++ [x]) (acc ++ [w]) (by rw [← e0]; simp) (by simp [ha])
   simp only [List.length_append, List.length_singleton, acells_exp] at ih
   exact ⟨w', h', ih, RE⟩
theorem t84 {n : Nat} (IH : EvR p full nm n) (own : Int) (ns : List Str) (vs : List Val) (e : Exp) (R : RepR p full nm 0 m h) (G : GoodM p m) (hn : m.fuel ≤ n) (hs : Sc p own ns vs m) (he : expLim e) : OutR p full nm (recordX (evalX p n own ns vs) e m) (callW pg 84 [.hp 0 0, scopeAv own ns vs, e.av] h) := by
 obtain ⟨l1, l2⟩ := expLim_names he
 unfold recordX
 have ha := t91 e.names (by omega)
 have hB : buildA T true 39 [(0, .int .i64 2), (2, strs e.names)] = some (.agg [.int .i64 2, .int .i64 0, strs e.names, .hn]) := rfl
 have hC : cellsNil 4 [3] (.agg [.int .i64 2, .int .i64 0, strs e.names, .hn]) = M.pure (.agg [.int .i64 2, .int .i64 0, strs e.names, .hn]) := rfl
 have hz1 : buildSliceA T 25 0 [] = some (strs []) := rfl
 have a1 := AP25 (a := []) (b := e.names) (by simp; omega)
 rw [List.nil_append] at a1
 generalize hcode : callW pg 84 [.hp 0 0, scopeAv own ns vs, e.av] h = code
 rw [C84] at hcode
 simp -implicitDefEqProofs only [S84, acells_exp, FA28_4, FA28_5, List.drop_succ_cons, List.drop_zero, LD25, LD26, LENE25, LENE26, bnd_some, bin_neq, ha, bnd_pure, guardM_pure1, nth_zero, nth_succ, unA_not, pickA_or, condM_bool, bin_gtr, hz1, a1, hB, hC, acells_agg] at hcode
 rw [← hcode]
 by_cases hl : e.names.length = e.args.length
 ·by_cases hasc : asc e.names = true
  ·have e1 : (((e.names.length : Int) != (e.args.length : Int)) || !asc e.names) = false := by simp [hl, hasc]
   simp only [e1, Bool.false_eq_true, if_false, if_pos (And.intro hl hasc)]
   by_cases h8 : e.names.length ≤ 8
   ·have h8' : decide ((8 : Int) < (e.names.length : Int)) = false := by simp; omega
    simp only [h8', Bool.false_eq_true, if_false, if_pos h8]
    have := loop_rrec IH own ns vs e.names e (.int .i64 0) (.int .i64 0) (.sl []) (.sl []) (fun x hx => expLim_arg he hx) (by omega) e.args [] [] m h rfl rfl (fun v hv => by cases hv) h8 R G hn hs
    simp only [List.nil_append, acells_exp] at this
    exact this
   ·have h8' : decide ((8 : Int) < (e.names.length : Int)) = true := by simp; omega
    simp only [h8', if_true, if_neg h8]
    exact out_fail R 6 (by decide)
  ·have e1 : (((e.names.length : Int) != (e.args.length : Int)) || !asc e.names) = true := by simp [hasc]
   have hx : ¬ (e.names.length = e.args.length ∧ asc e.names = true) := fun h => hasc h.2
   simp only [e1, if_true, if_neg hx]
   exact out_fail R 13 (by decide)
 ·have e1 : (((e.names.length : Int) != (e.args.length : Int)) || !asc e.names) = true := by
   have : ((e.names.length : Int) != (e.args.length : Int)) = true := by simp; omega
   rw [this]; rfl
  have hx : ¬ (e.names.length = e.args.length ∧ asc e.names = true) := fun h => hl h.1
  simp only [e1, if_true, if_neg hx]
  exact out_fail R 13 (by decide)
end
end Go.Proofs.Ytgbopmciiadmlaa

namespace Go.Proofs.Ytgbopmciiadmlaa
open Go Go.Av Go.Av.Ap
section
variable {p : List Mod} {full : List Int} {nm : SNm} {m : Ms} {h : Hp}
theorem lCalls (R : RepR p full nm 0 m h) : ∃ dv cv sv tag, RepT (rowR nm.told p full 0) nm tag dv cv sv m h ∧ ∀ g : AV → M AV, bnd (loadH T 41 (.hp 0 7)) g h = g cv h := by
 obtain ⟨tag, dv, cv, sv, R0⟩ := R.rep
 exact ⟨dv, cv, sv, tag, R0, fun g => bnd_ok (loadH_one rfl rfl R0.r0 rfl)⟩
theorem okEl_callR (s t : Str) (v : AV) (h : okCell v = true) : okEl 3 (.agg [.str s, .str t, v]) = true := by
 simp only [okEl, sizeA, acells, List.all_cons, List.all_nil]
 rw [h]
 rfl
theorem push_callR (R : RepR p full nm 0 m h) (c : Ap.Call) (hb : m.calls.length ≤ 2000000) :
  ∃ cv cv' h1 h2, (∀ g : AV → M AV, bnd (loadH T 41 (.hp 0 7)) g h = g cv h) ∧ (∀ g : AV → M AV, bnd (appH T 41 false cv (.sl [.agg [.str c.module, .str c.func, vals c.args]])) g h = g cv' h1) ∧ (∀ g : AV → M AV, bnd (storeH T 41 (.hp 0 7) cv') g h1 = g (.tup []) h2) ∧ RepR p full nm 0 { m with calls := m.calls ++ [c] } h2 := by
 obtain ⟨dv, cv, sv, tag, R0, l1⟩ := lCalls R
 obtain ⟨h1, cv', tag', e1, K, H, hc⟩ := push_row (T := T) (t := 41) rfl rfl rfl rfl (by decide) rfl (by decide) (x := .agg [.str c.module, .str c.func, vals c.args]) R0.cs (fun h0 => by
  have : m.calls = [] := List.eq_nil_of_length_eq_zero h0
  rw [this]; rfl) (fun cs h => h.ok.1) (okEl_callR _ _ _ rfl) (show (m.calls.length + 1) * 56 ≤ 140737488355328 by omega)
 have h0 := (K 0 _ R0.r0 (by rw [R0.t0]; decide)).1
 have hac : acells cv' = [cv'] := (okCell_one hc).2.1
 have := R0.pushCall (m' := { m with calls := m.calls ++ [c] }) (c := c) K (.inl rfl) H rfl rfl rfl id
 refine ⟨cv, cv', h1, _, l1, fun g => bnd_ok e1, fun g => bnd_ok (storeH_ok rfl h0 (okCell_one hc).1 (show 7 + 1 ≤ 13 by decide) (by decide)), R.sub, R.tld, tag', dv, cv', sv, ?_⟩
 rw [hac]
 exact this
theorem loop_with (x0 : AV) (f : Fun) (a : Int) (l : List Val) (y4 y5 y6 y7 : AV) (hl : l.length = f.params.length) (hb : f.params.length ≤ 274877906944) : ∀ (n i : Nat), l.length - i = n → i ≤ l.length →
  fixW (L47_0 (callW pg) fixW) [x0, vals l, .ip (acells f.av), .int .i64 i, y4, y5, y6, y7, .int .i64 a, strs ((f.params.take i).map (·.1)), vals (l.take i)] = fixW (L47_0 (callW pg) fixW) [x0, vals l, .ip (acells f.av), .int .i64 l.length, y4, y5, y6, y7, .int .i64 a, strs (f.params.map (·.1)), vals l] := by
 intro n
 induction n with
 | zero =>
  intro i hn hi
  obtain rfl : i = l.length := by omega
  rw [List.take_length, List.take_of_length_le (by omega)]
 | succ n ih =>
  intro i hn hi
  have hlt : i < l.length := by omega
  have hlt2 : i < f.params.length := by omega
  rw [← ih (i + 1) (by omega) (by omega)]
  have h1 : (i : Int) < (l.length : Int) := by omega
  have hix := IX23 (l := l) (n := (i : Int)) (by omega) h1
  rw [show ((i : Int)).toNat = i by omega, getElem!_pos l i hlt] at hix
  have hip := IX58 (l := f.params) (n := (i : Int)) (by omega) (by omega)
  rw [show ((i : Int)).toNat = i by omega, getElem!_pos f.params i hlt2] at hip
  have hw := t72 a ((f.params.take i).map (·.1)) (l.take i) f.params[i].1 l[i] (by simp; omega) (by simp; omega)
  have hsv : (AV.agg [.int .i64 a, strs ((f.params.take i).map (·.1)), vals (l.take i)]) = scopeAv a ((f.params.take i).map (·.1)) (l.take i) := rfl
  have hll : lenA T 23 (vals l) = some (.int .i64 l.length) := LENE23 _
  have hps : loadA T 58 (.ip ((acells f.av).drop 2)) = some (flds f.params) := by simp
  have hfn : loadA T 9 (.ip ((acells (fldAv f.params[i])).drop 0)) = some (.str f.params[i].1) := by simp
  have hld : loadA T 39 (.ip (acells l[i].av)) = some l[i].av := by simp
  have hcn : ∀ o ns vs, cellsNil 3 [] (scopeAv o ns vs) = M.pure (scopeAv o ns vs) := fun _ _ _ => rfl
  have hwi : IntKind.i64.wrap ((i : Int) + 1) = ((i + 1 : Nat) : Int) := wrap_add1 (by omega)
  have e1 : (f.params.take (i + 1)).map (·.1) = (f.params.take i).map (·.1) ++ [f.params[i].1] := by rw [List.take_succ_eq_append_getElem hlt2, List.map_append]; rfl
  have e2 : l.take (i + 1) = l.take i ++ [l[i]] := List.take_succ_eq_append_getElem hlt
  rw [FL47_0, e1, e2]
  simp only [L47_0, nth_zero, nth_succ, hll, bin_lss, bnd_some, condM_bool, h1, decide_true, if_true, FA67_2, hps, hip, FA104_0, hfn, hix, hld, hsv, hw, noPan_pure, bnd_pure, hcn, acells_scope, bin_add, hwi]
theorem enter_tailR {n : Nat} (LB : LimB p) (IH : EvR p full nm n) (a : Int) (f : Fun) (l : List Val) (m : Ms) (h0 : 0 ≤ a) (ha : a < p.length) (hf : f ∈ (p[a.toNat]?.getD default).funcs) (hl : l.length = f.params.length) (hr : ∀ v ∈ l, Rv v) (G : GoodM p m) (hmu : mu m < 1000000) (hn : m.fuel ≤ n) (y4 y5 y6 y7 : AV) :
  ∀ (m1 : Ms) (h1 : Hp), RepR p full nm 0 m1 h1 → m1 = { m with calls := if f.pub = true then m.calls ++ [⟨(p[a.toNat]?.getD default).name, f.name, l⟩] else m.calls } → m.frames < 60 →
   OutR p full nm (((evalX p n a (f.params.map (·.1)) l f.body).bind fun v => .upd (fun m => { m with frames := m.frames - 1 }) (.ok v)) (entM p a f l m))
    (K47_0 (callW pg) fixW [.hp 0 0, .int .i64 a, vals l, .ip (acells f.av), y4, y5, y6, y7] h1) := by
 have hlt : a.toNat < p.length := by omega
 have hmp : p[a.toNat]?.getD default ∈ p := by rw [List.getElem?_eq_getElem hlt]; exact List.getElem_mem hlt
 obtain ⟨hbody, hparams⟩ := LB.body _ hmp f hf
 have hfb := G.bud
 have hfu := G.fuel
 have hfr := G.fr
 intro m1 h1 R1 e1 h60
 have hB : buildA T false 101 [(0, .int .i64 a)] = some (scopeAv a [] []) := rfl
 have hcn : ∀ o ns vs, cellsNil 3 [] (scopeAv o ns vs) = M.pure (scopeAv o ns vs) := fun _ _ _ => rfl
 have hloop := loop_with (.hp 0 0) f a l y4 y5 y6 y7 hl hparams _ 0 rfl (by omega)
 have hw1 : IntKind.i64.wrap (m.frames + 1) = m.frames + 1 := wrap_in (by omega) (by omega)
 obtain ⟨h2, s2, R2⟩ := R1.sFrames (m.frames + 1)
 have e2 : { m1 with frames := m.frames + 1 } = entM p a f l m := by rw [e1]; rfl
 have hm1f : m1.frames = m.frames := by rw [e1]
 rw [e2] at R2
 have l2 := R1.lFrames
 rw [hm1f] at l2
 have hex : loadA T 28 (.ip ((acells f.av).drop 6)) = some f.body.av := by simp
 have hll : lenA T 23 (vals l) = some (.int .i64 l.length) := LENE23 _
 have hm2 : (if f.pub = true then m.calls ++ [(⟨(p[a.toNat]?.getD default).name, f.name, l⟩ : Ap.Call)] else m.calls).length ≤ m.calls.length + 1 := by
  split
  ·simp
  ·omega
 have G2 : GoodM p (entM p a f l m) := by
  refine ⟨⟨G.right.1, fun c hc => ?_⟩, ?_, by simp only [entM]; omega, hfu, G.shape⟩
  ·simp only [entM] at hc
   split at hc
   ·rcases List.mem_append.1 hc with k | k
    ·exact G.right.2 c k
    ·simp only [List.mem_singleton] at k
     subst k
     exact hr
   ·exact G.right.2 c hc
  ·simp only [mu, entM] at hmu ⊢
   omega
 have hns : ((f.params.map (·.1)).length : Int) + (entM p a f l m).fuel ≤ 549755813888 := by
  simp only [List.length_map, entM]
  simp only [mu] at hfb
  omega
 have hsv : (AV.agg [.int .i64 a, strs (f.params.map (·.1)), vals l]) = scopeAv a (f.params.map (·.1)) l := rfl
 generalize hcode : K47_0 (callW pg) fixW [.hp 0 0, .int .i64 a, vals l, .ip (acells f.av), y4, y5, y6, y7] h1 = code
 simp -implicitDefEqProofs only [K47_0, nth_zero, nth_succ, hB, bnd_some, hcn, bnd_pure, acells_scope] at hcode
 have hloop' : fixW (L47_0 (callW pg) fixW) [.hp 0 0, vals l, .ip (acells f.av), .int .i64 0, y4, y5, y6, y7, .int .i64 a, strs [], vals []] = _ := hloop
 rw [hloop', FL47_0] at hcode
 simp -implicitDefEqProofs only [L47_0, nth_zero, nth_succ, hll, bin_lss, bnd_some, condM_bool, Int.lt_irrefl, decide_false, Bool.false_eq_true, if_false, nilChkA_hp, FH95_5, Nat.zero_add, l2, bin_add, hw1, s2, FA67_5, hex, hsv] at hcode
 rw [← hcode]
 refine outR_bind (IH a (f.params.map (·.1)) l f.body _ _ R2 G2 hn ⟨ha, ⟨by simp [hl], hr⟩, hns⟩ hbody) (fun a s h => eval_ne h) (fun v s h3 hv R3 => ?_) (fun c s w h3 hc RE => ?_)
 ·obtain ⟨G3, _, _⟩ := G2.eval ⟨by simp [hl], hr⟩ hv
  obtain ⟨h4, s4, R4⟩ := R3.sFrames (s.frames - 1)
  have hfr3 := G3.fr
  have hw2 : IntKind.i64.wrap (s.frames - 1) = s.frames - 1 := wrap_in (by omega) (by omega)
  have hvl : loadA T 39 (.ip (acells v.av)) = some v.av := by simp
  generalize hcode2 : bnd (cellsM 4 v.av) _ h3 = code2
  simp -implicitDefEqProofs only [okEl_c, bnd_pure, acells_agg, bnd_some, R3.lFrames, bin_sub, hw2, s4] at hcode2
  have hvl' : loadA T 39 (.ip (acells (AV.agg (acells v.av)))) = some v.av := hvl
  simp -implicitDefEqProofs only [hvl, bnd_some, cn4, bnd_pure, wrap4r] at hcode2
  rw [← hcode2]
  exact ⟨h4, rfl, R4⟩
 ·obtain ⟨s', R3, k1, k2, k3⟩ := RE
  obtain ⟨h4, s4, R4⟩ := R3.sFrames (IntKind.i64.wrap (s'.frames - 1))
  have hvl : loadA T 39 (.ip (acells w.av)) = some w.av := by simp
  refine ⟨w, h4, ?_, _, R4, k1, k2, k3⟩
  generalize hcode2 : bnd (cellsM 4 w.av) _ h3 = code2
  simp -implicitDefEqProofs only [okEl_c, bnd_pure, acells_agg, bnd_some, R3.lFrames, bin_sub, s4] at hcode2
  simp -implicitDefEqProofs only [hvl, bnd_some, cn4, bnd_pure, wrap4r] at hcode2
  rw [← hcode2]
  rfl
theorem t47 {n : Nat} (LB : LimB p) (IH : EvR p full nm n) (a : Int) (f : Fun) (l : List Val) (R : RepR p full nm 0 m h) (h0 : 0 ≤ a) (ha : a < p.length) (hf : f ∈ (p[a.toNat]?.getD default).funcs) (hl : l.length = f.params.length) (hr : ∀ v ∈ l, Rv v) (G : GoodM p m) (hmu : mu m < 1000000) (hn : m.fuel ≤ n) :
  OutR p full nm (enterX p (evalX p n) a f l m) (callW pg 47 [.hp 0 0, .int .i64 a, f.av, vals l] h) := by
 have hlt : a.toNat < p.length := by omega
 have hmp : p[a.toNat]?.getD default ∈ p := by rw [List.getElem?_eq_getElem hlt]; exact List.getElem_mem hlt
 obtain ⟨hbody, hparams⟩ := LB.body _ hmp f hf
 have hfb := G.bud
 have hfu := G.fuel
 have tail := enter_tailR LB IH a f l m h0 ha hf hl hr G hmu hn (.int .i64 0) (.int .i64 0) (.sl []) (.sl [])
 have hpv : pvOf nm.told p = mods p := pvOf_ne (fun e => by subst e; simp at hlt)
 have hfp : loadA T 4 (.ip ((acells f.av).drop 1)) = some (.bool f.pub) := by simp
 have hfn : loadA T 9 (.ip ((acells f.av).drop 0)) = some (.str f.name) := by simp
 generalize hcode : callW pg 47 [.hp 0 0, .int .i64 a, f.av, vals l] h = code
 rw [C47] at hcode
 simp -implicitDefEqProofs only [S47, nilChkA_hp, bnd_some, FH95_1, FH43_0, FH95_5, Nat.zero_add, Nat.add_zero, R.lErr, err_ne, bne_self_eq_false, condM_bool, Bool.false_eq_true, if_false, R.lFrames, bin_geq] at hcode
 by_cases h60 : m.frames < 60
 ·have hd : decide (60 ≤ m.frames) = false := by simp; omega
  rw [enterX_eq, if_pos h60]
  simp -implicitDefEqProofs only [hd, Bool.false_eq_true, if_false, jn_def, FA67_1, hfp, bnd_some, condM_bool] at hcode
  by_cases hp : f.pub = true
  ·simp only [hp, if_true] at hcode tail
   have hi := IX22 (l := p) (n := a) h0 ha
   rw [getElem!_pos p a.toNat hlt] at hi
   have e3 : p[a.toNat]?.getD default = p[a.toNat] := by rw [List.getElem?_eq_getElem hlt]; rfl
   obtain ⟨cv, cv', h1, h2, c1, c2, c3, R2⟩ := push_callR R ⟨p[a.toNat].name, f.name, l⟩ (by simp only [mu] at hmu; omega)
   have hB : buildA T false 69 [(0, .str p[a.toNat].name), (1, .str f.name), (2, vals l)] = some (.agg [.str p[a.toNat].name, .str f.name, vals l]) := build_call _ _ _ rfl
   have hBS := buildS_call (.agg [.str p[a.toNat].name, .str f.name, vals l]) rfl
   have hz1 : buildSliceA T 23 0 [] = some (vals []) := rfl
   have a1 := AP23 (a := []) (b := l) (by simp; omega)
   rw [List.nil_append] at a1
   simp -implicitDefEqProofs only [bnd_some, FH95_0, FH43_3, Nat.zero_add, Nat.reduceAdd, c1, R.lProg, hpv, hi, acells_mod, FA63_0, List.drop_zero, LD9, FA67_0, hz1, a1] at hcode
   simp -implicitDefEqProofs only [acells_fun, LD9, bnd_some, hB, hBS, c2, c3] at hcode tail
   rw [← hcode]
   exact tail _ h2 R2 (by rw [e3]) h60
  ·simp only [hp, Bool.false_eq_true, if_false] at hcode tail
   rw [← hcode]
   exact tail m h R rfl h60
 ·have hd : decide (60 ≤ m.frames) = true := by simp; omega
  rw [enterX_eq, if_neg h60]
  simp -implicitDefEqProofs only [hd, if_true] at hcode
  rw [← hcode]
  exact out_fail R 6 (by decide)
end
end Go.Proofs.Ytgbopmciiadmlaa

namespace Go.Proofs.Ytgbopmciiadmlaa
open Go Go.Av Go.Av.Ap
section
variable {p : List Mod} {full : List Int} {nm : SNm} {m : Ms} {h : Hp}
theorem rmod_pv (LB : LimB p) (t : Bool) (s : Str) : callW pg 44 [pvOf t p, .str s] = M.pure (.int .i64 (modAt p s)) := by
 have := t44 p LB.lim.len s
 by_cases hp : p = []
 ·subst hp
  cases t with
  | false => exact this
  | true =>
   rw [C44] at this ⊢
   exact this
 ·rw [pvOf_ne hp]; exact this
theorem rfun_pv (LB : LimB p) (t : Bool) (a : Int) (ha : a < p.length) (s : Str) : callW pg 45 [pvOf t p, .int .i64 a, .str s] = M.pure (.int .i64 (if a < 0 then -1 else funAt (p[a.toNat]?.getD default).funcs s)) := by
 have := t45 p LB.lim.len (fun m hm => (LB.lim.funcs m hm).1) a ha s
 by_cases hp : p = []
 ·subst hp
  cases t with
  | false => exact this
  | true =>
   rw [C45] at this ⊢
   exact this
 ·rw [pvOf_ne hp]; exact this
theorem call_er {c : Int} (hc : c ≠ 0) (R : ErrR p full nm c m h) (own : Int) (ns : List Str) (vs : List Val) (a : Int) (f : Fun) (e : Exp) (hb : e.args.length ≤ 274877906944) (y7 y8 y9 y10 : AV) :
  ∀ (B A : List Exp) (acc : List Val), A ++ B = e.args → acc.length = A.length → ∃ w : Val, fixW (L85_0 (callW pg) fixW) [.hp 0 0, .ip (acells (scopeAv own ns vs)), .ip (acells e.av), .int .i64 a, .ip (acells f.av), vals acc, .int .i64 A.length, y7, y8, y9, y10] h = .ok w.av h
 | [], A, acc, e0, ha => by
  simp only [List.append_nil] at e0
  subst e0
  refine ⟨default, ?_⟩
  have hl1 : lenA T 26 (exps e.args) = some (.int .i64 e.args.length) := LENE26 _
  have hfl : loadA T 67 (.ip (acells f.av)) = some f.av := by simp
  have hen := enter_er hc R (.int .i64 a) f.av (vals acc)
  generalize hcode : fixW (L85_0 (callW pg) fixW) [.hp 0 0, .ip (acells (scopeAv own ns vs)), .ip (acells e.av), .int .i64 a, .ip (acells f.av), vals acc, .int .i64 e.args.length, y7, y8, y9, y10] h = code
  rw [FL85_0] at hcode
  simp -implicitDefEqProofs only [L85_0, nth_zero, nth_succ, acells_exp, FA28_5, List.drop_succ_cons, List.drop_zero, LD26, hl1, bin_lss, bnd_some, condM_bool, Int.lt_irrefl, decide_false, Bool.false_eq_true, if_false, hfl] at hcode
  rw [bnd_ok hen, cn4, bnd_pure, wrap4r] at hcode
  rw [← hcode]
  rfl
 | x :: B, A, acc, e0, ha => by
  have hll : A.length + (B.length + 1) = e.args.length := by rw [← e0]; simp
  have h1 : (A.length : Int) < (e.args.length : Int) := by omega
  have hx : e.args[A.length]'(by omega) = x := by simp [← e0]
  have hi := IX26 (l := e.args) (n := (A.length : Int)) (by omega) h1
  rw [show ((A.length : Int)).toNat = A.length by omega, getElem!_pos e.args A.length (by omega), hx] at hi
  have hl1 : lenA T 26 (exps e.args) = some (.int .i64 e.args.length) := LENE26 _
  have hex : loadA T 28 (.ip (acells x.av)) = some x.av := by simp
  have hsc : loadA T 101 (.ip (acells (scopeAv own ns vs))) = some (scopeAv own ns vs) := rfl
  have hev := eval_er hc R (scopeAv own ns vs) x.av
  have hb2 : buildSliceA T 23 1 [(0, (default : Val).av)] = some (vals [default]) := rfl
  have ha2 : appA T 23 (vals acc) (vals [default]) = some (vals (acc ++ [default])) := AP23 (by simp; omega)
  have hw : IntKind.i64.wrap ((A.length : Int) + 1) = ((A.length + 1 : Nat) : Int) := wrap_add1 (by omega)
  obtain ⟨w, ih⟩ := call_er hc R own ns vs a f e hb y7 y8 y9 y10 B (A ++ [x]) (acc ++ [default]) (by rw [← e0]; simp) (by simp [ha])
  refine ⟨w, ?_⟩
  rw [← ih]
  generalize hcode : fixW (L85_0 (callW pg) fixW) [.hp 0 0, .ip (acells (scopeAv own ns vs)), .ip (acells e.av), .int .i64 a, .ip (acells f.av), vals acc, .int .i64 A.length, y7, y8, y9, y10] h = code
  rw [FL85_0] at hcode
  simp -implicitDefEqProofs only [L85_0, nth_zero, nth_succ, acells_exp e, FA28_5, List.drop_succ_cons, List.drop_zero, LD26, hl1, bin_lss, bnd_some, condM_bool, h1, decide_true, if_true, hi, hex, hsc] at hcode
  rw [bnd_ok hev] at hcode
  simp -implicitDefEqProofs only [hb2, bnd_some, ha2, bin_add, hw] at hcode
  rw [← hcode]
  simp only [List.length_append, List.length_singleton, acells_exp]
theorem loop_rcall {n : Nat} (LB : LimB p) (IH : EvR p full nm n) (own : Int) (ns : List Str) (vs : List Val) (a : Int) (f : Fun) (e : Exp) (y7 y8 y9 y10 : AV) (h0 : 0 ≤ a) (hat : a < p.length) (hf : f ∈ (p[a.toNat]?.getD default).funcs) (hes : ∀ x ∈ e.args, expLim x) (hb : e.args.length ≤ 274877906944) (hlen : e.args.length = f.params.length) :
  ∀ (B A : List Exp) (acc : List Val) (m : Ms) (h : Hp), A ++ B = e.args → acc.length = A.length → (∀ v ∈ acc, Rv v) → RepR p full nm 0 m h → GoodM p m → mu m < 1000000 → m.fuel ≤ n → Sc p own ns vs m →
  OutR p full nm ((listX (evalX p n own ns vs) B).bind (fun ws => enterX p (evalX p n) a f (acc ++ ws)) m)
   (fixW (L85_0 (callW pg) fixW) [.hp 0 0, .ip (acells (scopeAv own ns vs)), .ip (acells e.av), .int .i64 a, .ip (acells f.av), vals acc, .int .i64 A.length, y7, y8, y9, y10] h)
 | [], A, acc, m, h, e0, hac, hr, R, G, hmu, hn, hs => by
  simp only [List.append_nil] at e0
  subst e0
  have hfl : loadA T 67 (.ip (acells f.av)) = some f.av := by simp
  have hl1 : lenA T 26 (exps e.args) = some (.int .i64 e.args.length) := LENE26 _
  have IE' := t47 LB IH a f acc R h0 hat hf (by omega) hr G hmu hn
  generalize hcode : fixW (L85_0 (callW pg) fixW) [.hp 0 0, .ip (acells (scopeAv own ns vs)), .ip (acells e.av), .int .i64 a, .ip (acells f.av), vals acc, .int .i64 e.args.length, y7, y8, y9, y10] h = code
  rw [FL85_0] at hcode
  simp -implicitDefEqProofs only [L85_0, nth_zero, nth_succ, acells_exp, FA28_5, List.drop_succ_cons, List.drop_zero, LD26, hl1, bin_lss, bnd_some, condM_bool, Int.lt_irrefl, decide_false, Bool.false_eq_true, if_false, hfl] at hcode
  simp only [listX, xbind_ok, List.append_nil]
  rw [← hcode]
  generalize enterX p (evalX p n) a f acc m = r at IE' ⊢
  cases r with
  | ok v s =>
   obtain ⟨h', e1, R'⟩ := IE'
   rw [bnd_ok e1, cn4, bnd_pure, wrap4r]
   exact ⟨h', rfl, R'⟩
  | er c s =>
   obtain ⟨w, h', e1, R'⟩ := IE'
   rw [bnd_ok e1, cn4, bnd_pure, wrap4r]
   exact ⟨w, h', rfl, R'⟩
 | x :: B, A, acc, m, h, e0, hac, hr, R, G, hmu, hn, hs => by
  have hll : A.length + (B.length + 1) = e.args.length := by rw [← e0]; simp
  have h1 : (A.length : Int) < (e.args.length : Int) := by omega
  have hx : e.args[A.length]'(by omega) = x := by simp [← e0]
  have hm : x ∈ e.args := by rw [← e0]; simp
  have hi := IX26 (l := e.args) (n := (A.length : Int)) (by omega) h1
  rw [show ((A.length : Int)).toNat = A.length by omega, getElem!_pos e.args A.length (by omega), hx] at hi
  have hl1 : lenA T 26 (exps e.args) = some (.int .i64 e.args.length) := LENE26 _
  have hex : loadA T 28 (.ip (acells x.av)) = some x.av := by simp
  have hsc : loadA T 101 (.ip (acells (scopeAv own ns vs))) = some (scopeAv own ns vs) := rfl
  have hb2 : ∀ v : Val, buildSliceA T 23 1 [(0, v.av)] = some (vals [v]) := fun v => by rw [v.av_eq]; simp [vals, valsAv, v.av_eq]; rfl
  have ha2 : ∀ v : Val, appA T 23 (vals acc) (vals [v]) = some (vals (acc ++ [v])) := fun v => AP23 (by simp; omega)
  have hw : IntKind.i64.wrap ((A.length : Int) + 1) = ((A.length + 1 : Nat) : Int) := wrap_add1 (by omega)
  generalize hcode : fixW (L85_0 (callW pg) fixW) [.hp 0 0, .ip (acells (scopeAv own ns vs)), .ip (acells e.av), .int .i64 a, .ip (acells f.av), vals acc, .int .i64 A.length, y7, y8, y9, y10] h = code
  rw [FL85_0] at hcode
  simp -implicitDefEqProofs only [L85_0, nth_zero, nth_succ, acells_exp e, FA28_5, List.drop_succ_cons, List.drop_zero, LD26, hl1, bin_lss, bnd_some, condM_bool, h1, decide_true, if_true, hi, hex, hsc] at hcode
  rw [← hcode]
  simp only [listX, xbind_assoc, xbind_ok]
  refine outR_bind (IH own ns vs x m h R G hn hs (hes x hm)) (fun a s h => eval_ne h) (fun v s h' hv Rs => ?_) (fun c s w h' hc RE => ?_)
  ·obtain ⟨G2, rv, f2⟩ := G.eval hs.right hv
   obtain ⟨t1, _⟩ := tq_eval n own ns vs x m v s G.fuel hv
   simp only [hb2, bnd_some, ha2, bin_add, hw]
   have ih := loop_rcall LB IH own ns vs a f e y7 y8 y9 y10 h0 hat hf hes hb hlen B (A ++ [x]) (acc ++ [v]) s h' (by rw [← e0]; simp) (by simp [hac]) (fun w hw => by
    rcases List.mem_append.1 hw with k | k
    ·exact hr w k
    ·simp only [List.mem_singleton] at k; subst k; exact rv) Rs G2 (by omega) (by omega) (hs.less f2)
   simp only [List.append_assoc, List.singleton_append, List.length_append, List.length_singleton, acells_exp] at ih
   exact ih
  ·simp only [hb2, bnd_some, ha2, bin_add, hw]
   obtain ⟨w', ih⟩ := call_er hc RE own ns vs a f e hb y7 y8 y9 y10 B (A ++ [x]) (acc ++ [w]) (by rw [← e0]; simp) (by simp [hac])
   simp only [List.length_append, List.length_singleton, acells_exp] at ih
   exact ⟨w', h', ih, RE⟩
theorem rcall_rest {n : Nat} (LB : LimB p) (IH : EvR p full nm n) (own : Int) (ns : List Str) (vs : List Val) (e : Exp) (a : Int) (hat : a < p.length) (R : RepR p full nm 0 m h) (G : GoodM p m) (hmu : mu m < 1000000) (hn : m.fuel ≤ n) (hs : Sc p own ns vs m) (he : expLim e) (y1 y2 y3 y4 : AV) :
  OutR p full nm ((match funcX p a e.s with
   | none => .er 12
   | some f => if e.m = [] ∨ f.pub = true then
     (if e.args.length = f.params.length then (listX (evalX p n own ns vs) e.args).bind fun l => enterX p (evalX p n) a f l else .er 13)
    else .er 12 : X Val) m)
   (K85_0 (callW pg) fixW [.hp 0 0, .ip (acells (scopeAv own ns vs)), .ip (acells e.av), .int .i64 a, y1, y2, y3, y4] h) := by
 obtain ⟨l1, l2⟩ := expLim_names he
 have hfu := rfun_pv LB nm.told a hat e.s
 generalize hcode : K85_0 (callW pg) fixW [.hp 0 0, .ip (acells (scopeAv own ns vs)), .ip (acells e.av), .int .i64 a, y1, y2, y3, y4] h = code
 simp -implicitDefEqProofs only [K85_0, nth_zero, nth_succ, nilChkA_hp, bnd_some, FH95_0, Nat.zero_add, R.lProg, acells_exp, FA28_2, List.drop_succ_cons, List.drop_zero, LD9, hfu, noPan_pure, bnd_pure, bin_lss, condM_bool] at hcode
 rw [← hcode]
 clear hcode
 by_cases h0 : a < 0
 ·have hx : (if a < 0 then (-1 : Int) else funAt (p[a.toNat]?.getD default).funcs e.s) = -1 := if_pos h0
  have hnone : funcX p a e.s = none := by unfold funcX; rw [if_pos h0]
  rw [hx, hnone]
  simp only [show decide ((-1 : Int) < 0) = true from rfl, if_true]
  exact out_fail R 12 (by decide)
 have hx : (if a < 0 then (-1 : Int) else funAt (p[a.toNat]?.getD default).funcs e.s) = funAt (p[a.toNat]?.getD default).funcs e.s := if_neg h0
 rw [hx]
 have hlt : a.toNat < p.length := by omega
 have e3 : p[a.toNat]?.getD default = p[a.toNat] := by rw [List.getElem?_eq_getElem hlt]; rfl
 have hfd : funcX p a e.s = if funAt (p[a.toNat]?.getD default).funcs e.s < 0 then none else (p[a.toNat]?.getD default).funcs[(funAt (p[a.toNat]?.getD default).funcs e.s).toNat]? := by
  unfold funcX; rw [if_neg h0]
 rw [hfd, e3]
 generalize hI : funAt p[a.toNat].funcs e.s = I
 by_cases hi : I < 0
 ·rw [if_pos hi]
  simp only [hi, decide_true, if_true]
  exact out_fail R 12 (by decide)
 rw [if_neg hi]
 have hil : I < p[a.toNat].funcs.length := by
  rcases idxAt_lt (fun (x : Fun) => x.name == e.s) p[a.toNat].funcs 0 with k | k
  ·have : funAt p[a.toNat].funcs e.s = -1 := k
   omega
  ·have : funAt p[a.toNat].funcs e.s = idxAt (fun (x : Fun) => x.name == e.s) p[a.toNat].funcs 0 := rfl
   omega
 have hit : I.toNat < p[a.toNat].funcs.length := by omega
 rw [List.getElem?_eq_getElem hit]
 have hpv : pvOf nm.told p = mods p := pvOf_ne (fun e => by subst e; simp at hlt)
 have hix := IX22 (l := p) (n := a) (by omega) hat
 rw [getElem!_pos p a.toNat hlt] at hix
 have hif := IX59 (l := p[a.toNat].funcs) (n := I) (by omega) hil
 rw [getElem!_pos _ I.toNat hit] at hif
 have hmem : p[a.toNat].funcs[I.toNat] ∈ (p[a.toNat]?.getD default).funcs := by rw [e3]; exact List.getElem_mem hit
 have hmp : p[a.toNat]?.getD default ∈ p := by rw [e3]; exact List.getElem_mem hlt
 generalize p[a.toNat].funcs[I.toNat] = f at *
 have hfl : loadA T 67 (.ip (acells f.av)) = some f.av := by simp
 have hpub : loadA T 4 (.ip (List.drop 1 (acells f.av))) = some (.bool f.pub) := by simp
 have hpar : loadA T 58 (.ip (List.drop 2 (acells f.av))) = some (flds f.params) := by simp
 have hfs : loadA T 59 (.ip (List.drop 4 (acells p[a.toNat].av))) = some (funs p[a.toNat].funcs) := by simp
 have hgu : guardM (.bool (!(e.m == []))) true 1 (M.pure [.bool !f.pub]) = M.pure [gv (!(e.m == [])) true (.bool !f.pub)] := guardM_pure1 _ _ _
 have hpk : pickA (.bool (!(e.m == []))) (gv (!(e.m == [])) true (.bool !f.pub)) (.bool false) = some (.bool ((!(e.m == [])) && !f.pub)) := pickA_and _ _
 have hlp : lenA T 58 (flds f.params) = some (.int .i64 f.params.length) := LENE58 _
 have hle : lenA T 26 (exps e.args) = some (.int .i64 e.args.length) := LENE26 _
 have hid : decide (I < 0) = false := by simp; omega
 generalize hcode : (if decide (I < 0) = true then _ else _ : M AV) h = code
 simp -implicitDefEqProofs only [hid, Bool.false_eq_true, if_false, bnd_some, R.lProg, hpv, hix, FA63_4, hfs, hif, hfl, cellsM_fun, bnd_pure, acells_agg, FA28_3, List.drop_succ_cons, List.drop_zero, LD9, str_neq, FA67_1, FA67_2, hpub, hpar, unA_not, hgu, nth_zero, hpk, condM_bool, FA28_5, LD26, hlp, hle, bin_neq] at hcode
 rw [← hcode]
 by_cases h1 : e.m = [] ∨ f.pub = true
 ·have h1' : ((!(e.m == [])) && !f.pub) = false := by
   rcases h1 with h1 | h1 <;> simp [h1]
  simp only [h1', Bool.false_eq_true, if_false, if_pos h1]
  by_cases h2 : e.args.length = f.params.length
  ·have h2' : ((f.params.length : Int) != (e.args.length : Int)) = false := by simp [h2]
   simp only [h2', Bool.false_eq_true, if_false, if_pos h2]
   have := loop_rcall LB IH own ns vs a f e y1 y2 y3 y4 (by omega) hat hmem (fun x hx => expLim_arg he hx) l2 h2 e.args [] [] m h rfl rfl (fun v hv => by cases hv) R G hmu hn hs
   simp only [List.nil_append, acells_exp] at this
   exact this
  ·have h2' : ((f.params.length : Int) != (e.args.length : Int)) = true := by simp; omega
   simp only [h2', if_true, if_neg h2]
   exact out_fail R 13 (by decide)
 ·have h1' : ((!(e.m == [])) && !f.pub) = true := by
   have a1 : ¬ e.m = [] := fun h => h1 (.inl h)
   have a2 : ¬ f.pub = true := fun h => h1 (.inr h)
   simp [a1, a2]
  simp only [h1', if_true, if_neg h1]
  exact out_fail R 12 (by decide)
theorem t85 {n : Nat} (LB : LimB p) (IH : EvR p full nm n) (own : Int) (ns : List Str) (vs : List Val) (e : Exp) (R : RepR p full nm 0 m h) (G : GoodM p m) (hmu : mu m < 1000000) (hn : m.fuel ≤ n) (hs : Sc p own ns vs m) (he : expLim e) : OutR p full nm (callX p (evalX p n) own ns vs e m) (callW pg 85 [.hp 0 0, scopeAv own ns vs, e.av] h) := by
 unfold callX
 have hown : loadA T 3 (.ip [.int .i64 own, strs ns, vals vs]) = some (.int .i64 own) := rfl
 have hmd := rmod_pv LB nm.told e.m
 generalize hcode : callW pg 85 [.hp 0 0, scopeAv own ns vs, e.av] h = code
 rw [C85] at hcode
 simp -implicitDefEqProofs only [S85, acells_scope, acells_exp, FA101_0, FA28_3, List.drop_succ_cons, List.drop_zero, hown, LD9, bnd_some, jn_def, str_neq, condM_bool] at hcode
 by_cases h0 : e.m = []
 ·have h0' : (!(e.m == [])) = false := by simp [h0]
  simp only [h0', Bool.false_eq_true, if_false] at hcode
  simp only [if_pos h0]
  rw [← hcode]
  have := rcall_rest LB IH own ns vs e own hs.own R G hmu hn hs he (.int .i64 0) (.int .i64 0) (.sl []) (.sl [])
  simp only [acells_scope, acells_exp] at this
  exact this
 ·have h0' : (!(e.m == [])) = true := by simp [h0]
  simp -implicitDefEqProofs only [h0', if_true, nilChkA_hp, bnd_some, FH95_0, Nat.zero_add, R.lProg, hmd, noPan_pure, bnd_pure] at hcode
  simp only [if_neg h0]
  rw [← hcode]
  have hlt : modAt p e.m < p.length := by
   rcases idxAt_lt (fun (x : Mod) => x.name == e.m) p 0 with k | k
   ·show idxAt _ p 0 < _
    rw [k]; omega
   ·show idxAt _ p 0 < _
    omega
  have := rcall_rest LB IH own ns vs e (modAt p e.m) hlt R G hmu hn hs he (.int .i64 0) (.int .i64 0) (.sl []) (.sl [])
  simp only [acells_scope, acells_exp] at this
  exact this
end
end Go.Proofs.Ytgbopmciiadmlaa

namespace Go.Proofs.Ytgbopmciiadmlaa
open Go Go.Av Go.Av.Ap
section
variable {p : List Mod} {full : List Int} {nm : SNm} {m : Ms} {h : Hp}
theorem push_deedR (R : RepR p full nm 0 m h) (d : Deed) (hb : m.deeds.length ≤ 2000000) :
  ∃ dv dv' h1 h2, (∀ g : AV → M AV, bnd (loadH T 40 (.hp 0 6)) g h = g dv h) ∧ (∀ g : AV → M AV, bnd (appH T 40 false dv (.sl [d.av])) g h = g dv' h1) ∧ (∀ g : AV → M AV, bnd (storeH T 40 (.hp 0 6) dv') g h1 = g (.tup []) h2) ∧ RepR p full nm 0 { m with deeds := m.deeds ++ [d] } h2 := by
 obtain ⟨tag, dv, cv, sv, R0⟩ := R.rep
 obtain ⟨h1, dv', tag', e1, K, H, hc⟩ := push_row (T := T) (t := 40) rfl rfl rfl rfl (by decide) rfl (by decide) (x := d.av) R0.ds (fun h0 => by
  have : m.deeds = [] := List.eq_nil_of_length_eq_zero h0
  rw [this]; rfl) (fun cs h => by rw [h]; exact deedCells_ok _) (okEl_deed d) (show (m.deeds.length + 1) * 24 ≤ 140737488355328 by omega)
 have h0 := (K 0 _ R0.r0 (by rw [R0.t0]; decide)).1
 have hac : acells dv' = [dv'] := (okCell_one hc).2.1
 have := R0.pushDeed (m' := { m with deeds := m.deeds ++ [d] }) K H rfl rfl rfl id
 refine ⟨dv, dv', h1, _, fun g => bnd_ok (loadH_one rfl rfl R0.r0 rfl), fun g => bnd_ok e1, fun g => bnd_ok (storeH_ok rfl h0 (okCell_one hc).1 (show 6 + 1 ≤ 13 by decide) (by decide)), R.sub, R.tld, tag', dv', cv, sv, ?_⟩
 rw [hac]
 exact this
theorem ract_rest (R : RepR p full nm 0 m h) (hb : m.deeds.length ≤ 2000000) (e : Exp) (v : Val) (n : Int) (x1 x2 x3 x4 : AV) :
  OutR p full nm (X.ok (numV n) { m with deeds := m.deeds ++ [⟨e.n, v.n, n⟩] }) (K86_0 (callW pg) fixW [.hp 0 0, .ip (acells e.av), .ip (acells v.av), .int .i64 n, x1, x2, x3, x4] h) := by
 obtain ⟨dv, dv', h1, h2, l1, e1, s1, R2⟩ := push_deedR R ⟨e.n, v.n, n⟩ hb
 have hB : buildA T false 55 [(0, .int .i64 e.n), (1, .int .i64 v.n), (2, .int .i64 n)] = some (Deed.av ⟨e.n, v.n, n⟩) := rfl
 have hBS : buildSliceA T 40 1 [(0, Deed.av ⟨e.n, v.n, n⟩)] = some (.sl [Deed.av ⟨e.n, v.n, n⟩]) := rfl
 have hV : buildA T false 39 [(0, .int .i64 0), (1, .int .i64 n)] = some (numV n).av := rfl
 generalize hcode : K86_0 (callW pg) fixW [.hp 0 0, .ip (acells e.av), .ip (acells v.av), .int .i64 n, x1, x2, x3, x4] h = code
 simp -implicitDefEqProofs only [K86_0, nth_zero, nth_succ, nilChkA_hp, bnd_some, FH95_1, FH43_2, Nat.zero_add, Nat.reduceAdd, l1, acells_exp, FA28_1, List.drop_succ_cons, List.drop_zero, LD3, acells_val, FA39_1, hB, hBS, e1, s1, hV, cn4, bnd_pure] at hcode
 rw [← hcode]
 exact out_ok R2
theorem suffix_at {full w : List Int} {x : Int} {wl : List Int} (h : w <:+ full) (hw : w = x :: wl) : ∃ k : Nat, (full.length : Int) - (w.length : Int) = (k : Int) ∧ ∃ hk : k < full.length, full[k] = x := by
 obtain ⟨pre, e⟩ := h
 subst e
 subst hw
 refine ⟨pre.length, by simp, by simp, by simp⟩
theorem t86 {n : Nat} (IH : EvR p full nm n) (hfl : full.length ≤ 1099511627776) (own : Int) (ns : List Str) (vs : List Val) (e a : Exp) (hea : e.args = [a]) (R : RepR p full nm 0 m h) (G : GoodM p m) (hmu : mu m < 1000000) (hn : m.fuel ≤ n) (hs : Sc p own ns vs m) (he : expLim e) :
  OutR p full nm (actX (evalX p n own ns vs a) e m) (callW pg 86 [.hp 0 0, scopeAv own ns vs, e.av] h) := by
 have ha : expLim a := expLim_arg he (by rw [hea]; simp)
 have hex : loadA T 28 (.ip (acells a.av)) = some a.av := by simp
 have hscl : loadA T 101 (.ip [.int .i64 own, strs ns, vals vs]) = some (scopeAv own ns vs) := rfl
 have hix := IX26 (l := e.args) (n := 0) (by omega) (by rw [hea]; simp)
 have hx0 : e.args[(0 : Int).toNat]! = a := by rw [hea]; rfl
 rw [hx0] at hix
 generalize hcode : callW pg 86 [.hp 0 0, scopeAv own ns vs, e.av] h = code
 rw [C86] at hcode
 simp -implicitDefEqProofs only [S86, acells_scope, acells_exp e, FA28_5, List.drop_succ_cons, List.drop_zero, LD26, bnd_some, hscl, hix, hex] at hcode
 rw [← hcode]
 unfold actX
 refine outR_bind (IH own ns vs a m h R G hn hs ha) (fun a s h => eval_ne h) (fun v s1 h2 hv R2 => ?_) (fun c s w h' hc RE => ?_)
 ·obtain ⟨G2, rv, f2⟩ := G.eval hs.right hv
  have hk0 : loadA T 3 (.ip ([AV.int .i64 v.kind, .int .i64 v.n, strs v.names, vals v.values].drop 0)) = some (.int .i64 v.kind) := rfl
  have he1 : loadA T 3 (.ip ([AV.int .i64 e.op, .int .i64 e.n, .str e.s, .str e.m, strs e.names, exps e.args].drop 1)) = some (.int .i64 e.n) := rfl
  generalize hcode2 : bnd (cellsM 4 v.av) _ h2 = code2
  simp -implicitDefEqProofs only [okEl_c, bnd_pure, acells_agg, acells_val, nilChkA_hp, bnd_some, FH95_1, FH43_0, Nat.zero_add, Nat.add_zero, R2.lErr, bne_self_eq_false, condM_bool, Bool.false_eq_true, if_false, FA39_0, hk0, bin_neq, FA28_1, he1, guardM_pure1, nth_zero, pickA_and, jn_def] at hcode2
  rw [← hcode2]
  by_cases hk : v.kind = 0
  ·have hk' : (v.kind != 0) = false := by simp [hk]
   simp only [hk', Bool.false_eq_true, if_false, if_pos hk]
   by_cases hn4 : e.n = 1 ∨ e.n = 2 ∨ e.n = 4 ∨ e.n = 8
   ·have hn' : (e.n != 1 && e.n != 2 && e.n != 4 && e.n != 8) = false := by
     rw [← Bool.not_eq_true]
     simp only [Bool.and_eq_true, bne_iff_ne]
     omega
    simp only [hn', Bool.false_eq_true, if_false, if_pos hn4]
    have hmu2 := (tq_eval n own ns vs a m v s1 G.fuel hv).1
    have hdl : s1.deeds.length ≤ 2000000 := by
     have := G2.fuel
     simp only [mu] at hmu2 hmu
     omega
    show OutR p full nm (X.ok (numV (s1.world.headD 0)) { s1 with world := s1.world.tail, deeds := s1.deeds ++ [⟨e.n, v.n, s1.world.headD 0⟩] }) _
    have lenw : lenA T 24 (wvOf nm.told full) = some (.int .i64 full.length) := by
     unfold wvOf
     split
     ·rename_i ht
      rw [R2.tld ht]
      rfl
     ·exact LENE24 _
    generalize hcode3 : bnd (lft (fieldAddrA T 95 (.hp 0 0) 3)) _ h2 = code3
    simp -implicitDefEqProofs only [bnd_some, FH95_2, FH95_3, Nat.zero_add, R2.lAt, R2.lWorld, lenw, bin_lss, condM_bool] at hcode3
    cases hwd : s1.world with
    | nil =>
     have hlt : decide ((full.length : Int) - (s1.world.length : Int) < (full.length : Int)) = false := by rw [hwd]; simp
     simp only [hlt, Bool.false_eq_true, if_false] at hcode3
     have := ract_rest R2 hdl e v 0 (.int .i64 0) (.int .i64 0) (.sl []) (.sl [])
     simp only [acells_exp, acells_val] at this
     rw [hcode3] at this
     have e5 : ({ s1 with deeds := s1.deeds ++ [⟨e.n, v.n, 0⟩] } : Ms) = { s1 with world := ([] : List Int).tail, deeds := s1.deeds ++ [⟨e.n, v.n, ([] : List Int).headD 0⟩] } := by
      cases s1
      simp only at hwd
      subst hwd
      rfl
     rw [e5] at this
     exact this
    | cons x wl =>
     have hlt : decide ((full.length : Int) - (s1.world.length : Int) < (full.length : Int)) = true := by rw [hwd]; simp; omega
     obtain ⟨k, hk1, hk2, hk3⟩ := suffix_at R2.sub hwd
     have hne : full ≠ [] := fun e => by rw [e] at hk2; exact absurd hk2 (by simp)
     have hwv : wvOf nm.told full = ints full := by
      unfold wvOf
      rw [if_neg]
      intro ht
      exact hne (R2.tld ht)
     have hixw := IX24 (l := full) (n := (k : Int)) (by omega) (by omega)
     rw [show ((k : Int)).toNat = k by omega, getElem!_pos full k hk2, hk3] at hixw
     obtain ⟨h3, s3, R3⟩ := R2.sAt hwd
     have hw1 : IntKind.i64.wrap ((full.length : Int) - (s1.world.length : Int) + 1) = (full.length : Int) - (s1.world.length : Int) + 1 := wrap_in (by omega) (by omega)
     have hac1 : acells (AV.int IntKind.i64 x) = [.int .i64 x] := rfl
     have hld1 : loadA T 3 (.ip [.int .i64 x]) = some (.int .i64 x) := rfl
     have hwl : indexAddrA T 24 (ints full) (.int .i64 ((full.length : Int) - (s1.world.length : Int))) = some (.ip [.int .i64 x]) := by rw [hk1]; exact hixw
     simp -implicitDefEqProofs only [hlt, if_true, R2.lWorld, R2.lAt, hwv, hwl, bnd_some, hld1, bin_add, hw1, s3] at hcode3
     rw [hwd] at R3
     simp only [List.tail_cons] at R3
     have := ract_rest R3 hdl e v x (.int .i64 0) (.int .i64 0) (.sl []) (.sl [])
     simp only [acells_exp, acells_val] at this
     rw [hcode3] at this
     exact this
   ·have hn' : (e.n != 1 && e.n != 2 && e.n != 4 && e.n != 8) = true := by
     simp only [Bool.and_eq_true, bne_iff_ne]
     omega
    simp only [hn', if_true, if_neg hn4]
    exact out_fail R2 14 (by decide)
  ·have hk' : (v.kind != 0) = true := by simpa using hk
   simp only [hk', if_true, if_neg hk]
   exact out_fail R2 13 (by decide)
 ·have hne : (c != 0) = true := by simpa using hc
  have hvl : loadA T 39 (.ip (acells w.av)) = some w.av := by simp
  refine ⟨w, h', ?_, RE⟩
  generalize hcode2 : bnd (cellsM 4 w.av) _ h' = code2
  simp -implicitDefEqProofs only [okEl_c, bnd_pure, acells_agg, nilChkA_hp, bnd_some, FH95_1, FH43_0, Nat.zero_add, Nat.add_zero, RE.lErr, err_ne, hne, condM_bool, if_true, hvl, cn4, wrap4r] at hcode2
  rw [← hcode2]
  rfl
theorem loop_rvar (x0 x1 : AV) (l : List Fld) (hl : l.length ≤ 1099511627776) (e : Exp) (y5 y6 y7 y8 : AV) : ∀ (n i : Nat), l.length - i = n → i ≤ l.length →
  fixW (L87_0 (callW pg) fixW) [x0, x1, .ip (acells e.av), flds l, .int .i64 i, y5, y6, y7, y8] = fixW (L87_0 (callW pg) fixW) [x0, x1, .ip (acells e.av), flds l, .int .i64 (if idxAt (fun (f : Fld) => f.1 == e.s) (l.drop i) i < 0 then (l.length : Int) else idxAt (fun (f : Fld) => f.1 == e.s) (l.drop i) i), y5, y6, y7, y8] := by
 intro n
 induction n with
 | zero =>
  intro i hn hi
  obtain rfl : i = l.length := by omega
  rw [List.drop_length]
  rfl
 | succ n ih =>
  intro i hn hi
  have hlt : i < l.length := by omega
  have h1 : (i : Int) < (l.length : Int) := by omega
  rw [List.drop_eq_getElem_cons hlt]
  simp only [idxAt]
  by_cases hs : l[i].1 = e.s
  ·simp only [hs, beq_self_eq_true, if_true]
   rw [if_neg (by omega)]
  ·have hsb : (l[i].1 == e.s) = false := by simpa using hs
   simp only [hsb, Bool.false_eq_true, if_false]
   have ih' := ih (i + 1) (by omega) (by omega)
   simp only [Int.natCast_add, Int.natCast_one] at ih'
   rw [← ih']
   have hix := IX58 (l := l) (n := (i : Int)) (by omega) h1
   rw [show ((i : Int)).toNat = i by omega, getElem!_pos l i hlt] at hix
   have hll : lenA T 58 (flds l) = some (.int .i64 l.length) := LENE58 _
   have hfn : loadA T 9 (.ip ((acells (fldAv l[i])).drop 0)) = some (.str l[i].1) := by simp
   have hes : loadA T 9 (.ip ((acells e.av).drop 2)) = some (.str e.s) := by simp
   have hw : IntKind.i64.wrap ((i : Int) + 1) = (i : Int) + 1 := wrap_in (by omega) (by omega)
   conv => lhs; rw [FL87_0]
   simp only [L87_0, nth_zero, nth_succ, hll, bin_lss, bnd_some, h1, decide_true, hix, FA104_0, hfn, FA28_2, hes, str_neq, hsb, Bool.not_false, guardM_pure1, bnd_pure, pickA_and, Bool.and_self, condM_bool, if_true, bin_add, hw]
theorem t87 {n : Nat} (LB : LimB p) (IH : EvR p full nm n) (own : Int) (ns : List Str) (vs : List Val) (e : Exp) (hop : e.op = 17 ∨ e.op = 18 ∧ ∃ a, e.args = [a]) (R : RepR p full nm 0 m h) (G : GoodM p m) (hn : m.fuel ≤ n) (hs : Sc p own ns vs m) (he : expLim e) :
  OutR p full nm (varX p (evalX p n own ns vs) own e m) (callW pg 87 [.hp 0 0, scopeAv own ns vs, e.av] h) := by
 have hscl : loadA T 101 (.ip [.int .i64 own, strs ns, vals vs]) = some (scopeAv own ns vs) := rfl
 have hown : loadA T 3 (.ip [.int .i64 own, strs ns, vals vs]) = some (.int .i64 own) := rfl
 generalize hcode : callW pg 87 [.hp 0 0, scopeAv own ns vs, e.av] h = code
 rw [C87] at hcode
 simp -implicitDefEqProofs only [S87, acells_scope, FA101_0, List.drop_zero, hown, bnd_some, bin_lss, condM_bool] at hcode
 unfold varX
 by_cases ho : own < 0
 ·have ho' : decide (own < 0) = true := by simpa using ho
  simp only [ho', if_true] at hcode
  simp only [if_pos ho]
  rw [← hcode]
  exact out_fail R 12 (by decide)
 have ho' : decide (own < 0) = false := by simpa using ho
 simp only [if_neg ho]
 have hol := hs.own
 have hlt : own.toNat < p.length := by omega
 have hix := IX22 (l := p) (n := own) (by omega) hol
 rw [getElem!_pos p own.toNat hlt] at hix
 have e3 : p[own.toNat]?.getD default = p[own.toNat] := by rw [List.getElem?_eq_getElem hlt]; rfl
 have hvl := (LB.lim.funcsAt own.toNat).2
 rw [e3] at hvl ⊢
 have hpv : pvOf nm.told p = mods p := pvOf_ne (fun e => by subst e; simp at hlt)
 have hfv : loadA T 58 (.ip (List.drop 2 (acells p[own.toNat].av))) = some (flds p[own.toNat].vars) := by simp
 simp -implicitDefEqProofs only [ho', Bool.false_eq_true, if_false, nilChkA_hp, bnd_some, FH95_0, Nat.zero_add, R.lProg, hpv, hix, FA63_2, hfv] at hcode
 have hloop := loop_rvar (.hp 0 0) (.ip [.int .i64 own, strs ns, vals vs]) p[own.toNat].vars hvl e (.int .i64 0) (.int .i64 0) (.sl []) (.sl []) _ 0 rfl (by omega)
 rw [List.drop_zero] at hloop
 have hloop' : fixW (L87_0 (callW pg) fixW) [.hp 0 0, .ip [.int .i64 own, strs ns, vals vs], .ip (acells e.av), flds p[own.toNat].vars, .int .i64 0, .int .i64 0, .int .i64 0, .sl [], .sl []] = _ := hloop
 rw [hloop'] at hcode
 have hidx : idxAt (fun (f : Fld) => f.1 == e.s) p[own.toNat].vars ((0 : Nat) : Int) = fldAt p[own.toNat].vars e.s := rfl
 rw [hidx] at hcode
 have hll : lenA T 58 (flds p[own.toNat].vars) = some (.int .i64 p[own.toNat].vars.length) := LENE58 _
 have heop : loadA T 3 (.ip ((acells e.av).drop 0)) = some (.int .i64 e.op) := by simp
 have hes : loadA T 9 (.ip ((acells e.av).drop 2)) = some (.str e.s) := by simp
 have hrng := idxAt_lt (fun (x : Fld) => x.1 == e.s) p[own.toNat].vars 0
 have hdef : fldAt p[own.toNat].vars e.s = idxAt (fun (x : Fld) => x.1 == e.s) p[own.toNat].vars 0 := rfl
 rw [← hdef] at hrng
 rw [FL87_0] at hcode
 by_cases hi : fldAt p[own.toNat].vars e.s < 0
 ·simp only [if_pos hi] at hcode ⊢
  simp -implicitDefEqProofs only [L87_0, nth_zero, nth_succ, hll, bin_lss, bnd_some, Int.lt_irrefl, decide_false, guardM_ft, List.replicate, bnd_pure, nth_zero, pickA_false, condM_bool, Bool.false_eq_true, if_false, bin_geq, Int.le_refl, decide_true, if_true] at hcode
  rw [← hcode]
  exact out_fail R 12 (by decide)
 simp only [if_neg hi] at hcode ⊢
 have hname : (p[own.toNat].vars[(fldAt p[own.toNat].vars e.s).toNat]!.1 == e.s) = true := by
  have key : ∀ (l : List Fld) (i : Int), 0 ≤ i → ¬ idxAt (fun (x : Fld) => x.1 == e.s) l i < 0 → (l[(idxAt (fun (x : Fld) => x.1 == e.s) l i - i).toNat]!.1 == e.s) = true := by
   intro l
   induction l with
   | nil => intro i hi h; exact absurd (show (-1 : Int) < 0 by decide) h
   | cons x l ih =>
    intro i hi h
    simp only [idxAt] at h ⊢
    split at h
    ·rename_i hx
     rw [if_pos hx]
     simp only [Int.sub_self, Int.toNat_zero, List.getElem!_cons_zero]
     exact hx
    ·rename_i hx
     rw [if_neg hx]
     have := ih (i + 1) (by omega) h
     rcases idxAt_lt (fun (x : Fld) => x.1 == e.s) l (i + 1) with k | k
     ·omega
     ·have e5 : (idxAt (fun (x : Fld) => x.1 == e.s) l (i + 1) - i).toNat = (idxAt (fun (x : Fld) => x.1 == e.s) l (i + 1) - (i + 1)).toNat + 1 := by omega
      rw [e5, List.getElem!_cons_succ]
      exact this
  have := key p[own.toNat].vars 0 (by omega) hi
  simpa [hdef] using this
 generalize hI : fldAt p[own.toNat].vars e.s = I at *
 have hil : I < p[own.toNat].vars.length := by omega
 have hI0 : 0 ≤ I := by omega
 have hixI := IX58 (l := p[own.toNat].vars) (n := I) hI0 hil
 have hfn : loadA T 9 (.ip ((acells (fldAv p[own.toNat].vars[I.toNat]!)).drop 0)) = some (.str p[own.toNat].vars[I.toNat]!.1) := by simp
 have h1 : decide (I < (p[own.toNat].vars.length : Int)) = true := by simpa using hil
 have h2 : decide ((p[own.toNat].vars.length : Int) ≤ I) = false := by simp; omega
 simp -implicitDefEqProofs only [L87_0, nth_zero, nth_succ, hll, bin_lss, bnd_some, h1, hixI, FA104_0, hfn, FA28_2, hes, str_neq, hname, Bool.not_true, guardM_pure1, bnd_pure, pickA_and, Bool.and_false, condM_bool, Bool.false_eq_true, if_false, bin_geq, h2, FA28_0, heop, bin_eql] at hcode
 obtain ⟨l, hl1, hl2⟩ := G.shape own.toNat _ (List.getElem?_eq_getElem hlt)
 have hne : l ≠ [] := fun e => by rw [e] at hl2; simp at hl2; omega
 have hsl : own.toNat < m.state.length := (List.getElem?_eq_some_iff.1 hl1).1
 have hk : I.toNat < l.length := by omega
 have Rk := R
 obtain ⟨tag, dv, cv, sv, R0⟩ := R.rep
 have lsv : ∀ g : AV → M AV, bnd (loadH T 32 (.hp 0 8)) g h = g nm.sv h := fun g => bnd_ok (loadH_one rfl rfl R0.r0 (by rw [← R0.sve]; rfl))
 obtain ⟨q, r, v1, v2, v3, v4, v5, v6⟩ := R0.var (fun _ => rfl) hl1 hne
 have hx1 : ∀ st : List (List Val), own.toNat < st.length → nm.sv = .hs q 0 st.length 2 true → indexAddrA T 32 nm.sv (.int .i64 own) = some (.hp q (own.toNat * 2)) := fun st hst hsv => by
  rw [hsv]
  have := ixh (t := 32) rfl rfl rfl (l := q) (off := 0) (len := st.length) (sz := 2) (ag := true) (n := own) (by omega) (by omega)
  rw [this]
  simp
 have hx1' := hx1 m.state hsl v1
 have lv : ∀ g : AV → M AV, bnd (loadH T 23 (.hp q (own.toNat * 2 + 1))) g h = g (.hs r 0 l.length 4 true) h := fun g => bnd_ok (loadH_one rfl rfl v2 v3)
 have hx2 : indexAddrA T 23 (.hs r 0 l.length 4 true) (.int .i64 I) = some (.hp r (I.toNat * 4)) := by
  have := ixh (t := 23) rfl rfl rfl (l := r) (off := 0) (len := l.length) (sz := 4) (ag := true) (n := I) (by omega) (by omega)
  rw [this]
  simp
 have hsc2 : loadA T 3 (.ip ([AV.int .i64 own, strs ns, vals vs].drop 0)) = some (.int .i64 own) := rfl
 rcases hop with h17 | ⟨h18, a, hea⟩
 ·have h17b : (e.op == 17) = true := by simp [h17]
  have h18b : ¬ (e.op = 18) := by omega
  simp only [if_neg h18b]
  have hld2 : loadH T 39 (.hp r (I.toNat * 4)) h = .ok (l[I.toNat]).av h := by
   have := loadH_agg (T := T) (t := 39) rfl rfl (h := h) (l := r) (k := I.toNat * 4) v5 (by rw [valCells_len]; show I.toNat * 4 + 4 ≤ _; omega)
   rw [this]
   have hg := valCells_get (l := l) (k := I.toNat) hk
   show Av.R.ok (AV.agg (((valCells l).drop (I.toNat * 4)).take 4)) _ = _
   rw [hg, Val.av_eq]
   rfl
  have ld2 : ∀ g : AV → M AV, bnd (loadH T 39 (.hp r (I.toNat * 4))) g h = g (l[I.toNat]).av h := fun g => bnd_ok hld2
  simp -implicitDefEqProofs only [h17b, if_true, nilChkA_hp, bnd_some, FH95_1, FH43_4, Nat.zero_add, Nat.reduceAdd, lsv, FA101_0, hsc2, hx1', FH47_1, lv, hx2, ld2, cn4, bnd_pure, wrap4r] at hcode
  rw [← hcode]
  have hgs : getSt m.state own.toNat I.toNat = l[I.toNat] := by
   simp [getSt, List.getD_eq_getElem?_getD, hl1, hk]
  show OutR p full nm (X.ok (getSt m.state own.toNat I.toNat) m) _
  rw [hgs]
  exact out_ok Rk
 ·have h17b : (e.op == 17) = false := by simp [h18]
  have ha : expLim a := expLim_arg he (by rw [hea]; simp)
  have hex : loadA T 28 (.ip (acells a.av)) = some a.av := by simp
  have hixa := IX26 (l := e.args) (n := 0) (by omega) (by rw [hea]; simp)
  have hx0 : e.args[(0 : Int).toNat]! = a := by rw [hea]; rfl
  have e0 : e.args[0]! = a := hx0
  rw [hx0] at hixa
  have hes5 : loadA T 26 (.ip ((acells e.av).drop 5)) = some (exps e.args) := by simp
  simp only [if_pos h18, e0]
  simp -implicitDefEqProofs only [h17b, Bool.false_eq_true, if_false, hscl, bnd_some, FA28_5, hes5, hixa, hex] at hcode
  rw [← hcode]
  refine outR_bind (IH own ns vs a m h Rk G hn hs ha) (fun a s h => eval_ne h) (fun v s1 h2 hv R2 => ?_) (fun c s w h' hc RE => ?_)
  ·obtain ⟨G2, rv, f2⟩ := G.eval hs.right hv
   obtain ⟨tag2, dv2, cv2, sv2, R20⟩ := R2.rep
   obtain ⟨l', hl1', hl2'⟩ := G2.shape own.toNat _ (List.getElem?_eq_getElem hlt)
   have hne' : l' ≠ [] := fun e => by rw [e] at hl2'; simp at hl2'; omega
   have hsl' : own.toNat < s1.state.length := (List.getElem?_eq_some_iff.1 hl1').1
   obtain ⟨q', r', w1, w2, w3, w4, w5, w6⟩ := R20.var (fun _ => rfl) hl1' hne'
   have hll : l'.length = l.length := by omega
   have hqq : q' = q := by
    rw [v1] at w1
    simp only [AV.hs.injEq] at w1
    exact w1.1.symm
   subst hqq
   have hrr : r' = r := by
    rw [v3] at w3
    simp only [Option.some.injEq, AV.hs.injEq] at w3
    exact w3.1.symm
   subst hrr
   have lsv2 : ∀ g : AV → M AV, bnd (loadH T 32 (.hp 0 8)) g h2 = g nm.sv h2 := fun g => bnd_ok (loadH_one rfl rfl R20.r0 (by rw [← R20.sve]; rfl))
   have hx1'' := hx1 s1.state hsl' w1
   have lv2 : ∀ g : AV → M AV, bnd (loadH T 23 (.hp q' (own.toNat * 2 + 1))) g h2 = g (.hs r' 0 l.length 4 true) h2 := fun g => bnd_ok (loadH_one rfl rfl w2 (by rw [← hll]; exact w3))
   have hst : storeH T 39 (.hp r' (I.toNat * 4)) v.av h2 = .ok (.tup []) (h2.set r' (valCells (l'.set I.toNat v))) := by
    have := storeH_ok (T := T) (t := 39) rfl w5 (v := v.av) (k := I.toNat * 4) (okEl_val v) (by rw [valCells_len]; show I.toNat * 4 + 4 ≤ _; omega) (by decide)
    rw [this, valCells_set (by omega)]
   have R3 := w6 I.toNat v (by omega)
   have hvl2 : loadA T 39 (.ip (acells v.av)) = some v.av := by simp
   generalize hcode2 : bnd (cellsM 4 v.av) _ h2 = code2
   have st2 : ∀ g : AV → M AV, bnd (storeH T 39 (.hp r' (I.toNat * 4)) v.av) g h2 = g (.tup []) (h2.set r' (valCells (l'.set I.toNat v))) := fun g => bnd_ok hst
   simp -implicitDefEqProofs only [okEl_c, bnd_pure, acells_agg, jn_def, nilChkA_hp, bnd_some, FH95_1, FH43_0, FH43_4, Nat.zero_add, Nat.add_zero, Nat.reduceAdd, R2.lErr, err_eq, beq_self_eq_true, condM_bool, if_true, lsv2, FA101_0, hsc2, hx1'', FH47_1, lv2, hvl2, hx2, st2, K87_0, nth_zero, cn4, wrap4r] at hcode2
   rw [← hcode2]
   exact ⟨_, rfl, R2.sub, R2.tld, tag2, dv2, cv2, sv2, R3⟩
  ·have hneb : (c == 0) = false := by simpa using hc
   have hvl2 : loadA T 39 (.ip (acells w.av)) = some w.av := by simp
   refine ⟨w, h', ?_, RE⟩
   generalize hcode2 : bnd (cellsM 4 w.av) _ h' = code2
   simp -implicitDefEqProofs only [okEl_c, bnd_pure, acells_agg, jn_def, nilChkA_hp, bnd_some, FH95_1, FH43_0, Nat.zero_add, Nat.add_zero, RE.lErr, err_eq, hneb, condM_bool, Bool.false_eq_true, if_false, K87_0, nth_zero, hvl2, cn4, wrap4r] at hcode2
   rw [← hcode2]
   rfl
end
end Go.Proofs.Ytgbopmciiadmlaa

namespace Go.Proofs.Ytgbopmciiadmlaa
open Go Go.Av Go.Av.Ap
theorem right_boolV {v : Val} (h : Rv v) (hk : v.kind = 1) : (v.n = 0 ∨ v.n = 1) ∧ v = truthV (v.n == 1) := by
 unfold Rv at h
 obtain ⟨k, n, ns, vs⟩ := v
 simp only [Val.kind_mk] at hk
 subst hk
 simp only [fitsP, Val.kind_mk, Val.n_mk, Val.names_mk, Val.values_mk] at h ⊢
 simp only [show ((1 : Int) == 0 || (1 : Int) == 1) = true from rfl, if_true, Bool.and_eq_true, beq_iff_eq, Bool.or_eq_true] at h
 obtain ⟨⟨h1, h2⟩, h3⟩ := h
 have e1 := List.eq_nil_of_length_eq_zero h1
 have e2 := List.eq_nil_of_length_eq_zero h2
 subst e1 e2
 rcases h3 with (h3 | h3) | h3
 ·simp at h3
 ·subst h3; exact ⟨.inl rfl, rfl⟩
 ·subst h3; exact ⟨.inr rfl, rfl⟩
theorem right_plain {v : Val} (h : Rv v) (hk : ¬ v.kind = 2) : v.names = [] := by
 unfold Rv fitsP at h
 split at h
 ·simp only [Bool.and_eq_true, beq_iff_eq] at h
  exact List.eq_nil_of_length_eq_zero h.1.1
 ·simp only [Bool.and_eq_true, beq_iff_eq] at h
  exact absurd h.1.1.1.1.1 hk
section
variable {p : List Mod} {full : List Int} {nm : SNm} {m : Ms} {h : Hp}
theorem loop_field (R : RepR p full nm 0 m h) (e : Exp) (v : Val) (hv : v.names.length = v.values.length) (h8 : v.names.length ≤ 8) (y4 y5 y6 y7 : AV) : ∀ (n i : Nat), v.names.length - i = n → i ≤ v.names.length →
  OutR p full nm ((match fieldV (v.names.drop i) (v.values.drop i) e.s with | some x => X.ok x | none => X.er 13) m) (fixW (L88_0 (callW pg) fixW) [.hp 0 0, .ip (acells e.av), .ip (acells v.av), .int .i64 i, y4, y5, y6, y7] h) := by
 intro n
 induction n with
 | zero =>
  intro i hn hi
  obtain rfl : i = v.names.length := by omega
  rw [List.drop_length, FL88_0]
  have hls : lenA T 25 (strs v.names) = some (.int .i64 v.names.length) := LENE25 _
  have hns : loadA T 25 (.ip ((acells v.av).drop 2)) = some (strs v.names) := by simp
  simp only [L88_0, nth_zero, nth_succ, FA39_2, hns, hls, bin_lss, bnd_some, condM_bool, Int.lt_irrefl, decide_false, Bool.false_eq_true, if_false]
  exact out_fail R 13 (by decide)
 | succ n ih =>
  intro i hn hi
  have hlt : i < v.names.length := by omega
  have hlt2 : i < v.values.length := by omega
  have h1 : (i : Int) < (v.names.length : Int) := by omega
  have hix := IX25 (l := v.names) (n := (i : Int)) (by omega) h1
  rw [show ((i : Int)).toNat = i by omega, getElem!_pos v.names i hlt] at hix
  have hiv := IX23 (l := v.values) (n := (i : Int)) (by omega) (by omega)
  rw [show ((i : Int)).toNat = i by omega, getElem!_pos v.values i hlt2] at hiv
  have hls : lenA T 25 (strs v.names) = some (.int .i64 v.names.length) := LENE25 _
  have hns : loadA T 25 (.ip ((acells v.av).drop 2)) = some (strs v.names) := by simp
  have hvs : loadA T 23 (.ip ((acells v.av).drop 3)) = some (vals v.values) := by simp
  have hes : loadA T 9 (.ip ((acells e.av).drop 2)) = some (.str e.s) := by simp
  have hld : loadA T 39 (.ip (acells v.values[i].av)) = some v.values[i].av := by simp
  have hst : loadA T 9 (.ip (acells (AV.str v.names[i]))) = some (.str v.names[i]) := rfl
  have hw : IntKind.i64.wrap ((i : Int) + 1) = ((i + 1 : Nat) : Int) := wrap_add1 (by omega)
  have hf : fieldV (v.names.drop i) (v.values.drop i) e.s = if v.names[i] = e.s then some v.values[i] else fieldV (v.names.drop (i + 1)) (v.values.drop (i + 1)) e.s := by
   rw [List.drop_eq_getElem_cons hlt, List.drop_eq_getElem_cons hlt2]; rfl
  rw [hf, FL88_0]
  simp only [L88_0, nth_zero, nth_succ, FA39_2, FA39_3, hns, hvs, hls, bin_lss, bnd_some, condM_bool, h1, decide_true, if_true, hix, hst, FA28_2, hes, str_eql]
  by_cases hs : v.names[i] = e.s
  ·have hsb : (v.names[i] == e.s) = true := by simpa using hs
   simp only [hsb, if_true, if_pos hs, hiv, hld, bnd_some]
   exact out_okc R
  ·have hsb : (v.names[i] == e.s) = false := by simpa using hs
   simp only [hsb, Bool.false_eq_true, if_false, if_neg hs, bin_add, bnd_some, hw]
   exact ih (i + 1) (by omega) (by omega)
def opX (r : Exp → X Val) (e : Exp) : X Val :=
 if e.op = 3 ∨ e.op = 4 ∨ e.op = 5 ∨ e.op = 6 ∨ e.op = 7 then (r e.args[0]!).bind fun a => (r e.args[1]!).bind fun b => binX e.op a b
 else if e.op = 8 ∨ e.op = 9 then (boolX (r e.args[0]!)).bind fun x => if x = (e.op == 9) then .ok (truthV (e.op == 9)) else (boolX (r e.args[1]!)).bind fun y => .ok (truthV y)
 else if e.op = 10 then (boolX (r e.args[0]!)).bind fun x => .ok (truthV !x)
 else if e.op = 11 then (boolX (r e.args[0]!)).bind fun x => if x = true then r e.args[1]! else r e.args[2]!
 else (r e.args[0]!).bind fun v => (match fieldV v.names v.values e.s with | some x => if v.kind = 2 then .ok x else .er 13 | none => .er 13)
theorem outR_ev {n : Nat} (IH : EvR p full nm n) (own : Int) (ns : List Str) (vs : List Val) (a : Exp) (R : RepR p full nm 0 m h) (G : GoodM p m) (hn : m.fuel ≤ n) (hs : Sc p own ns vs m) (he : expLim a) :
  OutR p full nm (evalX p n own ns vs a m) (bnd (callW pg 51 [.hp 0 0, scopeAv own ns vs, a.av]) (fun v => bnd (cellsNil 4 [] v) fun v => M.pure (AV.agg [nth (acells v) 0, nth (acells v) 1, nth (acells v) 2, nth (acells v) 3])) h) := by
 have H := IH own ns vs a m h R G hn hs he
 generalize evalX p n own ns vs a m = r at H ⊢
 cases r with
 | ok v s =>
  obtain ⟨h', e1, R'⟩ := H
  rw [bnd_ok e1, cn4, bnd_pure, wrap4r]
  exact ⟨h', rfl, R'⟩
 | er c s =>
  obtain ⟨w, h', e1, R'⟩ := H
  rw [bnd_ok e1, cn4, bnd_pure, wrap4r]
  exact ⟨w, h', rfl, R'⟩
theorem t88 {n : Nat} (IH : EvR p full nm n) (own : Int) (ns : List Str) (vs : List Val) (e : Exp) (hop : e.op = 3 ∨ e.op = 4 ∨ e.op = 5 ∨ e.op = 6 ∨ e.op = 7 ∨ e.op = 8 ∨ e.op = 9 ∨ e.op = 10 ∨ e.op = 11 ∨ e.op = 14) (hlen : argsN e.op = e.args.length) (R : RepR p full nm 0 m h) (G : GoodM p m) (hn : m.fuel ≤ n) (hs : Sc p own ns vs m) (he : expLim e) :
  OutR p full nm (opX (evalX p n own ns vs) e m) (callW pg 88 [.hp 0 0, scopeAv own ns vs, e.av] h) := by
 have hscl : loadA T 101 (.ip [.int .i64 own, strs ns, vals vs]) = some (scopeAv own ns vs) := rfl
 have hpos : 0 < e.args.length := by
  rcases hop with h | h | h | h | h | h | h | h | h | h <;> rw [h] at hlen <;> simp [argsN] at hlen <;> omega
 have ixN : ∀ k : Nat, k < e.args.length → indexAddrA T 26 (exps e.args) (.int .i64 (k : Int)) = some (.ip (acells e.args[k]!.av)) := fun k hk => by
  have := IX26 (l := e.args) (n := (k : Int)) (by omega) (by omega)
  rw [show ((k : Int)).toNat = k by omega] at this
  exact this
 have i0 : indexAddrA T 26 (exps e.args) (.int .i64 0) = some (.ip (acells e.args[0]!.av)) := ixN 0 hpos
 have hex : ∀ a : Exp, loadA T 28 (.ip (acells a.av)) = some a.av := fun a => by simp
 have hmem : ∀ k : Nat, k < e.args.length → expLim e.args[k]! := fun k hk => by
  rw [getElem!_pos e.args k hk]
  exact expLim_arg he (List.getElem_mem hk)
 have hes : loadA T 26 (.ip ((acells e.av).drop 5)) = some (exps e.args) := by simp
 have heop : loadA T 3 (.ip ((acells e.av).drop 0)) = some (.int .i64 e.op) := by simp
 have hvk : ∀ v : Val, loadA T 3 (.ip ((acells v.av).drop 0)) = some (.int .i64 v.kind) := fun v => by simp
 have hvn : ∀ v : Val, loadA T 3 (.ip ((acells v.av).drop 1)) = some (.int .i64 v.n) := fun v => by simp
 have hvl : ∀ v : Val, loadA T 39 (.ip (acells v.av)) = some v.av := fun v => by simp
 have htr : ∀ b : Bool, bnd (callW pg 83 [AV.bool b]) (fun v13 => bnd (cellsNil 4 [] v13) fun v14 => M.pure (AV.agg [nth (acells v14) 0, nth (acells v14) 1, nth (acells v14) 2, nth (acells v14) 3])) = M.pure (truthV b).av := fun b => by
  rw [t83, bnd_pure, cn4, bnd_pure, wrap4r]
 generalize hcode : callW pg 88 [.hp 0 0, scopeAv own ns vs, e.av] h = code
 rw [C88] at hcode
 simp -implicitDefEqProofs only [S88, acells_scope, hscl, bnd_some, FA28_5, hes, i0, hex] at hcode
 rw [← hcode]
 have hopx : opX (evalX p n own ns vs) e = (evalX p n own ns vs e.args[0]!).bind (fun v =>
   if e.op = 14 then (match fieldV v.names v.values e.s with | some x => if v.kind = 2 then .ok x else .er 13 | none => .er 13)
   else if e.op = 3 ∨ e.op = 4 ∨ e.op = 5 ∨ e.op = 6 ∨ e.op = 7 then (evalX p n own ns vs e.args[1]!).bind fun b => binX e.op v b
   else if v.kind = 1 then
    (if e.op = 8 ∨ e.op = 9 then (if (v.n == 1) = (e.op == 9) then .ok (truthV (e.op == 9)) else (boolX (evalX p n own ns vs e.args[1]!)).bind fun y => .ok (truthV y))
    else if e.op = 10 then .ok (truthV !(v.n == 1))
    else (if (v.n == 1) = true then evalX p n own ns vs e.args[1]! else evalX p n own ns vs e.args[2]!))
   else .er 13) := by
  unfold opX boolX
  by_cases h37 : e.op = 3 ∨ e.op = 4 ∨ e.op = 5 ∨ e.op = 6 ∨ e.op = 7
  ·have n14 : ¬ e.op = 14 := by omega
   simp only [if_pos h37, if_neg n14]
  simp only [if_neg h37]
  by_cases h89 : e.op = 8 ∨ e.op = 9
  ·have n14 : ¬ e.op = 14 := by omega
   simp only [if_pos h89, if_neg n14, xbind_assoc]
   funext s
   simp only [X.bind]
   cases evalX p n own ns vs e.args[0]! s with
   | ok v t => simp only; by_cases hk : v.kind = 1 <;> simp [hk, X.ok, X.er]
   | er c t => rfl
  simp only [if_neg h89]
  by_cases h10 : e.op = 10
  ·have n14 : ¬ e.op = 14 := by omega
   simp only [if_pos h10, if_neg n14, xbind_assoc]
   funext s
   simp only [X.bind]
   cases evalX p n own ns vs e.args[0]! s with
   | ok v t => simp only; by_cases hk : v.kind = 1 <;> simp [hk, X.ok, X.er]
   | er c t => rfl
  simp only [if_neg h10]
  by_cases h11 : e.op = 11
  ·have n14 : ¬ e.op = 14 := by omega
   simp only [if_pos h11, if_neg n14, xbind_assoc]
   funext s
   simp only [X.bind]
   cases evalX p n own ns vs e.args[0]! s with
   | ok v t => simp only; by_cases hk : v.kind = 1 <;> simp [hk, X.ok, X.er]
   | er c t => rfl
  have h14 : e.op = 14 := by omega
  simp only [if_neg h11, if_pos h14]
 rw [hopx]
 have hen : ∀ {c : Int} {s : Ms} {w : Val} {h' : Hp}, c ≠ 0 → ErrR p full nm c s h' → ∀ k2 : M AV, (if ((c : Int) != 0) = true then bnd (lft (some w.av)) (fun v => bnd (cellsNil 4 [] v) fun v => M.pure (AV.agg [nth (acells v) 0, nth (acells v) 1, nth (acells v) 2, nth (acells v) 3])) else k2) h' = .ok w.av h' := fun {c s w h'} hc RE k2 => by
  have hne : (c != 0) = true := by simpa using hc
  rw [if_pos hne, bnd_some, cn4, bnd_pure, wrap4r]
  rfl
 refine outR_bind (IH own ns vs _ m h R G hn hs (hmem 0 hpos)) (fun a s h => eval_ne h) (fun v s1 h2 hv R2 => ?_) (fun c s w h' hc RE => ?_)
 rotate_left
 ·have hne : (c != 0) = true := by simpa using hc
  refine ⟨w, h', ?_, RE⟩
  generalize hcode2 : bnd (cellsM 4 w.av) _ h' = code2
  simp -implicitDefEqProofs only [okEl_c, bnd_pure, acells_agg, nilChkA_hp, bnd_some, FH95_1, FH43_0, Nat.zero_add, Nat.add_zero, RE.lErr, err_ne, hne, condM_bool, if_true, hvl, cn4, wrap4r] at hcode2
  rw [← hcode2]
  rfl
 obtain ⟨G2, rv, f2⟩ := G.eval hs.right hv
 have hs2 := hs.less f2
 have hn2 : s1.fuel ≤ n := by omega
 generalize hcode2 : bnd (cellsM 4 v.av) _ h2 = code2
 simp -implicitDefEqProofs only [okEl_c, bnd_pure, acells_agg, nilChkA_hp, bnd_some, FH95_1, FH43_0, Nat.zero_add, Nat.add_zero, R2.lErr, err_ne, bne_self_eq_false, condM_bool, Bool.false_eq_true, if_false, FA28_0, heop, bin_eql, jn_def] at hcode2
 rw [← hcode2]
 by_cases h14 : e.op = 14
 ·have h14b : (e.op == 14) = true := by simp [h14]
  simp only [h14b, if_true, if_pos h14]
  have h8 := right_len8 rv
  have heq : v.names.length = v.values.length := right_lens rv
  have := loop_field R2 e v heq h8 (.int .i64 0) (.int .i64 0) (.sl []) (.sl []) _ 0 rfl (by omega)
  simp only [List.drop_zero] at this
  have hz : ((0 : Nat) : Int) = 0 := rfl
  rw [hz] at this
  have hm : (match fieldV v.names v.values e.s with | some x => if v.kind = 2 then X.ok x else X.er 13 | none => X.er 13) = (match fieldV v.names v.values e.s with | some x => X.ok x | none => X.er 13 : X Val) := by
   by_cases hk : v.kind = 2
   ·simp only [hk, if_true]
   ·have : v.names = [] := right_plain rv hk
    rw [this]
    rfl
  rw [hm]
  exact this
 have h14b : (e.op == 14) = false := by simpa using h14
 simp only [h14b, Bool.false_eq_true, if_false, if_neg h14]
 -- the second argument
 by_cases h37 : e.op = 3 ∨ e.op = 4 ∨ e.op = 5 ∨ e.op = 6 ∨ e.op = 7
 ·have hl2 : 1 < e.args.length := by
   rcases h37 with h | h | h | h | h <;> rw [h] at hlen <;> simp [argsN] at hlen <;> omega
  have i1 : indexAddrA T 26 (exps e.args) (.int .i64 1) = some (.ip (acells e.args[1]!.av)) := ixN 1 hl2
  have b10 : (e.op == 10) = false := by rcases h37 with h | h | h | h | h <;> rw [h] <;> rfl
  have b11 : (e.op == 11) = false := by rcases h37 with h | h | h | h | h <;> rw [h] <;> rfl
  have b8 : (e.op == 8) = false := by rcases h37 with h | h | h | h | h <;> rw [h] <;> rfl
  have b9 : (e.op == 9) = false := by rcases h37 with h | h | h | h | h <;> rw [h] <;> rfl
  simp only [if_pos h37]
  generalize hcode3 : (if (e.op == 10) = true then _ else _ : M AV) h2 = code3
  simp -implicitDefEqProofs only [b10, b11, b8, b9, Bool.false_eq_true, if_false, K88_0, nth_zero, nth_succ, condM_bool, hscl, bnd_some, FA28_5, hes, i1, hex] at hcode3
  rw [← hcode3]
  refine outR_bind (IH own ns vs _ s1 h2 R2 G2 hn2 hs2 (hmem 1 hl2)) (fun a s h => eval_ne h) (fun b s3 h3 hb R3 => ?_) (fun c s w h' hc RE => ?_)
  ·obtain ⟨G3, rb, f3⟩ := G2.eval hs.right hb
   have H2 := t101 R3 e.op v b h37 rv rb
   generalize hcode4 : bnd (cellsM 4 b.av) _ h3 = code4
   simp -implicitDefEqProofs only [okEl_c, bnd_pure, acells_agg, nilChkA_hp, bnd_some, FH95_1, FH43_0, Nat.zero_add, Nat.add_zero, R3.lErr, err_ne, bne_self_eq_false, condM_bool, Bool.false_eq_true, if_false, FA28_0, heop, hvl] at hcode4
   rw [← hcode4]
   generalize binX e.op v b s3 = r at H2 ⊢
   cases r with
   | ok x s =>
    obtain ⟨h', e1, R'⟩ := H2
    rw [bnd_ok e1, cn4, bnd_pure, wrap4r]
    exact ⟨h', rfl, R'⟩
   | er c s =>
    obtain ⟨w, h', e1, R'⟩ := H2
    rw [bnd_ok e1, cn4, bnd_pure, wrap4r]
    exact ⟨w, h', rfl, R'⟩
  ·have hne : (c != 0) = true := by simpa using hc
   refine ⟨w, h', ?_, RE⟩
   generalize hcode4 : bnd (cellsM 4 w.av) _ h' = code4
   simp -implicitDefEqProofs only [okEl_c, bnd_pure, acells_agg, nilChkA_hp, bnd_some, FH95_1, FH43_0, Nat.zero_add, Nat.add_zero, RE.lErr, err_ne, hne, condM_bool, if_true, hvl, cn4, wrap4r] at hcode4
   rw [← hcode4]
   rfl
 simp only [if_neg h37]
 have hrest : e.op = 8 ∨ e.op = 9 ∨ e.op = 10 ∨ e.op = 11 := by omega
 -- K with the flag
 have hK : ∀ y5 y6 y7 y8 : AV, OutR p full nm ((if v.kind = 1 then
    (if e.op = 8 ∨ e.op = 9 then (if (v.n == 1) = (e.op == 9) then .ok (truthV (e.op == 9)) else (boolX (evalX p n own ns vs e.args[1]!)).bind fun y => .ok (truthV y))
    else if e.op = 10 then .ok (truthV !(v.n == 1))
    else (if (v.n == 1) = true then evalX p n own ns vs e.args[1]! else evalX p n own ns vs e.args[2]!))
   else .er 13 : X Val) s1) (K88_0 (callW pg) fixW [.hp 0 0, .ip [.int .i64 own, strs ns, vals vs], .ip (acells e.av), .ip (acells v.av), .bool true, y5, y6, y7, y8] h2) := by
  intro y5 y6 y7 y8
  generalize hcode3 : K88_0 (callW pg) fixW [.hp 0 0, .ip [.int .i64 own, strs ns, vals vs], .ip (acells e.av), .ip (acells v.av), .bool true, y5, y6, y7, y8] h2 = code3
  simp -implicitDefEqProofs only [K88_0, nth_zero, nth_succ, condM_bool, if_true, FA39_0, hvk, bnd_some, bin_neq, FA28_0, heop, bin_eql] at hcode3
  rw [← hcode3]
  by_cases hk : v.kind = 1
  rotate_left
  ·have hk' : (v.kind != 1) = true := by simpa using hk
   simp only [hk', if_true, if_neg hk]
   exact out_fail R2 13 (by decide)
  have hk' : (v.kind != 1) = false := by simp [hk]
  obtain ⟨hv01, hvt⟩ := right_boolV rv hk
  simp only [hk', Bool.false_eq_true, if_false, if_pos hk]
  by_cases h10 : e.op = 10
  ·have b10 : (e.op == 10) = true := by simp [h10]
   have n89 : ¬ (e.op = 8 ∨ e.op = 9) := by omega
   simp only [b10, if_true, if_neg n89, if_pos h10, FA39_1, hvn, bnd_some, bin_eql, htr]
   have : (v.n == 0) = !(v.n == 1) := by rcases hv01 with h | h <;> rw [h] <;> rfl
   rw [this]
   exact out_ok R2
  have b10 : (e.op == 10) = false := by simpa using h10
  simp only [b10, Bool.false_eq_true, if_false, if_neg h10]
  by_cases h11 : e.op = 11
  ·have b11 : (e.op == 11) = true := by simp [h11]
   have n89 : ¬ (e.op = 8 ∨ e.op = 9) := by omega
   have hl3 : e.args.length = 3 := by rw [h11] at hlen; simp [argsN] at hlen; omega
   have hw : IntKind.i64.wrap (2 - v.n) = 2 - v.n := wrap_in (by omega) (by omega)
   simp only [b11, if_true, if_neg n89, hscl, bnd_some, FA28_5, hes, FA39_1, hvn, bin_sub, hw]
   rcases hv01 with h | h
   ·have hf : ¬ ((v.n == 1) = true) := by rw [h]; decide
    have i2 : indexAddrA T 26 (exps e.args) (.int .i64 (2 - v.n)) = some (.ip (acells e.args[2]!.av)) := by
     rw [h]; exact ixN 2 (by omega)
    simp only [if_neg hf, i2, bnd_some, hex]
    exact outR_ev IH own ns vs _ R2 G2 hn2 hs2 (hmem 2 (by omega))
   ·have hf : (v.n == 1) = true := by rw [h]; decide
    have i1 : indexAddrA T 26 (exps e.args) (.int .i64 (2 - v.n)) = some (.ip (acells e.args[1]!.av)) := by
     rw [h]; exact ixN 1 (by omega)
    simp only [if_pos hf, i1, bnd_some, hex]
    exact outR_ev IH own ns vs _ R2 G2 hn2 hs2 (hmem 1 (by omega))
  have b11 : (e.op == 11) = false := by simpa using h11
  have h89 : e.op = 8 ∨ e.op = 9 := by omega
  have hl2 : 1 < e.args.length := by
   rcases h89 with h | h <;> rw [h] at hlen <;> simp [argsN] at hlen <;> omega
  have i1 : indexAddrA T 26 (exps e.args) (.int .i64 1) = some (.ip (acells e.args[1]!.av)) := ixN 1 hl2
  simp only [b11, Bool.false_eq_true, if_false, if_pos h89, FA39_1, hvn, bnd_some, bin_eql, eq_bool, condM_bool]
  by_cases hx : (v.n == 1) = (e.op == 9)
  ·have hxb : ((v.n == 1) == (e.op == 9)) = true := by rw [hx]; simp
   simp only [hxb, if_true, if_pos hx, hvl, bnd_some, cn4, bnd_pure, wrap4r]
   have : v = truthV (e.op == 9) := by rw [← hx]; exact hvt
   rw [← this]
   exact out_ok R2
  ·have hxb : ((v.n == 1) == (e.op == 9)) = false := by simpa using hx
   simp only [hxb, Bool.false_eq_true, if_false, if_neg hx, hscl, bnd_some, FA28_5, hes, i1, hex]
   have hbx : (boolX (evalX p n own ns vs e.args[1]!)).bind (fun y => X.ok (truthV y)) = (evalX p n own ns vs e.args[1]!).bind (fun w => if w.kind = 1 then .ok (truthV (w.n == 1)) else .er 13) := by
    unfold boolX
    funext s
    simp only [X.bind]
    cases evalX p n own ns vs e.args[1]! s with
    | ok w t => simp only; by_cases hw : w.kind = 1 <;> simp [hw, X.ok, X.er]
    | er c t => rfl
   rw [hbx]
   refine outR_bind (IH own ns vs _ s1 h2 R2 G2 hn2 hs2 (hmem 1 hl2)) (fun a s h => eval_ne h) (fun b s3 h3 hb R3 => ?_) (fun c s w h' hc RE => ?_)
   ·obtain ⟨G3, rb, f3⟩ := G2.eval hs.right hb
    generalize hcode4 : bnd (cellsM 4 b.av) _ h3 = code4
    simp -implicitDefEqProofs only [okEl_c, bnd_pure, acells_agg, nilChkA_hp, bnd_some, FH95_1, FH43_0, Nat.zero_add, Nat.add_zero, R3.lErr, err_eq, beq_self_eq_true, hvk, bin_neq, guardM_pure1, nth_zero, pickA_and, Bool.true_and, condM_bool, hvl, cn4, wrap4r] at hcode4
    rw [← hcode4]
    by_cases hbk : b.kind = 1
    ·have hb' : (b.kind != 1) = false := by simp [hbk]
     simp only [hb', Bool.false_eq_true, if_false, if_pos hbk]
     rw [← (right_boolV rb hbk).2]
     exact out_ok R3
    ·have hb' : (b.kind != 1) = true := by simpa using hbk
     simp only [hb', if_true, if_neg hbk]
     exact out_fail R3 13 (by decide)
   ·have hneb : (c == 0) = false := by simpa using hc
    refine ⟨w, h', ?_, RE⟩
    generalize hcode4 : bnd (cellsM 4 w.av) _ h' = code4
    simp -implicitDefEqProofs only [okEl_c, bnd_pure, acells_agg, nilChkA_hp, bnd_some, FH95_1, FH43_0, Nat.zero_add, Nat.add_zero, RE.lErr, err_eq, hneb, guardM, List.replicate, pickA, condM_bool, Bool.false_eq_true, if_false, hvl, cn4, wrap4r] at hcode4
    rw [← hcode4]
    rfl
 have hK' := hK (.int .i64 0) (.int .i64 0) (.sl []) (.sl [])
 rcases hrest with h | h | h | h
 ·have b10 : (e.op == 10) = false := by rw [h]; rfl
  have b11 : (e.op == 11) = false := by rw [h]; rfl
  have b8 : (e.op == 8) = true := by rw [h]; rfl
  simp only [b10, b11, b8, Bool.false_eq_true, if_false, if_true]
  exact hK'
 ·have b10 : (e.op == 10) = false := by rw [h]; rfl
  have b11 : (e.op == 11) = false := by rw [h]; rfl
  have b8 : (e.op == 8) = false := by rw [h]; rfl
  have b9 : (e.op == 9) = true := by rw [h]; rfl
  simp only [b9] at hK'
  simp only [b10, b11, b8, b9, Bool.false_eq_true, if_false]
  exact hK'
 ·have b10 : (e.op == 10) = true := by rw [h]; rfl
  simp only [b10, if_true]
  exact hK'
 ·have b10 : (e.op == 10) = false := by rw [h]; rfl
  have b11 : (e.op == 11) = true := by rw [h]; rfl
  simp only [b10, b11, Bool.false_eq_true, if_false, if_true]
  exact hK'
end
end Go.Proofs.Ytgbopmciiadmlaa

namespace Go.Proofs.Ytgbopmciiadmlaa
open Go Go.Av Go.Av.Ap
theorem guard3 {β : Type} (c d b : Bool) (k : AV → M β) : bnd (guardM (gv c false (.bool d)) true 1 (M.pure [.bool b])) (fun v30 => bnd (guardM (.bool c) false 1 (bnd (lft (pickA (gv c false (.bool d)) (nth v30 0) (.bool false))) fun v31 => M.pure [v31])) fun v32 => bnd (lft (pickA (.bool c) (.bool true) (nth v32 0))) k) = k (.bool (c || (d && b))) := by
 cases c <;> cases d <;> rfl
section
variable {p : List Mod} {full : List Int} {nm : SNm} {m : Ms} {h : Hp}
theorem loop_rlook (R : RepR p full nm 0 m h) (own : Int) (ns : List Str) (vs : List Val) (e : Exp) (x1 x2 x3 x4 : AV) (hl : ns.length = vs.length) (hb : ns.length ≤ 1099511627776) : ∀ (i : Nat), i ≤ ns.length →
  OutR p full nm ((match lookV (ns.take i) (vs.take i) e.s with | some v => X.ok v | none => X.er 12) m) (fixW (L51_0 (callW pg) fixW) [.hp 0 0, .ip [.int .i64 own, strs ns, vals vs], .ip (acells e.av), .int .i64 ((i : Int) - 1), x1, x2, x3, x4] h)
 | 0, _ => by
  rw [FL51_0]
  have hge : decide ((0 : Int) ≤ ((0 : Nat) : Int) - 1) = false := rfl
  simp only [L51_0, nth_zero, nth_succ, bin_geq, bnd_some, condM_bool, hge, Bool.false_eq_true, if_false]
  exact out_fail R 12 (by decide)
 | i + 1, hi => by
  have ih := loop_rlook R own ns vs e x1 x2 x3 x4 hl hb i (by omega)
  have h1 : i < ns.length := by omega
  have h2 : i < vs.length := by omega
  have h3 : (ns.take (i + 1)) = ns.take i ++ [ns[i]] := by simp
  have h4 : (vs.take (i + 1)) = vs.take i ++ [vs[i]] := by simp
  rw [h3, h4, look_snoc _ _ _ _ _ (by simp; omega), FL51_0]
  have e1 : ((i + 1 : Nat) : Int) - 1 = (i : Int) := by omega
  rw [e1]
  have hge : decide ((0 : Int) ≤ (i : Int)) = true := by simp
  have hix := IX25 (l := ns) (n := (i : Int)) (by omega) (by omega)
  rw [show ((i : Int)).toNat = i by omega, getElem!_pos ns i h1] at hix
  have hiv := IX23 (l := vs) (n := (i : Int)) (by omega) (by omega)
  rw [show ((i : Int)).toNat = i by omega, getElem!_pos vs i h2] at hiv
  have l1 : loadA T 25 (.ip ([AV.int .i64 own, strs ns, vals vs].drop 1)) = some (strs ns) := rfl
  have l2 : loadA T 23 (.ip ([AV.int .i64 own, strs ns, vals vs].drop 2)) = some (vals vs) := rfl
  have hes : loadA T 9 (.ip ((acells e.av).drop 2)) = some (.str e.s) := by simp
  have hst : loadA T 9 (.ip (acells (AV.str ns[i]))) = some (.str ns[i]) := rfl
  have hvl : loadA T 39 (.ip (acells vs[i].av)) = some vs[i].av := by simp
  have hw : IntKind.i64.wrap ((i : Int) - 1) = (i : Int) - 1 := wrap_in (by omega) (by omega)
  simp only [L51_0, nth_zero, nth_succ, bin_geq, bnd_some, condM_bool, hge, if_true, FA101_1, FA101_2, l1, l2, hix, hst, FA28_2, hes, str_eql]
  by_cases hs : ns[i] = e.s
  ·have hsb : (ns[i] == e.s) = true := by simpa using hs
   simp only [hsb, if_true, if_pos hs, hiv, hvl, bnd_some]
   exact out_okc R
  ·have hsb : (ns[i] == e.s) = false := by simpa using hs
   simp only [hsb, Bool.false_eq_true, if_false, if_neg hs, bin_sub, bnd_some, hw]
   exact ih
theorem evR {full : List Int} (LB : LimB p) (hfl : full.length ≤ 1099511627776) : ∀ n, EvR p full nm n := by
 intro n
 induction n with
 | zero =>
  intro own ns vs e m h R G hn hs he
  have hf : m.fuel = 0 := by have := G.fuel; omega
  generalize hcode : callW pg 51 [.hp 0 0, scopeAv own ns vs, e.av] h = code
  rw [C51] at hcode
  simp -implicitDefEqProofs only [S51, nilChkA_hp, bnd_some, FH95_1, FH43_0, FH95_4, Nat.zero_add, Nat.add_zero, R.lErr, err_ne, bne_self_eq_false, condM_bool, Bool.false_eq_true, if_false, R.lFuel, hf, bin_leq, Int.le_refl, decide_true, if_true] at hcode
  rw [← hcode]
  exact out_fail R 16 (by decide)
 | succ n IH =>
  intro own ns vs e m h R G hn hs he
  obtain ⟨le1, le2⟩ := expLim_names he
  generalize hcode : callW pg 51 [.hp 0 0, scopeAv own ns vs, e.av] h = code
  rw [C51] at hcode
  simp -implicitDefEqProofs only [S51, nilChkA_hp, bnd_some, FH95_1, FH43_0, FH95_4, Nat.zero_add, Nat.add_zero, R.lErr, err_ne, bne_self_eq_false, condM_bool, Bool.false_eq_true, if_false, R.lFuel, bin_leq] at hcode
  by_cases hf : 0 < m.fuel
  rotate_left
  ·have e1 : evalX p (n + 1) own ns vs e m = .er 16 m := by
    show stepX p (evalX p n) own ns vs e m = _
    unfold stepX X.get
    simp only
    rw [if_pos (by omega)]
    rfl
   have hle : decide (m.fuel ≤ 0) = true := by simp; omega
   simp only [hle, if_true] at hcode
   rw [e1, ← hcode]
   exact out_fail R 16 (by decide)
  have hspec : evalX p (n + 1) own ns vs e m = (if argsN e.op = -2 ∨ (argsN e.op ≠ -1 ∧ argsN e.op ≠ e.args.length) then .er 13
   else if e.op = 0 then .ok (numV e.n)
   else if e.op = 1 then (if e.n = 0 ∨ e.n = 1 then .ok (truthV (e.n == 1)) else .er 13)
   else if e.op = 2 then (match lookV ns vs e.s with | some v => .ok v | none => .er 12)
   else if e.op = 12 then (evalX p n own ns vs e.args[0]!).bind fun v => evalX p n own (ns ++ [e.s]) (vs ++ [v]) e.args[1]!
   else if e.op = 13 then recordX (evalX p n own ns vs) e
   else if e.op = 15 then callX p (evalX p n) own ns vs e
   else if e.op = 16 then actX (evalX p n own ns vs e.args[0]!) e
   else if e.op = 17 ∨ e.op = 18 then varX p (evalX p n own ns vs) own e
   else opX (evalX p n own ns vs) e : X Val) (tickM m) := by
   show stepX p (evalX p n) own ns vs e m = _
   unfold stepX X.get
   simp only
   rw [if_neg (by omega)]
   show (if argsN e.op = -2 ∨ (argsN e.op ≠ -1 ∧ argsN e.op ≠ e.args.length) then _ else _ : X Val) (tickM m) = _
   congr 1
   by_cases hc : argsN e.op = -2 ∨ (argsN e.op ≠ -1 ∧ argsN e.op ≠ e.args.length)
   ·rw [if_pos hc, if_pos hc]
   rw [if_neg hc, if_neg hc]
   have hk : argsN e.op ≠ -2 := fun h => hc (.inl h)
   have hops : e.op = 0 ∨ e.op = 1 ∨ e.op = 2 ∨ e.op = 17 ∨ e.op = 10 ∨ e.op = 14 ∨ e.op = 16 ∨ e.op = 18 ∨ e.op = 3 ∨ e.op = 4 ∨ e.op = 5 ∨ e.op = 6 ∨ e.op = 7 ∨ e.op = 8 ∨ e.op = 9 ∨ e.op = 12 ∨ e.op = 11 ∨ e.op = 13 ∨ e.op = 15 := by
    refine Classical.byContradiction fun hno => hk ?_
    unfold argsN
    rw [if_neg (by omega), if_neg (by omega), if_neg (by omega), if_neg (by omega), if_neg (by omega)]
   rcases hops with h | h | h | h | h | h | h | h | h | h | h | h | h | h | h | h | h | h | h <;> simp only [h, opX] <;> rfl
  have hbm := G.bud
  have G1 : GoodM p (tickM m) := ⟨G.right, by simp only [mu, tickM] at hbm ⊢; omega, G.fr, by simp only [tickM]; omega, G.shape⟩
  have hmu : mu (tickM m) < 1000000 := by simp only [mu, tickM] at hbm ⊢; omega
  have hn1 : (tickM m).fuel ≤ n := by simp only [tickM]; omega
  have hft : (tickM m).fuel ≤ m.fuel := by simp only [tickM]; omega
  have hs1 : Sc p own ns vs (tickM m) := hs.less hft
  have hle : decide (m.fuel ≤ 0) = false := by simp; omega
  have hw : IntKind.i64.wrap (m.fuel - 1) = m.fuel - 1 := wrap_in (by omega) (by simp only [mu] at hbm; omega)
  obtain ⟨h1, s1, R1⟩ := R.sFuel (m.fuel - 1)
  have R1' : RepR p full nm 0 (tickM m) h1 := R1
  clear R1
  have heop : loadA T 3 (.ip ((acells e.av).drop 0)) = some (.int .i64 e.op) := by simp
  have hen : loadA T 3 (.ip ((acells e.av).drop 1)) = some (.int .i64 e.n) := by simp
  have hestr : loadA T 9 (.ip ((acells e.av).drop 2)) = some (.str e.s) := by simp
  have hes : loadA T 26 (.ip ((acells e.av).drop 5)) = some (exps e.args) := by simp
  have hel : lenA T 26 (exps e.args) = some (.int .i64 e.args.length) := LENE26 _
  have hscl : loadA T 101 (.ip [.int .i64 own, strs ns, vals vs]) = some (scopeAv own ns vs) := rfl
  have hexl : loadA T 28 (.ip (acells e.av)) = some e.av := by simp
  have hex : ∀ a : Exp, loadA T 28 (.ip (acells a.av)) = some a.av := fun a => by simp
  have hmem : ∀ k : Nat, k < e.args.length → expLim e.args[k]! := fun k hk => by
   rw [getElem!_pos e.args k hk]
   exact expLim_arg he (List.getElem_mem hk)
  have ixN : ∀ k : Nat, k < e.args.length → indexAddrA T 26 (exps e.args) (.int .i64 (k : Int)) = some (.ip (acells e.args[k]!.av)) := fun k hk => by
   have := IX26 (l := e.args) (n := (k : Int)) (by omega) (by omega)
   rw [show ((k : Int)).toNat = k by omega] at this
   exact this
  have hwrapR : ∀ {r : Rs Val} {c : M AV} {h : Hp}, OutR p full nm r (c h) → OutR p full nm r (bnd c (fun v => bnd (cellsNil 4 [] v) fun v => M.pure (AV.agg [nth (acells v) 0, nth (acells v) 1, nth (acells v) 2, nth (acells v) 3])) h) := fun {r c h} H => by
   cases r with
   | ok v s =>
    obtain ⟨h', e1, R'⟩ := H
    rw [bnd_ok e1, cn4, bnd_pure, wrap4r]
    exact ⟨h', rfl, R'⟩
   | er c s =>
    obtain ⟨w, h', e1, R'⟩ := H
    rw [bnd_ok e1, cn4, bnd_pure, wrap4r]
    exact ⟨w, h', rfl, R'⟩
  simp -implicitDefEqProofs only [hle, Bool.false_eq_true, if_false, bnd_some, R.lFuel, bin_sub, hw, s1, FA28_0, heop, t82, bnd_pure, bin_eql, bin_geq, guardM_pure1, nth_zero, FA28_5, hes, hel, bin_neq, condM_bool] at hcode
  simp -implicitDefEqProofs only [guard3, condM_bool] at hcode
  rw [hspec, ← hcode]
  clear hcode hspec
  by_cases hc : argsN e.op = -2 ∨ (argsN e.op ≠ -1 ∧ argsN e.op ≠ e.args.length)
  ·have hcb : (argsN e.op == -2 || (decide (0 ≤ argsN e.op) && argsN e.op != (e.args.length : Int))) = true := by
    rcases hc with h | ⟨h1, h2⟩
    ·simp [h]
    ·by_cases h3 : argsN e.op = -2
     ·simp [h3]
     ·have : 0 ≤ argsN e.op := by
       unfold argsN at h1 h3 ⊢
       split
       ·decide
       ·split
        ·decide
        ·split
         ·decide
         ·split
          ·decide
          ·split <;> simp_all
      simp [this, h2]
   simp only [hcb, if_true, if_pos hc]
   exact out_fail R1' 13 (by decide)
  have hcb : (argsN e.op == -2 || (decide (0 ≤ argsN e.op) && argsN e.op != (e.args.length : Int))) = false := by
   rw [← Bool.not_eq_true]
   simp only [Bool.or_eq_true, Bool.and_eq_true, beq_iff_eq, bne_iff_ne, decide_eq_true_eq]
   rintro (h | ⟨h1, h2⟩)
   ·exact hc (.inl h)
   ·exact hc (.inr ⟨by omega, h2⟩)
  simp only [hcb, Bool.false_eq_true, if_false, if_neg hc]
  by_cases o0 : e.op = 0
  ·have b0 : (e.op == 0) = true := by simp [o0]
   have hB : buildA T false 39 [(0, .int .i64 0), (1, .int .i64 e.n)] = some (numV e.n).av := rfl
   simp only [b0, if_true, if_pos o0, FA28_1, hen, bnd_some, hB]
   exact out_okc R1'
  have b0 : (e.op == 0) = false := by simpa using o0
  simp only [b0, Bool.false_eq_true, if_false, if_neg o0]
  by_cases o1 : e.op = 1
  ·have b1 : (e.op == 1) = true := by simp [o1]
   simp only [b1, if_true, if_pos o1, FA28_1, hen, bnd_some, bin_lss, bin_gtr, guardM_pure1, bnd_pure, nth_zero, pickA_or, condM_bool]
   by_cases hn01 : e.n = 0 ∨ e.n = 1
   ·have hb : (decide (e.n < 0) || decide (1 < e.n)) = false := by
     rcases hn01 with h | h <;> rw [h] <;> rfl
    simp only [hb, Bool.false_eq_true, if_false, if_pos hn01, bin_eql, bnd_some, t83, bnd_pure]
    exact out_okc R1'
   ·have hb : (decide (e.n < 0) || decide (1 < e.n)) = true := by
     simp only [Bool.or_eq_true, decide_eq_true_eq]
     omega
    simp only [hb, if_true, if_neg hn01]
    exact out_fail R1' 13 (by decide)
  have b1 : (e.op == 1) = false := by simpa using o1
  simp only [b1, Bool.false_eq_true, if_false, if_neg o1]
  by_cases o2 : e.op = 2
  ·have b2 : (e.op == 2) = true := by simp [o2]
   have hnb : ns.length ≤ 1099511627776 := by
    have := hs.len
    have := G.fuel
    omega
   have l1 : loadA T 25 (.ip ([AV.int .i64 own, strs ns, vals vs].drop 1)) = some (strs ns) := rfl
   have hll : lenA T 25 (strs ns) = some (.int .i64 ns.length) := LENE25 _
   have hwn : IntKind.i64.wrap ((ns.length : Int) - 1) = (ns.length : Int) - 1 := wrap_in (by omega) (by omega)
   have := loop_rlook R1' own ns vs e (.int .i64 0) (.int .i64 0) (.sl []) (.sl []) hs.right.1 hnb ns.length (Nat.le_refl _)
   rw [List.take_length, List.take_of_length_le (by have := hs.right.1; omega)] at this
   simp only [b2, if_true, if_pos o2, acells_scope, FA101_1, l1, hll, bin_sub, hwn, bnd_some]
   exact this
  have b2 : (e.op == 2) = false := by simpa using o2
  simp only [b2, Bool.false_eq_true, if_false, if_neg o2]
  by_cases o13 : e.op = 13
  ·have b13 : (e.op == 13) = true := by simp [o13]
   have o12 : ¬ e.op = 12 := by omega
   simp only [b13, if_true, if_neg o12, if_pos o13, acells_scope, hscl, hexl, bnd_some]
   exact hwrapR (t84 IH own ns vs e R1' G1 hn1 hs1 he)
  have b13 : (e.op == 13) = false := by simpa using o13
  simp only [b13, Bool.false_eq_true, if_false]
  by_cases o15 : e.op = 15
  ·have b15 : (e.op == 15) = true := by simp [o15]
   have o12 : ¬ e.op = 12 := by omega
   simp only [b15, if_true, if_neg o12, if_neg o13, if_pos o15, acells_scope, hscl, hexl, bnd_some]
   exact hwrapR (t85 LB IH own ns vs e R1' G1 hmu hn1 hs1 he)
  have b15 : (e.op == 15) = false := by simpa using o15
  simp only [b15, Bool.false_eq_true, if_false]
  by_cases o16 : e.op = 16
  ·have b16 : (e.op == 16) = true := by simp [o16]
   have o12 : ¬ e.op = 12 := by omega
   have hl1 : e.args.length = 1 := by
    have : argsN e.op = 1 := by rw [o16]; rfl
    rw [this] at hc
    omega
   obtain ⟨a, ha⟩ := len1 hl1
   have e0 : e.args[0]! = a := by rw [ha]; rfl
   simp only [b16, if_true, if_neg o12, if_neg o13, if_neg o15, if_pos o16, acells_scope, hscl, hexl, bnd_some, e0]
   exact hwrapR (t86 IH hfl own ns vs e a ha R1' G1 hmu hn1 hs1 he)
  have b16 : (e.op == 16) = false := by simpa using o16
  simp only [b16, Bool.false_eq_true, if_false, jn_def]
  by_cases o17 : e.op = 17 ∨ e.op = 18
  ·have o12 : ¬ e.op = 12 := by omega
   have hop : e.op = 17 ∨ e.op = 18 ∧ ∃ a, e.args = [a] := by
    rcases o17 with h | h
    ·exact .inl h
    ·refine .inr ⟨h, len1 ?_⟩
     have : argsN e.op = 1 := by rw [h]; rfl
     rw [this] at hc
     omega
   have hv := hwrapR (t87 LB IH own ns vs e hop R1' G1 hn1 hs1 he)
   have hb : (e.op == 17) = true ∨ (e.op == 17) = false ∧ (e.op == 18) = true := by
    rcases o17 with h | h
    ·exact .inl (by rw [h]; rfl)
    ·exact .inr ⟨by rw [h]; rfl, by rw [h]; rfl⟩
   simp only [if_neg o12, if_neg o13, if_neg o15, if_neg o16, if_pos o17, acells_scope]
   rcases hb with hb | ⟨hb1, hb2⟩
   ·simp only [hb, if_true, K51_0, nth_zero, nth_succ, condM_bool, hscl, hexl, bnd_some]
    exact hv
   ·simp only [hb1, hb2, Bool.false_eq_true, if_false, if_true, K51_0, nth_zero, nth_succ, condM_bool, hscl, hexl, bnd_some]
    exact hv
  have b17 : (e.op == 17) = false := by simp; omega
  have b18 : (e.op == 18) = false := by simp; omega
  simp only [if_neg o13, if_neg o15, if_neg o16, if_neg o17, b17, b18, Bool.false_eq_true, if_false, K51_0, nth_zero, nth_succ, condM_bool, acells_scope, bin_eql, bnd_some]
  by_cases o12 : e.op = 12
  ·have b12 : (e.op == 12) = true := by simp [o12]
   have hl2 : e.args.length = 2 := by
    have : argsN e.op = 2 := by rw [o12]; rfl
    rw [this] at hc
    omega
   have i0 : indexAddrA T 26 (exps e.args) (.int .i64 0) = some (.ip (acells e.args[0]!.av)) := ixN 0 (by omega)
   have i1 : indexAddrA T 26 (exps e.args) (.int .i64 1) = some (.ip (acells e.args[1]!.av)) := ixN 1 (by omega)
   have hnb : ns.length ≤ 1099511627776 ∧ vs.length ≤ 1099511627776 := by
    have := hs.len
    have := G.fuel
    have := hs.right.1
    omega
   have hvl : ∀ v : Val, loadA T 39 (.ip (acells v.av)) = some v.av := fun v => by simp
   simp only [b12, if_true, if_pos o12, hscl, bnd_some, FA28_5, hes, i0, hex]
   refine outR_bind (IH own ns vs _ (tickM m) h1 R1' G1 hn1 hs1 (hmem 0 (by omega))) (fun a s h => eval_ne h) (fun v s2 h2 hv R2 => ?_) (fun c s w h' hc RE => ?_)
   ·obtain ⟨G2, rv, f2⟩ := G1.eval hs1.right hv
    have hwt := t72 own ns vs e.s v hnb.1 hnb.2
    simp only [okEl_c, bnd_pure, acells_agg, bnd_some, FA28_2, hestr, hvl, hwt, noPan_pure, i1, hex]
    refine hwrapR (IH own (ns ++ [e.s]) (vs ++ [v]) _ s2 h2 R2 G2 (by omega) ⟨hs.own, ⟨by simp [hs.right.1], fun w hw => ?_⟩, ?_⟩ (hmem 1 (by omega)))
    ·rcases List.mem_append.1 hw with k | k
     ·exact hs.right.2 w k
     ·simp only [List.mem_singleton] at k; subst k; exact rv
    ·have hsl := hs.len
     have htk : (tickM m).fuel = m.fuel - 1 := rfl
     simp only [List.length_append, List.length_singleton]
     omega
   ·have hwt := t72 own ns vs e.s w hnb.1 hnb.2
    have hev := eval_er hc RE (scopeAv own (ns ++ [e.s]) (vs ++ [w])) (e.args[1]!).av
    refine ⟨default, h', ?_, RE⟩
    simp only [okEl_c, bnd_pure, acells_agg, bnd_some, FA28_2, hestr, hvl, hwt, noPan_pure, i1, hex]
    rw [bnd_ok hev, cn4, bnd_pure, wrap4r]
    rfl
  have b12 : (e.op == 12) = false := by simpa using o12
  simp only [b12, Bool.false_eq_true, if_false, if_neg o12, hscl, hexl, bnd_some]
  have hk : argsN e.op ≠ -2 := fun h => hc (.inl h)
  have hops : e.op = 3 ∨ e.op = 4 ∨ e.op = 5 ∨ e.op = 6 ∨ e.op = 7 ∨ e.op = 8 ∨ e.op = 9 ∨ e.op = 10 ∨ e.op = 11 ∨ e.op = 14 := by
   refine Classical.byContradiction fun hno => hk ?_
   unfold argsN
   rw [if_neg (by omega), if_neg (by omega), if_neg (by omega), if_neg (by omega), if_neg (by omega)]
  have hlen : argsN e.op = e.args.length := by
   have h1 : argsN e.op ≠ -1 := by
    unfold argsN
    rcases hops with h | h | h | h | h | h | h | h | h | h <;> rw [h] <;> decide
   exact Classical.byContradiction fun h => hc (.inr ⟨h1, h⟩)
  exact hwrapR (t88 IH own ns vs e hops hlen R1' G1 hn1 hs1 he)
end
end Go.Proofs.Ytgbopmciiadmlaa

namespace Go.Proofs.Ytgbopmciiadmlaa
open Go Go.Av Go.Av.Ap
theorem fitsRP : ∀ (d : Nat) (v : Val), fitsR d v = fitsP d v := by
 intro d
 induction d with
 | zero => intro v; simp [fitsR, fitsP]
 | succ d ih =>
  intro v
  have hfd : fitsR d = fitsP d := funext ih
  unfold fitsR fitsP
  rw [hfd]
  by_cases hk0 : v.kind = 0
  ·by_cases hl : v.names.length = v.values.length
   ·rw [if_neg (by omega), if_pos hk0, if_pos (by simp [hk0]), Bool.eq_iff_iff]
    simp only [Bool.and_eq_true, Bool.or_eq_true, beq_iff_eq]
    omega
   ·rw [if_pos (.inr hl), if_pos (by simp [hk0])]
    symm
    rw [Bool.and_eq_false_iff]
    left
    rw [← Bool.not_eq_true]
    simp only [Bool.and_eq_true, beq_iff_eq]
    omega
  by_cases hk1 : v.kind = 1
  ·by_cases hl : v.names.length = v.values.length
   ·have e1 : (v.names.length == 0 && decide (0 ≤ v.n) && decide (v.n ≤ 1)) = (v.names.length == 0 && v.values.length == 0 && (v.kind == 0 || v.n == 0 || v.n == 1)) := by
     rw [hl, Bool.eq_iff_iff]
     simp only [Bool.and_eq_true, Bool.or_eq_true, beq_iff_eq, decide_eq_true_eq]
     constructor
     ·rintro ⟨⟨a, b⟩, c⟩
      exact ⟨⟨a, a⟩, by omega⟩
     ·rintro ⟨⟨a, _⟩, c⟩
      refine ⟨⟨a, ?_⟩, ?_⟩ <;> rcases c with (c | c) | c <;> omega
    rw [if_neg (by omega), if_neg hk0, if_pos hk1, if_pos (by simp [hk1])]
    exact e1
   ·rw [if_pos (.inr hl), if_pos (by simp [hk1])]
    symm
    rw [Bool.and_eq_false_iff]
    left
    rw [← Bool.not_eq_true]
    simp only [Bool.and_eq_true, beq_iff_eq]
    omega
  by_cases hk2 : v.kind = 2
  ·rw [if_neg (show ¬ ((v.kind == 0 || v.kind == 1) = true) by simp [hk2])]
   by_cases hl : v.names.length = v.values.length
   ·rw [if_neg (by omega), if_neg hk0, if_neg hk1]
    by_cases hn : v.n = 0
    ·by_cases h8 : 8 < v.names.length
     ·rw [if_pos (.inl (.inr h8))]
      have : decide (v.names.length ≤ 8) = false := by simp; omega
      simp [this]
     ·have h8' : decide (v.names.length ≤ 8) = true := by simp; omega
      cases ha : asc v.names with
      | false => simp
      | true =>
       rw [if_neg (by simp [hn]; omega)]
       simp [hk2, hn, hl] at h8' ⊢
       omega
    ·rw [if_pos (.inl (.inl hn))]
     simp [hn]
   ·rw [if_pos (.inr hl)]
    have : (v.names.length == v.values.length) = false := by simpa using hl
    simp [this]
  ·rw [if_pos (.inl (by omega)), if_neg (by simp [hk0, hk1])]
   have : (v.kind == 2) = false := by simpa using hk2
   simp [this]
theorem idx_first {α : Type} (F : α → Bool) : ∀ (l : List α) (i : Nat) (h : i < l.length) (c : Int), F l[i] = true → ((idxAt F l c = c + i) ↔ (l.take i).any F = false)
 | x :: l, 0, h, c, hF => by
  have : F x = true := hF
  simp [idxAt, this]
 | x :: l, i + 1, h, c, hF => by
  have h' : i < l.length := by simpa using h
  have ih := idx_first F l i h' (c + 1) (by simpa using hF)
  simp only [idxAt, List.take_succ_cons, List.any_cons]
  cases hx : F x with
  | true =>
   simp only [if_true, Bool.true_or, Bool.true_eq_false, iff_false]
   omega
  | false =>
   simp only [Bool.false_eq_true, if_false, Bool.false_or]
   rw [← ih]
   omega
theorem t33 (p : List Mod) (hp : p.length ≤ 1099511627776) : callW pg 33 [mods p] = M.pure (.int .i64 (namesX p)) := by
 have loop : ∀ (n i : Nat), p.length - i = n → i ≤ p.length → fixW (L33_0 (callW pg) fixW) [mods p, .int .i64 i] = M.pure (.int .i64 (if ((List.range' i (p.length - i)).any fun k => (p.take k).any fun m => m.name == (p[k]?.getD default).name) = true then 5 else 0)) := by
  intro n
  induction n with
  | zero =>
   intro i hn hi
   obtain rfl : i = p.length := by omega
   rw [FL33_0]
   have hll : lenA T 22 (mods p) = some (.int .i64 p.length) := LENE22 _
   simp only [L33_0, nth_zero, nth_succ, hll, bin_lss, bnd_some, condM_bool, Int.lt_irrefl, decide_false, Bool.false_eq_true, if_false]
   simp
  | succ n ih =>
   intro i hn hi
   have hlt : i < p.length := by omega
   have h1 : (i : Int) < (p.length : Int) := by omega
   have hll : lenA T 22 (mods p) = some (.int .i64 p.length) := LENE22 _
   have hix := IX22 (l := p) (n := (i : Int)) (by omega) h1
   rw [show ((i : Int)).toNat = i by omega, getElem!_pos p i hlt] at hix
   have hmd := t44 p hp p[i].name
   have hnm : loadA T 9 (.ip ((acells p[i].av).drop 0)) = some (.str p[i].name) := by simp
   have hw : IntKind.i64.wrap ((i : Int) + 1) = ((i + 1 : Nat) : Int) := wrap_add1 (by omega)
   have hrange : List.range' i (p.length - i) = i :: List.range' (i + 1) (p.length - (i + 1)) := by
    rw [show p.length - i = (p.length - (i + 1)) + 1 by omega, List.range'_succ]
   have hgi : (p[i]?.getD default) = p[i] := by rw [List.getElem?_eq_getElem hlt]; rfl
   have hfst := idx_first (fun m : Mod => m.name == p[i].name) p i hlt 0 (by simp)
   rw [FL33_0]
   simp only [L33_0, nth_zero, nth_succ, hll, bin_lss, bnd_some, condM_bool, h1, decide_true, if_true, hix, FA63_0, hnm, hmd, bnd_pure, bin_neq]
   rw [hrange]
   simp only [List.any_cons, hgi]
   cases ha : (p.take i).any (fun m => m.name == p[i].name) with
   | true =>
    have : ¬ (modAt p p[i].name = (i : Int)) := fun h => by
     have := hfst.1 (by rw [← h]; simp [modAt])
     rw [ha] at this; cases this
    have hb : (modAt p p[i].name != (i : Int)) = true := by simpa using this
    simp [hb]
   | false =>
    have : modAt p p[i].name = (i : Int) := by
     have := hfst.2 ha
     simpa [modAt] using this
    have hb : (modAt p p[i].name != (i : Int)) = false := by simp [this]
    simp only [hb, Bool.false_eq_true, if_false, bin_add, bnd_some, hw, Bool.false_or]
    exact ih (i + 1) (by omega) (by omega)
 have hl := loop p.length 0 rfl (by omega)
 have hll : lenA T 22 (mods p) = some (.int .i64 p.length) := LENE22 _
 have hS : S33 (callW pg) fixW (mods p) = M.pure (.int .i64 (namesX p)) := by
  unfold namesX
  by_cases h20 : 20 < p.length
  ·have hd : decide ((20 : Int) < (p.length : Int)) = true := by simp; omega
   simp only [S33, hll, bin_gtr, bnd_some, condM_bool, hd, if_true, if_pos h20]
  ·have hd : decide ((20 : Int) < (p.length : Int)) = false := by simp; omega
   simp only [S33, hll, bin_gtr, bnd_some, condM_bool, hd, Bool.false_eq_true, if_false, if_neg h20]
   have hz : ((0 : Nat) : Int) = 0 := rfl
   rw [hz] at hl
   rw [hl]
   unfold twice
   rw [List.range_eq_range']
   rfl
 rw [C33, cl_mods, hS, isoP_int]
theorem t43 (p : List Mod) (st : List Vars) (hp : p.length ≤ 1099511627776) (hv : ∀ v ∈ st, valsSz v.values ≤ 4611686018427387904) : callW pg 43 [mods p, varss st] = M.pure (.bool (belongs p st)) := by
 rw [C43, cl_mods, cl_varss]
 have hlm : lenA T 22 (mods p) = some (.int .i64 p.length) := LENE22 _
 have hls : lenA T 32 (varss st) = some (.int .i64 st.length) := LENE32 _
 have hS : S43 (callW pg) fixW (mods p) (varss st) = M.pure (.bool (belongs p st)) := by
  by_cases hl : p.length = st.length
  ·have hb : ((p.length : Int) != (st.length : Int)) = false := by simp [hl]
   have hloop := fix_all (FL43_0 (callW pg)) (fun k => [mods p, varss st, .int .i64 (k : Int)]) p.length (fun k => (st[k]!.module == p[k]!.name) && ((st[k]!.values.length == p[k]!.vars.length) && st[k]!.values.all (fitsP 4)))
    (by
     have hlt : ¬ ((p.length : Int) < (st.length : Int)) := by omega
     simp only [L43_0, nth_zero, nth_succ, hls, bin_lss, bnd_some, condM_bool, hlt, decide_false, Bool.false_eq_true, if_false])
    (fun k hk => by
     have a1 : k < st.length := by omega
     have hk' : (k : Int) < (st.length : Int) := by omega
     have hix := IX22 (l := p) (n := (k : Int)) (by omega) (by omega)
     rw [show ((k : Int)).toNat = k by omega] at hix
     have his := IX32 (l := st) (n := (k : Int)) (by omega) hk'
     rw [show ((k : Int)).toNat = k by omega] at his
     have hra := t46 st[k]!.values (hv _ (by rw [getElem!_pos st k a1]; exact List.getElem_mem a1))
     have hfe : (fitsR 4) = (fitsP 4) := funext (fitsRP 4)
     rw [hfe] at hra
     have hw : IntKind.i64.wrap ((k : Int) + 1) = ((k + 1 : Nat) : Int) := wrap_add1 (by omega)
     generalize st[k]! = s at *
     generalize p[k]! = q at *
     have n1 : loadA T 9 (.ip ((acells s.av).drop 0)) = some (.str s.module) := rfl
     have n2 : loadA T 9 (.ip ((acells q.av).drop 0)) = some (.str q.name) := by simp
     have n3 : loadA T 23 (.ip ((acells s.av).drop 1)) = some (vals s.values) := rfl
     have n4 : loadA T 58 (.ip ((acells q.av).drop 2)) = some (flds q.vars) := by simp
     have n5 : lenA T 23 (vals s.values) = some (.int .i64 s.values.length) := LENE23 _
     have n6 : lenA T 58 (flds q.vars) = some (.int .i64 q.vars.length) := LENE58 _
     have hx : ((s.values.length : Int) != (q.vars.length : Int)) = !(s.values.length == q.vars.length) := by
      by_cases h : s.values.length = q.vars.length
      ·simp [h]
      ·have h1 : (s.values.length == q.vars.length) = false := by simpa using h
       have h2 : ((s.values.length : Int) != (q.vars.length : Int)) = true := by simp; omega
       rw [h1, h2]; rfl
     simp only [L43_0, nth_zero, nth_succ, hls, bin_lss, bnd_some, condM_bool, hk', decide_true, if_true, his, hix, FA47_0, FA47_1, FA63_0, FA63_2, n1, n2, n3, n4, n5, n6, str_neq, bin_neq, hx, guardM_pure1, bnd_pure, pickA_or, hra, noPan_pure, unA_not, bin_add, hw]
     cases (s.module == q.name) <;> cases (s.values.length == q.vars.length) <;> cases s.values.all (fitsP 4) <;> rfl) 0 (Nat.zero_le _)
   have := all_range2 (fun (m : Mod) (v : Vars) => v.module == m.name && (v.values.length == m.vars.length && v.values.all (fitsP 4))) p st hl
   simp only [Nat.sub_zero, this] at hloop
   simp only [S43, hlm, hls, bin_neq, bnd_some, condM_bool, hb, Bool.false_eq_true, if_false]
   exact hloop
  ·have hb : ((p.length : Int) != (st.length : Int)) = true := by simp; omega
   have : belongs p st = false := all2_length _ p st hl
   simp only [S43, hlm, hls, bin_neq, bnd_some, condM_bool, hb, if_true, this]
 rw [hS, isoP_bool]
theorem repR_exp : RepR [] [] nm0 0 (startM [] 100000 []) [[.hn, .int .i64 0, .int .i64 0, .int .i64 0, .hn, .hn, .hn, .hn, .hn, .hn, .int .i64 0, .int .i64 100000, .int .i64 0]] :=
 ⟨List.suffix_refl _, fun _ => rfl, fun _ => 0, .hn, .hn, .hn, rfl, rfl, .inl ⟨rfl, rfl⟩, .inl ⟨rfl, rfl⟩, .inl ⟨rfl, rfl⟩, rfl, fun _ => rfl⟩
theorem t20 (e : Exp) (ns : List Str) (vs : List Val) (he : expLim e) (hn : ns.length ≤ 274877906944) (hv : valsSz vs ≤ 4611686018427387904) : callW pg 20 [e.av, strs ns, vals vs] = M.pure (pairOf (expX e ns vs)) := by
 have hra := t46 vs hv
 have hfe : (fitsR 4) = (fitsP 4) := funext (fitsRP 4)
 rw [hfe] at hra
 have hB : buildA T true 95 [(4, .int .i64 100000)] = some (.agg [.hn, .int .i64 0, .int .i64 0, .int .i64 0, .hn, .hn, .hn, .hn, .hn, .hn, .int .i64 0, .int .i64 100000, .int .i64 0]) := rfl
 have hBS : buildA T false 101 [(0, .int .i64 (-1)), (1, strs ns), (2, vals vs)] = some (scopeAv (-1) ns vs) := rfl
 have hnew : ∀ g : AV → M AV, bnd (newH [.hn, .int .i64 0, .int .i64 0, .int .i64 0, .hn, .hn, .hn, .hn, .hn, .hn, .int .i64 0, .int .i64 100000, .int .i64 0]) g [] = g (.hp 0 0) [[.hn, .int .i64 0, .int .i64 0, .int .i64 0, .hn, .hn, .hn, .hn, .hn, .hn, .int .i64 0, .int .i64 100000, .int .i64 0]] := fun g => rfl
 have hex : loadA T 28 (.ip (acells e.av)) = some e.av := by simp
 have hvl : ∀ v : Val, loadA T 39 (.ip (acells v.av)) = some v.av := fun v => by simp
 have hpair : ∀ v : Val, ∀ x : AV, (M.pure (AV.tup [AV.agg [nth (acells v.av) 0, nth (acells v.av) 1, nth (acells v.av) 2, nth (acells v.av) 3], x]) : M AV) = M.pure (.tup [v.av, x]) := fun v x => by
  rw [acells_val, Val.av_eq]; rfl
 rw [C20, cl_strs, cl_vals, cl_exp]
 unfold expX
 obtain ⟨code, hS⟩ : ∃ c, S20 (callW pg) fixW e.av (strs ns) (vals vs) [] = c := ⟨_, rfl⟩
 have hcode := hS
 have hgu : guardM (.bool ((ns.length : Int) != (vs.length : Int))) false 1 (M.pure [.bool !(vs.all (fitsP 4))]) = M.pure [gv ((ns.length : Int) != (vs.length : Int)) false (.bool !(vs.all (fitsP 4)))] := guardM_pure1 _ _ _
 simp -implicitDefEqProofs only [S20, LENE25, LENE23, bnd_some, bin_neq, hra, bnd_pure, unA_not, hgu, nth_zero, pickA_or, condM_bool] at hcode
 by_cases hr : ns.length = vs.length ∧ vs.all (fitsP 4) = true
 ·rw [if_pos hr]
  have hb : ((ns.length : Int) != (vs.length : Int) || !(vs.all (fitsP 4))) = false := by simp [hr.1, hr.2]
  have hrs : RightS ns vs := ⟨hr.1, fun v hv => (List.all_eq_true.1 hr.2) v hv⟩
  have hev := evR (full := []) limB_nil (by simp) 100000 (-1) ns vs e _ _ repR_exp good_exp (by simp [startM]) ⟨by simp, hrs, by simp only [startM]; omega⟩ he
  simp -implicitDefEqProofs only [hb, Bool.false_eq_true, if_false, hB, bnd_some, acells_agg, hnew, hBS, hex] at hcode
  cases hx : evalX [] 100000 (-1) ns vs e (startM [] 100000 []) with
  | ok v s =>
   rw [hx] at hev
   obtain ⟨h', e1, R'⟩ := hev
   rw [bnd_ok e1] at hcode
   simp -implicitDefEqProofs only [okEl_c, bnd_pure, acells_agg, nilChkA_hp, bnd_some, FH95_1, FH43_0, Nat.zero_add, Nat.add_zero, R'.lErr, err_ne, bne_self_eq_false, condM_bool, Bool.false_eq_true, if_false, hvl, cn4, hpair] at hcode
   exact isoP_ok (h' := h') (hS.trans hcode.symm) fun g => cl_pair g _ _
  | er c s =>
   rw [hx] at hev
   have hc0 : (c != 0) = true := by have := eval_err hx; simpa using this
   obtain ⟨w, h', e1, R'⟩ := hev
   rw [bnd_ok e1] at hcode
   simp -implicitDefEqProofs only [okEl_c, bnd_pure, acells_agg, nilChkA_hp, bnd_some, FH95_1, FH43_0, Nat.zero_add, Nat.add_zero, R'.lErr, err_ne, hc0, condM_bool, if_true, build_zero, cn4, hpair] at hcode
   exact isoP_ok (h' := h') (hS.trans hcode.symm) fun g => cl_pair g _ _
 ·rw [if_neg hr]
  have hb : ((ns.length : Int) != (vs.length : Int) || !(vs.all (fitsP 4))) = true := by
   by_cases h1 : ns.length = vs.length
   ·have : vs.all (fitsP 4) = false := by
     rw [← Bool.not_eq_true]
     exact fun h2 => hr ⟨h1, h2⟩
    simp [this]
   ·have : ((ns.length : Int) != (vs.length : Int)) = true := by
     rw [bne_iff_ne]
     omega
    simp [this]
  simp -implicitDefEqProofs only [hb, if_true, build_zero, bnd_some, cn4, bnd_pure, hpair] at hcode
  exact isoP_ok (h' := []) (hS.trans hcode.symm) fun g => cl_pair g _ _
theorem rfresh_in (outer : List AV → M AV) (p : List Mod) (out : List Vars) (k : Int) (x : Mod) (hes : ∀ e ∈ x.init, expLim e) (hlen : x.init.length ≤ 274877906944) (hout : out.length ≤ 1099511627776) (hk1 : -4611686018427387904 ≤ k) (hk2 : k ≤ 4611686018427387904) : ∀ (B A : List Exp) (acc : List Val), A ++ B = x.init → acc.length = A.length →
  fixW (L11_0 (callW pg) fixW outer) [mods p, varss out, .int .i64 k, .ip (acells x.av), .int .i64 A.length, .str x.name, vals acc] =
  match initL B with
  | .error c => M.pure (.tup [.sl [], .int .i64 c])
  | .ok vs => outer [mods p, varss (out ++ [⟨x.name, acc ++ vs⟩]), .int .i64 (k + 1)]
 | [], A, acc, e, hac => by
  simp only [List.append_nil] at e
  subst e
  have hle : lenA T 26 (exps x.init) = some (.int .i64 x.init.length) := LENE26 _
  have hes5 : loadA T 26 (.ip ((acells x.av).drop 3)) = some (exps x.init) := by simp
  have hb : buildSliceA T 32 1 [(0, .agg [.str x.name, vals acc])] = some (varss [⟨x.name, acc⟩]) := rfl
  have ha : appA T 32 (varss out) (varss [⟨x.name, acc⟩]) = some (varss (out ++ [⟨x.name, acc⟩])) := AP32 (by simp; omega)
  have hw : IntKind.i64.wrap (k + 1) = k + 1 := wrap_in (by omega) (by omega)
  rw [FL11_0]
  simp -implicitDefEqProofs only [L11_0, nth_zero, nth_succ, FA63_3, hes5, hle, bin_lss, bnd_some, condM_bool, Int.lt_irrefl, decide_false, Bool.false_eq_true, if_false, hb, ha, bin_add, hw]
  simp [initL]
 | y :: B, A, acc, e, hac => by
  have hll : A.length + (B.length + 1) = x.init.length := by rw [← e]; simp
  have h1 : (A.length : Int) < (x.init.length : Int) := by omega
  have hx : x.init[A.length]'(by omega) = y := by simp [← e]
  have hm : y ∈ x.init := by rw [← e]; simp
  have hix := IX26 (l := x.init) (n := (A.length : Int)) (by omega) h1
  rw [show ((A.length : Int)).toNat = A.length by omega, getElem!_pos x.init A.length (by omega), hx] at hix
  have hex : loadA T 28 (.ip (acells y.av)) = some y.av := by simp
  have hle : lenA T 26 (exps x.init) = some (.int .i64 x.init.length) := LENE26 _
  have hes5 : loadA T 26 (.ip ((acells x.av).drop 3)) = some (exps x.init) := by simp
  have hcall : callW pg 20 [y.av, .sl [], .sl []] = M.pure (pairOf (expX y [] [])) := t20 y [] [] (hes y hm) (by simp) (by simp [valsSz])
  have hw : IntKind.i64.wrap ((A.length : Int) + 1) = ((A.length + 1 : Nat) : Int) := wrap_add1 (by omega)
  rw [FL11_0]
  simp -implicitDefEqProofs only [L11_0, nth_zero, nth_succ, FA63_3, hes5, hle, bin_lss, bnd_some, condM_bool, h1, decide_true, if_true, hix, hex, hcall, bnd_pure]
  unfold initL
  cases hr : expX y [] [] with
  | er c s =>
   have hc0 : (c != 0) = true := by
    have := expX_err hr
    simpa using this
   simp -implicitDefEqProofs only [pairOf, extractA_tup, List.getElem?_cons_zero, List.getElem?_cons_succ, bnd_some, cellsM_of (okEl_val default), bnd_pure, err_ne, hc0, condM_bool, if_true]
  | ok v s =>
   have hb2 : buildSliceA T 23 1 [(0, v.av)] = some (vals [v]) := by rw [v.av_eq]; simp [vals, valsAv, v.av_eq]; rfl
   have ha2 : appA T 23 (vals acc) (vals [v]) = some (vals (acc ++ [v])) := AP23 (by simp; omega)
   have hc1 : cell1M (vals (acc ++ [v])) = M.pure (vals (acc ++ [v])) := rfl
   have hvv : ∀ v : Val, AV.agg (acells v.av) = v.av := fun v => by simp
   have h00 : ((0 : Int) != 0) = false := rfl
   have hvl : loadA T 39 (.ip (acells v.av)) = some v.av := by simp
   have ih := rfresh_in outer p out k x hes hlen hout hk1 hk2 B (A ++ [y]) (acc ++ [v]) (by rw [← e]; simp) (by simp [hac])
   simp only [List.append_assoc, List.singleton_append, List.length_append, List.length_singleton] at ih
   simp -implicitDefEqProofs only [pairOf, extractA_tup, List.getElem?_cons_zero, List.getElem?_cons_succ, bnd_some, cellsM_of (okEl_val v), bnd_pure, err_ne, h00, condM_bool, Bool.false_eq_true, if_false, hvv, hvl, hb2, ha2, hc1, bin_add, hw, ih]
   cases initL B <;> rfl
theorem t11 (p : List Mod) (hp : p.length ≤ 1099511627776) (hm : ∀ m ∈ p, m.vars.length ≤ 1099511627776 ∧ m.init.length ≤ 274877906944 ∧ ∀ e ∈ m.init, expLim e) : callW pg 11 [mods p] = M.pure (freshAv (freshX p)) := by
 have hlm : lenA T 22 (mods p) = some (.int .i64 p.length) := LENE22 _
 have hloop : ∀ (B A : List Mod) (out : List Vars), A ++ B = p → out.length = A.length → fixW (L11_1 (callW pg) fixW) [mods p, varss out, .int .i64 A.length] =
   M.pure (match freshL B with | .error c => .tup [.sl [], .int .i64 c] | .ok r => .tup [varss (out ++ r), .int .i64 0]) := by
  intro B
  induction B with
  | nil =>
   intro A out e ho
   simp only [List.append_nil] at e
   subst e
   rw [FL11_1]
   simp -implicitDefEqProofs only [L11_1, nth_zero, nth_succ, hlm, bin_lss, bnd_some, condM_bool, Int.lt_irrefl, decide_false, Bool.false_eq_true, if_false, freshL, List.append_nil]
  | cons x B ih =>
   intro A out e ho
   have hll : A.length + (B.length + 1) = p.length := by rw [← e]; simp
   have h1 : (A.length : Int) < (p.length : Int) := by omega
   have hx : p[A.length]'(by omega) = x := by simp [← e]
   have hmm : x ∈ p := by rw [← e]; simp
   obtain ⟨m1, m2, m3⟩ := hm x hmm
   have hix := IX22 (l := p) (n := (A.length : Int)) (by omega) h1
   rw [show ((A.length : Int)).toNat = A.length by omega, getElem!_pos p A.length (by omega), hx] at hix
   have hB : buildA T true 47 [(0, .str x.name)] = some (.agg [.str x.name, .hn]) := rfl
   have hC : cellsNil 2 [1] (.agg [.str x.name, .hn]) = M.pure (.agg [.str x.name, .hn]) := rfl
   have hes5 : loadA T 26 (.ip ((acells x.av).drop 3)) = some (exps x.init) := by simp
   have hps2 : loadA T 58 (.ip ((acells x.av).drop 2)) = some (flds x.vars) := by simp
   have hnm0 : loadA T 9 (.ip ((acells x.av).drop 0)) = some (.str x.name) := by simp
   have hldm : loadA T 63 (.ip (acells x.av)) = some x.av := rfl
   have hin := rfresh_in (fixW (L11_1 (callW pg) fixW)) p out A.length x m3 m2 (by omega) (by omega) (by omega) x.init [] [] rfl rfl
   rw [FL11_1]
   simp -implicitDefEqProofs only [L11_1, nth_zero, nth_succ, hlm, bin_lss, bnd_some, condM_bool, h1, decide_true, if_true, hix, hldm, cellsM_of (okEl_mod x), bnd_pure]
   have hag : acells (AV.agg (acells x.av)) = acells x.av := rfl
   simp -implicitDefEqProofs only [hag, FA63_0, FA63_2, FA63_3, hes5, hps2, hnm0, bnd_some, LENE26, LENE58, hB, hC, bin_neq, condM_bool, bnd_pure, acells_agg, nth_zero]
   unfold freshL
   by_cases hl : x.init.length = x.vars.length
   ·have hl' : ((x.init.length : Int) != (x.vars.length : Int)) = false := by simp [hl]
    simp only [hl', Bool.false_eq_true, if_false, if_pos hl]
    have hz : ((([] : List Exp).length : Nat) : Int) = 0 := rfl
    rw [hz] at hin
    have hv0 : vals [] = .sl [] := rfl
    rw [hv0] at hin
    rw [hin]
    cases initL x.init with
    | error c => rfl
    | ok vs =>
     have := ih (A ++ [x]) (out ++ [⟨x.name, vs⟩]) (by rw [← e]; simp) (by simp [ho])
     simp only [List.length_append, List.length_singleton] at this
     have hcast : ((A.length : Int) + 1) = ((A.length + 1 : Nat) : Int) := by omega
     simp only [List.nil_append, hcast, this]
     cases freshL B <;> simp
   ·have hl' : ((x.init.length : Int) != (x.vars.length : Int)) = true := by
     rw [bne_iff_ne]
     omega
    simp only [hl', if_true, if_neg hl]
 have h0 := hloop p [] [] rfl rfl
 have hS : S11 (callW pg) fixW (mods p) = M.pure (freshAv (freshX p)) := by
  unfold freshX
  by_cases hn : namesX p = 0
  ·have hn' : (namesX p != 0) = false := by simp [hn]
   simp -implicitDefEqProofs only [S11, t33 p hp, bnd_pure, err_ne, bnd_some, hn', condM_bool, Bool.false_eq_true, if_false]
   rw [if_pos hn]
   simp only [List.length_nil, List.nil_append] at h0
   have : varss [] = .sl [] := rfl
   rw [this] at h0
   have hz : ((0 : Nat) : Int) = 0 := rfl
   rw [hz] at h0
   rw [h0]
   cases freshL p <;> rfl
  ·have hn' : (namesX p != 0) = true := by simp [hn]
   simp -implicitDefEqProofs only [S11, t33 p hp, bnd_pure, err_ne, bnd_some, hn', condM_bool, if_true]
   rw [if_neg hn]
   rfl
 rw [C11, cl_mods, hS]
 exact isoP_pure fun g => by
  cases freshX p with
  | error e => rfl
  | ok st => simp [freshAv, cl, cls]
end Go.Proofs.Ytgbopmciiadmlaa
