/- Calls. Condition: what eval gives with less fuel. -/
import Derived.Test.YtgbopmciiadmlaaMach5
namespace Go.Proofs.Ytgbopmciiadmlaa
open Go Go.Av Go.Av.Ap
theorem build_call (s t : Str) (v : AV) (h : okCell v = true) : buildA T false 69 [(0, .str s), (1, .str t), (2, v)] = some (.agg [.str s, .str t, v]) := by
  have hc := okCell_one h
  show (fillA _ _ [(0, .str s), (1, .str t), (2, v)]).map AV.agg = _
  simp only [fillA]
  have h2 := hc.2.2
  have h3 := hc.2.1
  cases v with
  | any => cases h
  | agg _ => cases h
  | tup _ => cases h
  | _ => rfl
theorem buildS_call (x : AV) (hx : sizeA x = some 3) : buildSliceA T 41 1 [(0, x)] = some (.sl [x]) := by
  have h1 : buildSliceA T 41 1 [(0, x)] = (fillEls 3 (List.replicate 1 (.agg [.str [], .str [], .sl []])) [(0, x)]).map .sl := rfl
  rw [h1]
  simp only [fillEls, hx, List.length_replicate]
  rfl
theorem enter_tail {p : List Mod} {nm : SNm} {n : Nat} (LB : LimB p) (IH : EvOK p nm n) (a : Int) (f : Fun) (l : List Val) (m : Ms) (h0 : 0 ≤ a) (ha : a < p.length) (hf : f ∈ (p[a.toNat]?.getD default).funcs) (hl : l.length = f.params.length) (hr : ∀ v ∈ l, Rv v) (G : GoodM p m) (hmu : mu m < 1000000) (hn : m.fuel ≤ n) :
    ∀ (m1 : Ms) (h1 : Hp), RepP p nm m1 h1 → m1 = { m with calls := if f.pub = true then m.calls ++ [⟨(p[a.toNat]?.getD default).name, f.name, l⟩] else m.calls } → m.frames < 60 →
      OutG p nm Val.av (((evalX p n a (f.params.map (·.1)) l f.body).bind fun v => .upd (fun m => { m with frames := m.frames - 1 }) (.ok v)) (entM p a f l m))
        (K42_0 (callW pg) fixW [.hp 0 0, .int .i64 a, vals l, .ip (acells f.av), .int .i64 0, .int .i64 0, .sl [], .sl []] h1) := by
  have hlt : a.toNat < p.length := by omega
  have hmp : p[a.toNat]?.getD default ∈ p := by rw [List.getElem?_eq_getElem hlt]; exact List.getElem_mem hlt
  obtain ⟨hbody, hparams⟩ := LB.body _ hmp f hf
  have hfb := G.bud
  have hfu := G.fuel
  have hfr := G.fr
  intro m1 h1 R1 e1 h60
  have hB : buildA T false 98 [(0, .int .i64 a)] = some (scopeAv a [] []) := rfl
  have hcell := cellsNil_of (okEl_scope a [] [])
  have hloop := loop_bind f a f.params l (.int .i64 0) (.int .i64 0) (.sl []) (.sl []) hparams hl f.params [] l [] rfl rfl rfl
  have hw1 : IntKind.i64.wrap (m.frames + 1) = m.frames + 1 := wrap_in (by omega) (by omega)
  obtain ⟨h2, R2, l2, s2⟩ := set_frames R1 (m.frames + 1)
  have e2 : { m1 with frames := m.frames + 1 } = entM p a f l m := by rw [e1]; rfl
  have hm1f : m1.frames = m.frames := by rw [e1]
  rw [e2] at R2
  rw [hm1f] at l2
  have hld : loadA T 58 (.ip (flds f.params :: [.int .i64 f.result.kind, flds f.result.fields, .int .i64 f.effects, .int .i64 f.body.op, .int .i64 f.body.n, .str f.body.s, .str f.body.m, strs f.body.names, exps f.body.args])) = some (flds f.params) := rfl
  have hex : loadA T 28 (.ip [.int .i64 f.body.op, .int .i64 f.body.n, .str f.body.s, .str f.body.m, strs f.body.names, exps f.body.args]) = some f.body.av := by
    have : loadA T 28 (.ip (acells f.body.av)) = some f.body.av := by simp
    rwa [acells_exp] at this
  simp only [List.map_nil, List.length_nil] at hloop
  have hz : ((0 : Nat) : Int) = 0 := rfl
  rw [hz] at hloop
  have hm2 : (if f.pub = true then m.calls ++ [(⟨(p[a.toNat]?.getD default).name, f.name, l⟩ : Ap.Call)] else m.calls).length ≤ m.calls.length + 1 := by
    split
    · simp
    · omega
  have G2 : GoodM p (entM p a f l m) := by
    refine ⟨⟨G.right.1, fun c hc => ?_⟩, ?_, by simp only [entM]; omega, hfu, G.shape⟩
    · simp only [entM] at hc
      split at hc
      · rcases List.mem_append.1 hc with k | k
        · exact G.right.2 c k
        · simp only [List.mem_singleton] at k
          subst k
          exact hr
      · exact G.right.2 c hc
    · simp only [mu, entM] at hmu ⊢
      omega
  simp only [K42_0, nth_zero, nth_succ, hB, bnd_some, hcell, bnd_pure, acells_agg, acells_scope, acells_fun, FA67_2, FA67_5, List.drop_succ_cons, List.drop_zero, hld, LENE58] at hloop ⊢
  rw [show strs [] = strs [] from rfl] at hloop
  rw [hloop, FL42_0]
  simp only [L42_0, nth_zero, nth_succ, bin_lss, bnd_some, condM_bool, Int.lt_irrefl, decide_false, Bool.false_eq_true, if_false, nilChkA_hp, FH81_3, Nat.zero_add, l2, bin_add, hw1, s2, FA67_5, List.drop_succ_cons, List.drop_zero, hex, fold_scope]
  have hns : ((f.params.map (·.1)).length : Int) + (entM p a f l m).fuel ≤ 549755813888 := by
    simp only [List.length_map, entM]
    simp only [mu] at hfb
    omega
  refine out_bind (IH a (f.params.map (·.1)) l f.body _ _ R2 G2 hn ⟨ha, ⟨by simp [hl], hr⟩, hns⟩ hbody) fun v s h3 hv R3 => ?_
  obtain ⟨G3, _, _⟩ := G2.eval ⟨by simp [hl], hr⟩ hv
  obtain ⟨h4, R4, l4, s4⟩ := set_frames R3 (s.frames - 1)
  have hfr3 := G3.fr
  have hw2 : IntKind.i64.wrap (s.frames - 1) = s.frames - 1 := wrap_in (by omega) (by omega)
  have hvl : loadA T 39 (.ip (acells v.av)) = some v.av := by simp
  simp only [cellsM_of (okEl_val v), bnd_pure, acells_agg, nilChkA_hp, bnd_some, FH81_3, Nat.zero_add, l4, bin_sub, hw2, s4, hvl]
  have e9 : _ = Av.R.ok v.av h4 := wrap4' v h4
  rw [e9]
  exact ⟨h4, rfl, R4⟩
theorem t42 {p : List Mod} {nm : SNm} {n : Nat} (LB : LimB p) (IH : EvOK p nm n) : EnterOK p nm n := by
  intro a f l m h h0 ha hf hl hr R G hmu hn
  have hlt : a.toNat < p.length := by omega
  have hmp : p[a.toNat]?.getD default ∈ p := by rw [List.getElem?_eq_getElem hlt]; exact List.getElem_mem hlt
  obtain ⟨hbody, hparams⟩ := LB.body _ hmp f hf
  have hfb := G.bud
  have hfu := G.fuel
  have hfr := G.fr
  have tail := enter_tail LB IH a f l m h0 ha hf hl hr G hmu hn
  simp only [acells_fun] at tail
  obtain ⟨tag, dv, cv, sv, R0⟩ := R
  have l3 : ∀ g : AV → M AV, bnd (loadH T 3 (.hp 0 3)) g h = g (.int .i64 m.frames) h := fun g => bnd_ok (loadH_one rfl rfl R0.r0 rfl)
  have lc : ∀ g : AV → M AV, bnd (loadH T 41 (.hp 0 10)) g h = g cv h := fun g => bnd_ok (loadH_one rfl rfl R0.r0 rfl)
  have lm : ∀ g : AV → M AV, bnd (loadH T 22 (.hp 0 0)) g h = g (mods p) h := fun g => bnd_ok (loadH_one rfl rfl R0.r0 (by rw [← pvOf_ne (t := nm.told) (fun e => by subst e; simp at hlt)]; rfl))
  generalize hcode : callW pg 42 [.hp 0 0, .int .i64 a, f.av, vals l] h = code
  rw [C42] at hcode
  simp -implicitDefEqProofs only [S42, nilChkA_hp, bnd_some, FH81_3, Nat.zero_add, l3, bin_lss, bnd_must, jn_def] at hcode
  by_cases h60 : m.frames < 60
  · rw [enterX_eq, if_pos h60]
    have hd : decide (m.frames < 60) = true := by simpa using h60
    simp only [hd, mustM, if_true] at hcode
    simp -implicitDefEqProofs only [acells_fun, FA67_1, FA67_0, List.drop_succ_cons, List.drop_zero, LD4, LD9, bnd_some, condM_bool] at hcode
    by_cases hp : f.pub = true
    · simp only [hp, if_true] at hcode tail
      have hi := IX22 (l := p) (n := a) h0 ha
      rw [getElem!_pos p a.toNat hlt] at hi
      have e3 : p[a.toNat]?.getD default = p[a.toNat] := by rw [List.getElem?_eq_getElem hlt]; rfl
      obtain ⟨av, h1, tag1, c1, R1, A1, ok1⟩ := clone_args R0 l (by omega)
      obtain ⟨cv', h2, h3, p1, p2, R3⟩ := push_call R1 ⟨p[a.toNat].name, f.name, l⟩ av A1 ok1 (by simp only [mu] at hmu; omega)
      have hB : buildA T false 69 [(0, .str p[a.toNat].name), (1, .str f.name), (2, av)] = some (.agg [.str p[a.toNat].name, .str f.name, av]) := build_call _ _ _ ok1
      have hBS := buildS_call (.agg [.str p[a.toNat].name, .str f.name, av]) rfl
      have lc1 : ∀ g : AV → M AV, bnd (loadH T 41 (.hp 0 10)) g h = g cv h := lc
      simp -implicitDefEqProofs only [lc, lm, hi, acells_mod, FA63_0, FH81_0, FH81_4, FH43_3, List.drop_zero, LD9, bnd_some, Nat.zero_add, Nat.reduceAdd] at hcode
      rw [bnd_ok c1] at hcode
      simp only [hB, hBS, bnd_some] at hcode
      rw [bnd_ok p1] at hcode
      rw [bnd_ok p2] at hcode
      rw [← hcode]
      exact tail _ h3 R3 (by rw [e3]) h60
    · simp only [hp, Bool.false_eq_true, if_false] at hcode tail
      rw [← hcode]
      exact tail m h ⟨tag, dv, cv, sv, R0⟩ rfl h60
  · rw [enterX_eq, if_neg h60]
    have hd : decide (m.frames < 60) = false := by simpa using h60
    simp only [hd, mustM, Bool.false_eq_true, if_false] at hcode
    rw [← hcode]
    exact ⟨h, rfl, tag, dv, cv, sv, R0⟩
end Go.Proofs.Ytgbopmciiadmlaa
