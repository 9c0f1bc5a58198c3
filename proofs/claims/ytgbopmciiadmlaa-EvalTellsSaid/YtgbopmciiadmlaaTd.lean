/- What the functions of the seat compute, part 4: the texts of the claim, one behind the other. Conditions: bounds, as each theorem names them. -/
import Derived.Test.YtgbopmciiadmlaaTc
import Derived.Test.YtgbopmciiadmlaaTb
import Derived.Test.YtgbopmciiadmlaaLc
import Derived.Test.YtgbopmciiadmlaaLd
import Derived.Test.YtgbopmciiadmlaaTa
import Derived.KernelRfl

namespace Go.Proofs.Ytgbopmciiadmlaa
open Go Go.Av Go.Av.Ap
theorem freezeR {p : List Mod} {full : List Int} {nm : SNm} {e : Int} {m : Ms} {h : Hp} (R : RepR p full nm e m h) (c1 c2 c3 c4 : AV) (v : Val) (hc : ∀ g, cls g [c1, c2, c3, c4] = acells v.av) (hok : [c1, c2, c3, c4].all okCell = true)
  (h' : Hp) (hh : ∀ dv cv sv, h[0]? = some (rowR nm.told p full e m dv cv sv) → h' = h.set 0 [pvOf nm.told p, .int .i64 e, c1, c2, c3, c4, dv, cv, sv, wvOf nm.told full, .int .i64 ((full.length : Int) - (m.world.length : Int)), .int .i64 m.fuel, .int .i64 m.frames]) :
  ∃ cells, bnd (loadH T 43 (.hp 0 1)) (fun w => bnd (cellsNil 8 [] w) fun w => M.pure (AV.agg [nth (acells w) 0, nth (acells w) 1, nth (acells w) 2, nth (acells w) 3, nth (acells w) 4, nth (acells w) 5, nth (acells w) 6, nth (acells w) 7])) h' = .ok (.agg cells) h' ∧
   frz 6 h' (.agg cells) = Out.av ⟨e, v, m.deeds, m.calls, List.zipWith Vars.mk nm.names m.state⟩ := by
 obtain ⟨tag, dv, cv, sv, R0⟩ := R.rep
 have hh' := hh dv cv sv R0.r0
 subst hh'
 have hlt : 0 < h.length := (List.getElem?_eq_some_iff.1 R0.r0).1
 have K : Kp tag tag (fun k => k = 0) h (h.set 0 [pvOf nm.told p, .int .i64 e, c1, c2, c3, c4, dv, cv, sv, wvOf nm.told full, .int .i64 ((full.length : Int) - (m.world.length : Int)), .int .i64 m.fuel, .int .i64 m.frames]) := Kp.kill R0.t0 _
 have d1 := frz_deeds (d := 4) (R0.ds.keep K (c' := fun cs => cs = deedCells m.deeds) (by decide) fun _ h => h)
 have d2 := frz_calls (d := 4) (R0.cs.keep K (by decide) fun _ h => h.keep K (by decide))
 have d3 := frz_states (d := 4) (c0 := nm.cells) (R0.st.keep K (by decide) fun _ h => ⟨h.1, h.2.keep K (by omega)⟩)
 have hd : okCell dv = true := by rcases R0.ds with ⟨_, rfl⟩ | ⟨q, cs, rfl, _⟩ <;> rfl
 have hcv : okCell cv = true := by rcases R0.cs with ⟨_, rfl⟩ | ⟨q, cs, rfl, _⟩ <;> rfl
 have hs : okCell sv = true := by rcases R0.st with ⟨_, rfl⟩ | ⟨q, cs, rfl, _⟩ <;> rfl
 simp only [List.all_cons, List.all_nil, Bool.and_true, Bool.and_eq_true] at hok
 have hok8 : okEl 8 (.agg [.int .i64 e, c1, c2, c3, c4, dv, cv, sv]) = true := by
  simp only [okEl, sizeA, acells, List.all_cons, List.all_nil, hd, hcv, hs, hok.1, hok.2.1, hok.2.2.1, hok.2.2.2]
  rfl
 have hl := loadH_agg (T := T) (t := 43) rfl rfl (h := h.set 0 [pvOf nm.told p, .int .i64 e, c1, c2, c3, c4, dv, cv, sv, wvOf nm.told full, .int .i64 ((full.length : Int) - (m.world.length : Int)), .int .i64 m.fuel, .int .i64 m.frames]) (l := 0) (k := 1) (List.getElem?_set_self hlt) (show 1 + 8 ≤ 13 by decide)
 refine ⟨[.int .i64 e, c1, c2, c3, c4, dv, cv, sv], ?_, ?_⟩
 ·rw [bnd_ok hl]
  have hcn := cellsNil_of hok8
  have hds : AV.agg (((([pvOf nm.told p, .int .i64 e, c1, c2, c3, c4, dv, cv, sv, wvOf nm.told full, .int .i64 ((full.length : Int) - (m.world.length : Int)), .int .i64 m.fuel, .int .i64 m.frames] : List AV).drop 1)).take 8) = .agg [.int .i64 e, c1, c2, c3, c4, dv, cv, sv] := rfl
  show bnd (cellsNil 8 [] (AV.agg (((([pvOf nm.told p, .int .i64 e, c1, c2, c3, c4, dv, cv, sv, wvOf nm.told full, .int .i64 ((full.length : Int) - (m.world.length : Int)), .int .i64 m.fuel, .int .i64 m.frames] : List AV).drop 1)).take 8))) _ _ = _
  rw [hds, hcn]
  rfl
 ·rw [frz_succ]
  have hcc := hc (frG 5 (h.set 0 [pvOf nm.told p, .int .i64 e, c1, c2, c3, c4, dv, cv, sv, wvOf nm.told full, .int .i64 ((full.length : Int) - (m.world.length : Int)), .int .i64 m.fuel, .int .i64 m.frames]))
  rw [acells_val] at hcc
  simp only [cls, List.cons.injEq, and_true] at hcc
  obtain ⟨k1, k2, k3, k4⟩ := hcc
  simp only [cl, cls, d1, d2, d3, k1, k2, k3, k4]
  rfl
theorem from_start (p : List Mod) (st : List Vars) (world : List Int) (fuel : Int) (hst : st.length ≤ 1099511627776) (hv : ∀ x ∈ st, x.values.length ≤ 274877906944) :
  ∃ nm h1 h2 sv, callW pg 16 [varss st] [[mods p, .int .i64 0, .int .i64 0, .int .i64 0, .hn, .hn, .hn, .hn, .hn, ints world, .int .i64 0, .int .i64 fuel, .int .i64 0]] = .ok sv h1 ∧ storeH T 32 (.hp 0 8) sv h1 = .ok (.tup []) h2 ∧ nm.names = st.map (·.module) ∧ RepR p world nm 0 (startM world fuel (st.map (·.values))) h2 := by
 obtain ⟨tag, sv, h1, j1, j2, K⟩ := t16 st hst hv [[mods p, .int .i64 0, .int .i64 0, .int .i64 0, .hn, .hn, .hn, .hn, .hn, ints world, .int .i64 0, .int .i64 fuel, .int .i64 0]]
 obtain ⟨k1, k2⟩ := K 0 _ rfl (by decide)
 have hok := cpR_len j2
 have hst1 := storeH_ok (T := T) (t := 32) rfl k1 (okCell_one hok).1 (show 8 + 1 ≤ 13 by decide) (by decide)
 have hac : acells sv = [sv] := (okCell_one hok).2.1
 rw [hac] at hst1
 have hrow : setCells [mods p, .int .i64 0, .int .i64 0, .int .i64 0, .hn, .hn, .hn, .hn, .hn, ints world, .int .i64 0, .int .i64 fuel, .int .i64 0] 8 [sv] = rowR false p world 0 (startM world fuel (st.map (·.values))) .hn .hn sv := by
  have : (world.length : Int) - (world.length : Int) = 0 := by omega
  simp only [setCells, rowR, startM, pvOf, wvOf, this]
  rfl
 rw [hrow] at hst1
 have hlt : 0 < h1.length := (List.getElem?_eq_some_iff.1 k1).1
 have K1 : Kp tag tag (fun k => k = 0) h1 (h1.set 0 (rowR false p world 0 (startM world fuel (st.map (·.values))) .hn .hn sv)) := Kp.kill k2 _
 have j3 : CpR tag st sv (h1.set 0 (rowR false p world 0 (startM world fuel (st.map (·.values))) .hn .hn sv)) := SlR.keep K1 (by decide) (fun cs hcs => hcs.keep K1 (by omega)) j2
 have hsl : (st.map (·.values)).length = st.length := by simp
 have hcells : ∃ c0, SlR tag 5 2 (st.map (·.values)).length (fun cs => cs = c0 ∧ StatesR tag (h1.set 0 (rowR false p world 0 (startM world fuel (st.map (·.values))) .hn .hn sv)) 0 (st.map (·.module)) (st.map (·.values)) cs) sv (h1.set 0 (rowR false p world 0 (startM world fuel (st.map (·.values))) .hn .hn sv)) := by
  rw [hsl]
  rcases j3 with ⟨h0, e⟩ | ⟨q, cs, g1, g2, g3, g4, g5, g6⟩
  ·exact ⟨[], .inl ⟨h0, e⟩⟩
  ·exact ⟨cs, .inr ⟨q, cs, g1, g2, g3, g4, g5, rfl, g6⟩⟩
 obtain ⟨c0, hc0⟩ := hcells
 refine ⟨⟨st.map (·.module), sv, c0, false⟩, h1, _, sv, j1, hst1, rfl, List.suffix_refl _, fun h => by (cases h), tag, .hn, .hn, sv, ?_⟩
 exact ⟨by rw [List.getElem?_set_self hlt], k2, .inl ⟨rfl, rfl⟩, .inl ⟨rfl, rfl⟩, hc0, rfl, fun h => by cases h⟩
theorem build_err8 (e : Int) : buildA T false 43 [(0, .int .i64 e)] = some (errO e).av := rfl
theorem cn8 (o : Out) : (bnd (cellsNil 8 [] o.av) (fun w => M.pure (AV.agg [nth (acells w) 0, nth (acells w) 1, nth (acells w) 2, nth (acells w) 3, nth (acells w) 4, nth (acells w) 5, nth (acells w) 6, nth (acells w) 7])) : M AV) = M.pure o.av := wrap8 o
theorem t18 {p : List Mod} (LB : LimB p) (st : List Vars) (module fn : Str) (args : List Val) (world : List Int) (fuel : Int) (hw : world.length ≤ 1099511627776) (hst : st.length ≤ 1099511627776) (hv : ∀ x ∈ st, x.values.length ≤ 274877906944 ∧ valsSz x.values ≤ 4611686018427387904)
  (hargs : valsSz args ≤ 4611686018427387904) : callW pg 18 [mods p, varss st, .str module, .str fn, vals args, ints world, .int .i64 fuel] = M.pure (fromX p st module fn args world fuel).av := by
 have hnm := t33 p LB.lim.len
 have hbl := t43 p st LB.lim.len (fun x hx => (hv x hx).2)
 have hfe : (fitsR 4) = (fitsP 4) := funext (fitsRP 4)
 have hra := t46 args hargs
 rw [hfe] at hra
 have hcl1 : ∀ s : Str, cl noHs (.str s) = .str s := fun _ => rfl
 have hcl2 : ∀ n : Int, cl noHs (.int .i64 n) = .int .i64 n := fun _ => rfl
 rw [C18, cl_mods, cl_varss, hcl1, hcl1, cl_vals, cl_ints, hcl2]
 have key : ∃ a h', S18 (callW pg) fixW (mods p) (varss st) (.str module) (.str fn) (vals args) (ints world) (.int .i64 fuel) [] = .ok a h' ∧ frz 6 h' a = (fromX p st module fn args world fuel).av := by
  generalize hcode : S18 (callW pg) fixW (mods p) (varss st) (.str module) (.str fn) (vals args) (ints world) (.int .i64 fuel) [] = code
  have hg1 : guardM (.bool (decide (fuel < 0))) false 1 (M.pure [.bool (decide (100000 < fuel))]) = M.pure [gv (decide (fuel < 0)) false (.bool (decide (100000 < fuel)))] := guardM_pure1 _ _ _
  have hg2 : guardM (.bool (decide (fuel < 0) || decide (100000 < fuel))) false 1 (M.pure [.bool !(belongs p st)]) = M.pure [gv (decide (fuel < 0) || decide (100000 < fuel)) false (.bool !(belongs p st))] := guardM_pure1 _ _ _
  simp -implicitDefEqProofs only [S18, hnm, bnd_pure, err_ne, bnd_some, condM_bool, bin_lss, bin_gtr, hg1, nth_zero, pickA_or, hbl, unA_not, hg2] at hcode
  unfold fromX
  by_cases hn : namesX p = 0
  rotate_left
  ·have hn' : (namesX p != 0) = true := by simp [hn]
   simp only [hn', if_true, build_err8, bnd_some, cn8] at hcode
   simp only [if_pos hn]
   rw [← hcode]
   exact ⟨_, [], rfl, cl_out _ _⟩
  have hn' : (namesX p != 0) = false := by simp [hn]
  have hnn : ¬ (namesX p ≠ 0) := fun h => h hn
  simp only [hn', Bool.false_eq_true, if_false] at hcode
  simp only [if_neg hnn]
  by_cases hb : fuel < 0 ∨ 100000 < fuel ∨ belongs p st = false
  ·have hb' : (decide (fuel < 0) || decide (100000 < fuel) || !(belongs p st)) = true := by
    simp only [Bool.or_eq_true, decide_eq_true_eq, Bool.not_eq_true']
    rcases hb with h | h | h
    ·exact .inl (.inl h)
    ·exact .inl (.inr h)
    ·exact .inr h
   simp only [hb', if_true, build_err8, bnd_some, cn8] at hcode
   simp only [if_pos hb]
   rw [← hcode]
   exact ⟨_, [], rfl, cl_out _ _⟩
  have hb' : (decide (fuel < 0) || decide (100000 < fuel) || !(belongs p st)) = false := by
   rw [← Bool.not_eq_true]
   simp only [Bool.or_eq_true, decide_eq_true_eq, Bool.not_eq_true']
   rintro ((h | h) | h)
   ·exact hb (.inl h)
   ·exact hb (.inr (.inl h))
   ·exact hb (.inr (.inr h))
  have hbe : belongs p st = true := by
   cases h : belongs p st with
   | true => rfl
   | false => exact absurd (.inr (.inr h)) hb
  have hfu : 0 ≤ fuel ∧ fuel ≤ 100000 := by omega
  have hlt' : modAt p module < p.length := by
   rcases idxAt_lt (fun (x : Mod) => x.name == module) p 0 with k | k
   ·have : modAt p module = -1 := k
    omega
   ·have : modAt p module = idxAt (fun (x : Mod) => x.name == module) p 0 := rfl
    omega
  have hmd := t44 p LB.lim.len module
  have hfn := t45 p LB.lim.len (fun m hm => (LB.lim.funcs m hm).1) (modAt p module) hlt' fn
  simp only [hb', Bool.false_eq_true, if_false] at hcode
  simp only [if_neg hb]
  generalize modAt p module = a at *
  simp -implicitDefEqProofs only [hmd, hfn, bnd_pure, bin_lss, bnd_some, condM_bool] at hcode
  have hfd : ¬ a < 0 → funcX p a fn = if funAt (p[a.toNat]?.getD default).funcs fn < 0 then none else (p[a.toNat]?.getD default).funcs[(funAt (p[a.toNat]?.getD default).funcs fn).toNat]? := fun h0 => by
   unfold funcX; rw [if_neg h0]
  by_cases h0 : a < 0
  ·have hx : (if a < 0 then (-1 : Int) else funAt (p[a.toNat]?.getD default).funcs fn) = -1 := if_pos h0
   have hnone : funcX p a fn = none := by unfold funcX; rw [if_pos h0]
   rw [hx] at hcode
   simp only [show decide ((-1 : Int) < 0) = true from rfl, if_true, build_err8, bnd_some, cn8] at hcode
   rw [hnone, ← hcode]
   exact ⟨_, [], rfl, cl_out _ _⟩
  have hx : (if a < 0 then (-1 : Int) else funAt (p[a.toNat]?.getD default).funcs fn) = funAt (p[a.toNat]?.getD default).funcs fn := if_neg h0
  rw [hx] at hcode
  rw [hfd h0]
  have hlt : a.toNat < p.length := by omega
  have e3 : p[a.toNat]?.getD default = p[a.toNat] := by rw [List.getElem?_eq_getElem hlt]; rfl
  rw [e3] at hcode ⊢
  generalize hI : funAt p[a.toNat].funcs fn = I at *
  by_cases hi : I < 0
  ·have hid : decide (I < 0) = true := by simpa using hi
   simp only [hid, if_true, build_err8, bnd_some, cn8] at hcode
   simp only [if_pos hi]
   rw [← hcode]
   exact ⟨_, [], rfl, cl_out _ _⟩
  have hid : decide (I < 0) = false := by simpa using hi
  simp only [if_neg hi]
  have hil : I < p[a.toNat].funcs.length := by
   rcases idxAt_lt (fun (x : Fun) => x.name == fn) p[a.toNat].funcs 0 with k | k
   ·have : funAt p[a.toNat].funcs fn = -1 := k
    omega
   ·have : funAt p[a.toNat].funcs fn = idxAt (fun (x : Fun) => x.name == fn) p[a.toNat].funcs 0 := rfl
    omega
  have hit : I.toNat < p[a.toNat].funcs.length := by omega
  rw [List.getElem?_eq_getElem hit]
  have hix := IX22 (l := p) (n := a) (by omega) hlt'
  rw [getElem!_pos p a.toNat hlt] at hix
  have hif := IX59 (l := p[a.toNat].funcs) (n := I) (by omega) hil
  rw [getElem!_pos _ I.toNat hit] at hif
  have hfs : loadA T 59 (.ip (List.drop 4 (acells p[a.toNat].av))) = some (funs p[a.toNat].funcs) := by simp
  have hmem : p[a.toNat].funcs[I.toNat] ∈ (p[a.toNat]?.getD default).funcs := by rw [e3]; exact List.getElem_mem hit
  generalize p[a.toNat].funcs[I.toNat] = f at *
  have hfl : loadA T 67 (.ip (acells f.av)) = some f.av := by simp
  have hpar : loadA T 58 (.ip (List.drop 2 (acells f.av))) = some (flds f.params) := by simp
  have hla : lenA T 23 (vals args) = some (.int .i64 args.length) := LENE23 _
  have hlp : lenA T 58 (flds f.params) = some (.int .i64 f.params.length) := LENE58 _
  have hg3 : guardM (.bool ((args.length : Int) != (f.params.length : Int))) false 1 (M.pure [.bool !(args.all (fitsP 4))]) = M.pure [gv ((args.length : Int) != (f.params.length : Int)) false (.bool !(args.all (fitsP 4)))] := guardM_pure1 _ _ _
  simp -implicitDefEqProofs only [hid, Bool.false_eq_true, if_false, hix, FA63_4, hfs, hif, hfl, bnd_some, cellsM_fun, bnd_pure, acells_agg, hla, FA67_2, hpar, hlp, bin_neq, hra, unA_not, hg3, nth_zero, pickA_or, condM_bool] at hcode
  show ∃ a h', code = R.ok a h' ∧ frz 6 h' a = (if args.length = f.params.length ∧ args.all (fitsP 4) = true then outOf (st.map (·.module)) (enterX p (evalX p 100000) _ f args (startM world fuel (st.map (·.values)))) else errO 13).av
  by_cases hr : args.length = f.params.length ∧ args.all (fitsP 4) = true
  rotate_left
  ·have hr' : (((args.length : Int) != (f.params.length : Int)) || !(args.all (fitsP 4))) = true := by
    by_cases h1 : args.length = f.params.length
    ·have : args.all (fitsP 4) = false := by
      rw [← Bool.not_eq_true]
      exact fun h2 => hr ⟨h1, h2⟩
     rw [this]
     simp
    ·have : ((args.length : Int) != (f.params.length : Int)) = true := by
      rw [bne_iff_ne]
      omega
     rw [this]
     rfl
   simp -implicitDefEqProofs only [hr', if_true, build_err8, bnd_some, cn8] at hcode
   rw [if_neg hr, ← hcode]
   exact ⟨_, _, rfl, cl_out _ _⟩
  have hr' : (((args.length : Int) != (f.params.length : Int)) || !(args.all (fitsP 4))) = false := by
   have : ((args.length : Int) != (f.params.length : Int)) = false := by simp [hr.1]
   rw [this, hr.2]
   rfl
  rw [if_pos hr]
  have hB : buildA T true 95 [(0, mods p), (2, ints world), (4, .int .i64 fuel)] = some (.agg [mods p, .int .i64 0, .int .i64 0, .int .i64 0, .hn, .hn, .hn, .hn, .hn, ints world, .int .i64 0, .int .i64 fuel, .int .i64 0]) := rfl
  have hnew : ∀ g : AV → M AV, bnd (newH [mods p, .int .i64 0, .int .i64 0, .int .i64 0, .hn, .hn, .hn, .hn, .hn, ints world, .int .i64 0, .int .i64 fuel, .int .i64 0]) g [] = g (.hp 0 0) [[mods p, .int .i64 0, .int .i64 0, .int .i64 0, .hn, .hn, .hn, .hn, .hn, ints world, .int .i64 0, .int .i64 fuel, .int .i64 0]] := fun g => rfl
  obtain ⟨nm, h1, h2, sv, c1, s1, n1, R⟩ := from_start p st world fuel hst (fun x hx => (hv x hx).1)
  simp -implicitDefEqProofs only [hr', Bool.false_eq_true, if_false, hB, bnd_some, acells_agg, hnew] at hcode
  rw [bnd_ok c1] at hcode
  simp -implicitDefEqProofs only [nilChkA_hp, bnd_some, FH95_1, FH43_4, Nat.zero_add, Nat.reduceAdd] at hcode
  rw [bnd_ok s1] at hcode
  have hbr := belongs_right hbe
  have G : GoodM p (startM world fuel (st.map (·.values))) := by
   refine ⟨⟨fun l hl v hv => ?_, fun c hc => by simp [startM] at hc⟩, by simp [mu, startM]; omega, by simp [startM], by simp [startM]; omega, fun i x hx => ?_⟩
   ·simp only [startM, List.mem_map] at hl
    obtain ⟨y, hy, rfl⟩ := hl
    exact hbr.2.1 y hy v hv
   ·have hi : i < p.length := (List.getElem?_eq_some_iff.1 hx).1
    have hi2 : i < st.length := by rw [hbr.1]; exact hi
    refine ⟨st[i].values, by simp [startM, hi2], ?_⟩
    exact (hbr.2.2 i x st[i] hx (List.getElem?_eq_getElem hi2)).2
  have hen := t47 LB (evR (nm := nm) LB hw 100000) a f args R (by omega) hlt' hmem hr.1 (fun v hv => (List.all_eq_true.1 hr.2) v hv) G (by simp [mu, startM]; omega) (by simp [startM]; omega)
  have herr : ∀ c s, enterX p (evalX p 100000) a f args (startM world fuel (st.map (·.values))) = .er c s → c ≠ 0 := fun c s h => by
   rw [enterX_eq] at h
   split at h
   ·unfold X.bind at h
    split at h
    ·cases h
    ·rename_i he
     cases h
     exact eval_err he
   ·cases h; decide
  have hvl : ∀ v : Val, loadA T 39 (.ip (acells v.av)) = some v.av := fun v => by simp
  generalize enterX p (evalX p 100000) a f args (startM world fuel (st.map (·.values))) = r at hen herr ⊢
  cases r with
  | ok v s =>
   obtain ⟨h3, e1, R3⟩ := hen
   rw [bnd_ok e1] at hcode
   obtain ⟨tag3, dv3, cv3, sv3, R30⟩ := R3.rep
   have hst := storeH_ok (T := T) (t := 39) rfl R30.r0 (v := v.av) (k := 2) (okEl_val v) (show 2 + 4 ≤ 13 by decide) (by decide)
   have hset : setCells (rowR nm.told p world 0 s dv3 cv3 sv3) 2 (acells v.av) = [pvOf nm.told p, .int .i64 0, .int .i64 v.kind, .int .i64 v.n, strs v.names, vals v.values, dv3, cv3, sv3, wvOf nm.told world, .int .i64 ((world.length : Int) - (s.world.length : Int)), .int .i64 s.fuel, .int .i64 s.frames] := by
    rw [acells_val]; rfl
   rw [hset] at hst
   obtain ⟨cells, l1, fz⟩ := freezeR R3 (.int .i64 v.kind) (.int .i64 v.n) (strs v.names) (vals v.values) v (fun g => by rw [acells_val]; simp [cls]) rfl _ (fun dv cv sv hh => by
    rw [R30.r0] at hh
    simp only [Option.some.injEq, rowR, List.cons.injEq, true_and, and_true] at hh
    obtain ⟨rfl, rfl, rfl⟩ := hh
    rfl)
   simp -implicitDefEqProofs only [okEl_c, bnd_pure, acells_agg, jn_def, bnd_some, FH43_0, FH43_1, Nat.add_zero, Nat.reduceAdd, R3.lErr, err_eq, beq_self_eq_true, condM_bool, if_true, hvl] at hcode
   rw [bnd_ok hst] at hcode
   simp -implicitDefEqProofs only [K18_0, nth_zero, nilChkA_hp, bnd_some, FH95_1, Nat.zero_add] at hcode
   rw [l1] at hcode
   refine ⟨_, _, hcode.symm, ?_⟩
   rw [fz, n1]
   rfl
  | er c s =>
   have hc := herr c s rfl
   obtain ⟨w, h3, e1, s', R3, k1, k2, k3⟩ := hen
   rw [bnd_ok e1] at hcode
   have hneb : (c == 0) = false := by simpa using hc
   obtain ⟨tag3, dv3, cv3, sv3, R30⟩ := R3.rep
   have hlt3 : 0 < h3.length := (List.getElem?_eq_some_iff.1 R30.r0).1
   obtain ⟨cells, l1, fz⟩ := freezeR R3 (.int .i64 0) (.int .i64 0) .hn .hn default (fun g => rfl) rfl h3 (fun dv cv sv hh => by
    have e9 : h3.set 0 (rowR nm.told p world c s' dv cv sv) = h3 := by
     apply List.ext_getElem?
     intro i
     by_cases hi0 : i = 0
     ·subst hi0; rw [List.getElem?_set_self hlt3, hh]
     ·rw [List.getElem?_set_ne (Ne.symm hi0)]
    exact e9.symm)
   simp -implicitDefEqProofs only [okEl_c, bnd_pure, acells_agg, jn_def, nilChkA_hp, bnd_some, FH95_1, FH43_0, Nat.zero_add, Nat.add_zero, R3.lErr, err_eq, hneb, condM_bool, Bool.false_eq_true, if_false, K18_0, nth_zero] at hcode
   rw [l1] at hcode
   refine ⟨_, _, hcode.symm, ?_⟩
   rw [fz, n1, k1, k2, k3]
   rfl
 obtain ⟨a, h', h1, h2⟩ := key
 exact isoP_frz h1 h2
theorem t15 {p : List Mod} (L : LimR p) (module fn : Str) (args : List Val) (world : List Int) (fuel : Int) (hw : world.length ≤ 1099511627776) (hargs : valsSz args ≤ 4611686018427387904) :
  callW pg 15 [mods p, .str module, .str fn, vals args, ints world, .int .i64 fuel] = M.pure (runX p module fn args world fuel).av := by
 have hfr := t11 p L.body.lim.len (fun m hm => ⟨(L.body.lim.funcs m hm).2, L.init m hm⟩)
 have hcl1 : ∀ s : Str, cl noHs (.str s) = .str s := fun _ => rfl
 have hcl2 : ∀ n : Int, cl noHs (.int .i64 n) = .int .i64 n := fun _ => rfl
 rw [C15, cl_mods, hcl1, hcl1, cl_vals, cl_ints, hcl2]
 have hS : S15 (callW pg) fixW (mods p) (.str module) (.str fn) (vals args) (ints world) (.int .i64 fuel) = M.pure (runX p module fn args world fuel).av := by
  simp only [S15, hfr, bnd_pure]
  unfold runX
  cases hf : freshX p with
  | error e =>
   have hne : (e != 0) = true := by have := freshX_err hf; simpa using this
   simp only [freshAv, extractA_tup, List.getElem?_cons_zero, List.getElem?_cons_succ, bnd_some, err_ne, hne, condM_bool, if_true, build_err8, cn8]
  | ok st =>
   have hbel := freshX_belongs hf
   obtain ⟨b1, b2, b3⟩ := belongs_right hbel
   have hfL : freshL p = .ok st := by
    unfold freshX at hf
    split at hf
    ·exact hf
    ·cases hf
   have hvv : ∀ x ∈ st, x.values.length ≤ 274877906944 ∧ valsSz x.values ≤ 4611686018427387904 := fun x hx => by
    obtain ⟨m, hm, hml⟩ := freshL_lens _ _ hfL x hx
    have h1 := (L.init m hm).1
    have h2 := vals_right_sz x.values (b2 x hx)
    omega
   have hfrom := t18 L.body st module fn args world fuel hw (by have := L.body.lim.len; omega) hvv hargs
   have h00 : ((0 : Int) != 0) = false := rfl
   simp only [freshAv, extractA_tup, List.getElem?_cons_zero, List.getElem?_cons_succ, bnd_some, err_ne, h00, condM_bool, Bool.false_eq_true, if_false, hfrom, bnd_pure, cn8]
 rw [hS]
 exact isoP_pure fun g => cl_out g _
end Go.Proofs.Ytgbopmciiadmlaa

namespace Go.Proofs.Ytgbopmciiadmlaa
open Go Go.Av Go.Av.Ap
theorem t31 : ∀ (d : Nat), d ≤ 100 → ∀ (v : Val), v.Lim → ∀ most : Int, 0 ≤ most → most ≤ 1000 → callW pg 31 [v.av, .int .i64 most, .int .i64 d] = M.pure (.int .i64 (partsX d v most))
 | 0, _, v, _, most, h0, h1 => by
  rw [C31]
  simp (disch := omega) [S31, partsX, wrap_in]
 | d + 1, hd, v, hv, most, h0, h1 => by
  have hlen := hv.len
  have hloop := fix_cap (FL31_0 (callW pg)) (fun n k => [.int .i64 most, .int .i64 ((d : Int) + 1), .ip (acells v.av), .int .i64 n, .int .i64 (k : Int)]) most (partsX d) v.values
   (fun x _ m h _ => partsX_bounds d x m h)
   (fun n => by simp [L31_0])
   (fun n k hk hn => by
    have hk' : (k : Int) < (v.values.length : Int) := by omega
    have hn' : ¬ n ≤ most := by omega
    simp [L31_0, hk', hn', guardM])
   (fun n k hk h2 h3 => by
    have hk' : (k : Int) < (v.values.length : Int) := by omega
    have hx := t31 d (by omega) v.values[k] (hv.kid (List.getElem_mem hk)) (most - n) (by omega) (by omega)
    have hb := partsX_bounds d v.values[k] (most - n) (by omega)
    simp only [L31_0]
    simp (disch := omega) [hk', h3, wrap_in, IX23, hx, show (d : Int) + 1 - 1 = d by omega])
   _ 1 0 rfl (by omega) (by omega) (by omega)
  have h1 : ¬ ((d : Int) + 1 < 1) := by omega
  simp at hloop
  rw [C31]
  simp [S31, partsX, h1, hloop]
theorem t9 : ∀ (d : Nat), d ≤ 100 → ∀ (v : Exp), v.Lim → ∀ most : Int, 0 ≤ most → most ≤ 1000 → callW pg 9 [v.av, .int .i64 most, .int .i64 d] = M.pure (.int .i64 (nodesX d v most))
 | 0, _, v, _, most, h0, h1 => by
  rw [C9]
  simp (disch := omega) [S9, nodesX, wrap_in]
 | d + 1, hd, v, hv, most, h0, h1 => by
  have hlen := hv.len
  have hloop := fix_cap (FL9_0 (callW pg)) (fun n k => [.int .i64 most, .int .i64 ((d : Int) + 1), .ip (acells v.av), .int .i64 n, .int .i64 (k : Int)]) most (nodesX d) v.args
   (fun x _ m h _ => nodesX_bounds d x m h)
   (fun n => by simp [L9_0])
   (fun n k hk hn => by
    have hk' : (k : Int) < (v.args.length : Int) := by omega
    have hn' : ¬ n ≤ most := by omega
    simp [L9_0, hk', hn', guardM])
   (fun n k hk h2 h3 => by
    have hk' : (k : Int) < (v.args.length : Int) := by omega
    have hx := t9 d (by omega) v.args[k] (hv.kid (List.getElem_mem hk)) (most - n) (by omega) (by omega)
    have hb := nodesX_bounds d v.args[k] (most - n) (by omega)
    simp only [L9_0]
    simp (disch := omega) [hk', h3, wrap_in, IX26, hx, show (d : Int) + 1 - 1 = d by omega])
   _ 1 0 rfl (by omega) (by omega) (by omega)
  have h1 : ¬ ((d : Int) + 1 < 1) := by omega
  simp at hloop
  rw [C9]
  simp [S9, nodesX, h1, hloop]
theorem t57 : ∀ (d : Nat), d ≤ 100 → ∀ (v : Ty), v.Lim → ∀ most : Int, 0 ≤ most → most ≤ 1000 → callW pg 57 [v.av, .int .i64 most, .int .i64 d] = M.pure (.int .i64 (kindsX d v most))
 | 0, _, v, _, most, h0, h1 => by
  rw [C57]
  simp (disch := omega) [S57, kindsX, wrap_in]
 | d + 1, hd, v, hv, most, h0, h1 => by
  have hlen := hv.len
  have hloop := fix_cap (FL57_0 (callW pg)) (fun n k => [.int .i64 most, .int .i64 ((d : Int) + 1), .ip (acells v.av), .int .i64 n, .int .i64 (k : Int)]) most (fun f => kindsX d f.2) v.fields
   (fun x _ m h _ => kindsX_bounds d x.2 m h)
   (fun n => by simp [L57_0])
   (fun n k hk hn => by
    have hk' : (k : Int) < (v.fields.length : Int) := by omega
    have hn' : ¬ n ≤ most := by omega
    simp [L57_0, hk', hn', guardM])
   (fun n k hk h2 h3 => by
    have hk' : (k : Int) < (v.fields.length : Int) := by omega
    have hx := t57 d (by omega) v.fields[k].2 (hv.kid (List.getElem_mem hk)) (most - n) (by omega) (by omega)
    have hb := kindsX_bounds d v.fields[k].2 (most - n) (by omega)
    simp only [L57_0]
    simp (disch := omega) [hk', h3, wrap_in, IX58, hx, show (d : Int) + 1 - 1 = d by omega])
   _ 1 0 rfl (by omega) (by omega) (by omega)
  have h1 : ¬ ((d : Int) + 1 < 1) := by omega
  simp at hloop
  rw [C57]
  simp [S57, kindsX, h1, hloop]
theorem take_all {α : Type} [Inhabited α] (P : α → Bool) (l : List α) (c k : Nat) (hk : k < l.length) (hc : k < c) : ((l.take c).drop k).all P = (P l[k]! && ((l.take c).drop (k + 1)).all P) := by
 have h : k < (l.take c).length := by rw [List.length_take]; omega
 rw [List.drop_eq_getElem_cons h, List.all_cons, List.getElem_take, getElem!_pos l k hk]
theorem loop56 (l : List Fld) (hl : l.length ≤ 140737488355328) (ht : ∀ x ∈ l, x.2.Lim) : ∀ r k, 9 - k = r → k ≤ l.length → k ≤ 9 → fixW (L56_0 (callW pg) fixW) [flds l, .int .i64 (k : Int)] = M.pure (.bool (((l.take 9).drop k).all (fun f => decide (kindsX 8 f.2 20 ≤ 20)) && decide (l.length ≤ 8))) := by
 intro r
 induction r with
 | zero =>
  intro k hr hk h9
  obtain rfl : k = 9 := by omega
  have h8 : ((l.length : Int) ≤ 8) = (l.length ≤ 8) := by rw [eq_iff_iff]; omega
  have hd : (l.take 9).drop 9 = [] := List.drop_eq_nil_of_le (List.length_take_le 9 l)
  rw [FL56_0, hd]
  simp only [L56_0]
  by_cases h : (9 : Int) < (l.length : Int)
  ·simp [h, h8]
  ·simp [h, h8, guardM]
 | succ r ih =>
  intro k hr hk h9
  rw [FL56_0]
  simp only [L56_0]
  have h8 : ((l.length : Int) ≤ 8) = (l.length ≤ 8) := by rw [eq_iff_iff]; omega
  by_cases h : k < l.length
  ·have hk' : (k : Int) < (l.length : Int) := by omega
   have hk9 : (k : Int) < 9 := by omega
   have hx := t57 8 (by omega) l[k].2 (ht _ (List.getElem_mem h)) 20 (by omega) (by omega)
   have hi := ih (k + 1) (by omega) (by omega) (by omega)
   rw [take_all _ l 9 k h (by omega)]
   simp at hx hi
   simp (disch := omega) [hk', hk9, wrap_in, IX58, hx, hi]
   by_cases hc : kindsX 8 l[k].2 20 ≤ 20
   ·have : ¬ 20 < kindsX 8 l[k].2 20 := by omega
    simp [hc, this]
   ·have : 20 < kindsX 8 l[k].2 20 := by omega
    simp [hc, this]
  ·have hk' : ¬ (k : Int) < (l.length : Int) := by omega
   have hd : (l.take 9).drop k = [] := List.drop_eq_nil_of_le (by rw [List.length_take]; omega)
   rw [hd]
   simp [hk', guardM, h8]
theorem t56 (l : List Fld) (hl : l.length ≤ 140737488355328) (ht : ∀ x ∈ l, x.2.Lim) : callW pg 56 [flds l] = M.pure (.bool (plainlyX l)) := by
 have := loop56 l hl ht 9 0 rfl (by omega) (by omega)
 simp at this
 rw [C56]
 simp [S56, this, plainlyX]
end Go.Proofs.Ytgbopmciiadmlaa

namespace Go.Proofs.Ytgbopmciiadmlaa
open Go Go.Av Go.Av.Ap
theorem nodes_ok (e : Exp) (he : e.Lim) : callW pg 9 [e.av, .int .i64 40, .int .i64 16] = M.pure (.int .i64 (nodesX 16 e 40)) := t9 16 (by omega) e he 40 (by omega) (by omega)
theorem nodesOk_gt (e : Exp) : decide (40 < nodesX 16 e 40) = !(nodesOk e) := by
 unfold nodesOk
 by_cases h : nodesX 16 e 40 ≤ 40
 ·have : ¬ 40 < nodesX 16 e 40 := by omega
  simp [h, this]
 ·have : 40 < nodesX 16 e 40 := by omega
  simp [h, this]
theorem loop30_0 (m : Mod) (hm : m.Lim) (es : List Exp) (hlen : es.length ≤ 14) (hes : ∀ e ∈ es, e.Lim) : fixW (L30_0 (callW pg) fixW) [.ip (acells m.av), exps es, .int .i64 0] = M.pure (.bool (es.all nodesOk && (decide (m.uses.length ≤ 12) && plainlyX m.vars && plainlyX m.old && decide (m.forward.length ≤ 6) && decide (m.back.length ≤ 6)))) := by
 have key : ∀ r k, es.length - k = r → k ≤ es.length → fixW (L30_0 (callW pg) fixW) [.ip (acells m.av), exps es, .int .i64 (k : Int)] = M.pure (.bool ((es.drop k).all nodesOk && (decide (m.uses.length ≤ 12) && plainlyX m.vars && plainlyX m.old && decide (m.forward.length ≤ 6) && decide (m.back.length ≤ 6)))) := by
  intro r
  induction r with
  | zero =>
   intro k hr hk
   obtain rfl : k = es.length := by omega
   rw [FL30_0]
   simp only [L30_0]
   have p1 := t56 m.vars hm.vars hm.vty
   have p2 := t56 m.old hm.old hm.oty
   have e1 : ((m.uses.length : Int) ≤ 12) = (m.uses.length ≤ 12) := by rw [eq_iff_iff]; omega
   have e2 : ((m.forward.length : Int) ≤ 6) = (m.forward.length ≤ 6) := by rw [eq_iff_iff]; omega
   have e3 : ((m.back.length : Int) ≤ 6) = (m.back.length ≤ 6) := by rw [eq_iff_iff]; omega
   simp [p1, p2, e1, e2, e3]
  | succ r ih =>
   intro k hr hk
   have h : k < es.length := by omega
   have hk' : (k : Int) < (es.length : Int) := by omega
   have hx := nodes_ok es[k] (hes _ (List.getElem_mem h))
   have hi := ih (k + 1) (by omega) (by omega)
   have hg := nodesOk_gt es[k]
   rw [FL30_0]
   simp only [L30_0]
   rw [List.drop_eq_getElem_cons h, List.all_cons]
   simp at hx hi
   simp (disch := omega) [hk', wrap_in, IX26, hx, hi, hg]
   cases nodesOk es[k] <;> simp
 simpa using key es.length 0 rfl (by omega)
theorem hi26 (l : List Exp) {n : Int} (h0 : 0 ≤ n) (h1 : n ≤ l.length) : sliceA T 26 (exps l) none (some (.int .i64 n)) none = some (exps (l.take n.toNat)) := by
 rw [exps, expsAv_map, exps, expsAv_map, sliceA_hi (T := T) (t := 26) (e := 28) rfl rfl rfl _ h0 (by simpa using h1), List.map_take]
theorem loop30_1 (m : Mod) (hm : m.Lim) : ∀ r k, 9 - k = r → k ≤ m.funcs.length → k ≤ 9 → fixW (L30_1 (callW pg) fixW) [.ip (acells m.av), .int .i64 (k : Int)] = M.pure (.bool (((m.funcs.take 9).drop k).all (fun f => plainlyX f.params && decide (kindsX 8 f.result 20 ≤ 20)) && ((m.forward.take 7 ++ m.back.take 7).all nodesOk && (decide (m.uses.length ≤ 12) && plainlyX m.vars && plainlyX m.old && decide (m.forward.length ≤ 6) && decide (m.back.length ≤ 6))))) := by
 have hfw := hm.forward
 have hbk := hm.back
 have h0 := loop30_0 m hm (m.forward.take 7 ++ m.back.take 7) (by simp; omega) (fun e he => by
  rcases List.mem_append.1 he with h | h
  ·exact hm.fes e (List.mem_of_mem_take h)
  ·exact hm.bes e (List.mem_of_mem_take h))
 have s1 := hi26 m.forward (n := min (m.forward.length : Int) 7) (by omega) (by omega)
 have s2 := hi26 m.back (n := min (m.back.length : Int) 7) (by omega) (by omega)
 have n1 : m.forward.take (min (m.forward.length : Int) 7).toNat = m.forward.take 7 := by
  rw [show (min (m.forward.length : Int) 7).toNat = min 7 m.forward.length by omega, List.take_eq_take_iff]
  omega
 have n2 : m.back.take (min (m.back.length : Int) 7).toNat = m.back.take 7 := by
  rw [show (min (m.back.length : Int) 7).toNat = min 7 m.back.length by omega, List.take_eq_take_iff]
  omega
 rw [n1] at s1
 rw [n2] at s2
 have hb : buildSliceA T 26 0 [] = some (exps []) := rfl
 have a1 := AP26 (a := []) (b := m.forward.take 7) (by simp; omega)
 have a2 := AP26 (a := m.forward.take 7) (b := m.back.take 7) (by simp; omega)
 rw [List.nil_append] at a1
 have hend : ∀ k : Nat, 9 ≤ k ∨ m.funcs.length ≤ k → L30_1 (callW pg) fixW (fixW (L30_1 (callW pg) fixW)) [.ip (acells m.av), .int .i64 (k : Int)] = M.pure (.bool ((m.forward.take 7 ++ m.back.take 7).all nodesOk && (decide (m.uses.length ≤ 12) && plainlyX m.vars && plainlyX m.old && decide (m.forward.length ≤ 6) && decide (m.back.length ≤ 6)))) := by
  intro k hk
  have hg : ¬ (k < m.funcs.length ∧ (k : Int) < 9) := by omega
  simp only [L30_1]
  simp [hg, hb, a1, a2, s1, s2]
  simpa using h0
 intro r
 induction r with
 | zero =>
  intro k hr hk h9
  have hd : (m.funcs.take 9).drop k = [] := List.drop_eq_nil_of_le (by rw [List.length_take]; omega)
  rw [FL30_1, hend k (by omega), hd]
  rfl
 | succ r ih =>
  intro k hr hk h9
  rw [FL30_1]
  by_cases h : k < m.funcs.length
  ·have hk' : (k : Int) < (m.funcs.length : Int) := by omega
   have hk9 : (k : Int) < 9 := by omega
   have hf := hm.fns _ (List.getElem_mem h)
   have hx := t56 m.funcs[k].params hf.params hf.pty
   have hy := t57 8 (by omega) m.funcs[k].result hf.result 20 (by omega) (by omega)
   have hi := ih (k + 1) (by omega) (by omega) (by omega)
   rw [take_all _ m.funcs 9 k h (by omega)]
   simp only [L30_1]
   simp at hx hy hi
   simp (disch := omega) [hk', hk9, wrap_in, IX59, hx, hy, hi]
   by_cases hc : kindsX 8 m.funcs[k].result 20 ≤ 20
   ·have : ¬ 20 < kindsX 8 m.funcs[k].result 20 := by omega
    cases plainlyX m.funcs[k].params <;> simp [hc, this]
   ·have : 20 < kindsX 8 m.funcs[k].result 20 := by omega
    cases plainlyX m.funcs[k].params <;> simp [hc, this]
  ·have hd : (m.funcs.take 9).drop k = [] := List.drop_eq_nil_of_le (by rw [List.length_take]; omega)
   rw [hend k (by omega), hd]
   rfl
theorem t30 (m : Mod) (hm : m.Lim) : callW pg 30 [m.av] = M.pure (.bool (modestX m)) := by
 have := loop30_1 m hm 9 0 rfl (by omega) (by omega)
 simp at this
 rw [C30]
 simp [S30, this, modestX]
end Go.Proofs.Ytgbopmciiadmlaa

namespace Go.Proofs.Ytgbopmciiadmlaa
open Go Go.Av Go.Av.Ap
theorem loop8_2 (args : List Val) (hl : args.length ≤ 140737488355328) (ha : ∀ v ∈ args, v.Lim) : fixW (L8_2 (callW pg) fixW) [vals args, .int .i64 0] = M.pure (.bool (args.all fun v => decide (partsX 8 v 40 ≤ 40))) := by
 have hloop := fix_all (FL8_2 (callW pg)) (fun k => [vals args, .int .i64 (k : Int)]) args.length (fun k => decide (partsX 8 args[k]! 40 ≤ 40))
  (by simp [L8_2]) (fun k hk => by
   have hx := t31 8 (by omega) args[k] (ha _ (List.getElem_mem hk)) 40 (by omega) (by omega)
   have hk' : (k : Int) < (args.length : Int) := by omega
   simp only [L8_2]
   simp at hx
   simp (disch := omega) [hk', wrap_in, IX23, hx]
   by_cases hc : partsX 8 args[k] 40 ≤ 40
   ·have : ¬ 40 < partsX 8 args[k] 40 := by omega
    simp [hc, this]
   ·have : 40 < partsX 8 args[k] 40 := by omega
    simp [hc, this]) 0 (Nat.zero_le _)
 simp only [Nat.sub_zero] at hloop
 rw [all_range' (fun v => decide (partsX 8 v 40 ≤ 40))] at hloop
 simpa using hloop
theorem loop8_0 (p : List Mod) (hp : p.length ≤ 140737488355328) (hm : ∀ m ∈ p, m.Lim) (a : AV) (i : Nat) (hi : i < p.length) (next : List AV → M AV) : ∀ r k, p[i].funcs.length - k = r → k ≤ p[i].funcs.length →
  fixW (L8_0 (callW pg) fixW next) [mods p, a, .int .i64 (i : Int), .int .i64 (k : Int)] = if (p[i].funcs.drop k).all (fun f => nodesOk f.body && decide (f.params.length ≤ 8)) = true then next [mods p, a, .int .i64 ((i : Int) + 1)] else M.pure (.bool false) := by
 have hM := hm _ (List.getElem_mem hi)
 have hfl := hM.funcs
 have hi' : (i : Int) < (p.length : Int) := by omega
 intro r
 induction r with
 | zero =>
  intro k hr hk
  obtain rfl : k = p[i].funcs.length := by omega
  rw [FL8_0]
  simp only [L8_0]
  simp (disch := omega) [wrap_in, IX22]
 | succ r ih =>
  intro k hr hk
  have h : k < p[i].funcs.length := by omega
  have hk' : (k : Int) < (p[i].funcs.length : Int) := by omega
  have hf := hM.fns _ (List.getElem_mem h)
  have hx := nodes_ok p[i].funcs[k].body hf.body
  have hg := nodesOk_gt p[i].funcs[k].body
  have hn := ih (k + 1) (by omega) (by omega)
  have e8 : ((8 : Int) < (p[i].funcs[k].params.length : Int)) = ¬ (p[i].funcs[k].params.length ≤ 8) := by rw [eq_iff_iff]; omega
  rw [FL8_0, List.drop_eq_getElem_cons h, List.all_cons]
  simp only [L8_0]
  simp at hx hn e8
  simp (disch := omega) [hk', wrap_in, IX22, IX59, hx, hn, hg, e8]
  by_cases hq : p[i].funcs[k].params.length ≤ 8
  ·have hq' : ¬ 8 < p[i].funcs[k].params.length := by omega
   cases nodesOk p[i].funcs[k].body <;> simp [hq, hq']
  ·have hq' : 8 < p[i].funcs[k].params.length := by omega
   cases nodesOk p[i].funcs[k].body <;> simp [hq, hq']
theorem loop8_1 (p : List Mod) (hp : p.length ≤ 140737488355328) (hm : ∀ m ∈ p, m.Lim) (a : AV) (i : Nat) (hi : i < p.length) (next : List AV → M AV) : ∀ r k, p[i].init.length - k = r → k ≤ p[i].init.length →
  fixW (L8_1 (callW pg) fixW next) [mods p, a, .int .i64 (i : Int), .int .i64 (k : Int)] = if ((p[i].init.drop k).all nodesOk && p[i].funcs.all (fun f => nodesOk f.body && decide (f.params.length ≤ 8))) = true then next [mods p, a, .int .i64 ((i : Int) + 1)] else M.pure (.bool false) := by
 have hM := hm _ (List.getElem_mem hi)
 have hfl := hM.init
 have hi' : (i : Int) < (p.length : Int) := by omega
 intro r
 induction r with
 | zero =>
  intro k hr hk
  obtain rfl : k = p[i].init.length := by omega
  have h0 := loop8_0 p hp hm a i hi next _ 0 rfl (by omega)
  rw [FL8_1]
  simp only [L8_1]
  simp at h0
  simp (disch := omega) [wrap_in, IX22, h0]
 | succ r ih =>
  intro k hr hk
  have h : k < p[i].init.length := by omega
  have hk' : (k : Int) < (p[i].init.length : Int) := by omega
  have hx := nodes_ok p[i].init[k] (hM.ies _ (List.getElem_mem h))
  have hg := nodesOk_gt p[i].init[k]
  have hn := ih (k + 1) (by omega) (by omega)
  rw [FL8_1, List.drop_eq_getElem_cons h, List.all_cons]
  simp only [L8_1]
  simp at hx hn
  simp (disch := omega) [hk', wrap_in, IX22, IX26, hx, hn, hg]
  cases nodesOk p[i].init[k] <;> simp
theorem loop8_3 (p : List Mod) (hp : p.length ≤ 140737488355328) (hm : ∀ m ∈ p, m.Lim) (args : List Val) (hl : args.length ≤ 140737488355328) (ha : ∀ v ∈ args, v.Lim) :
  fixW (L8_3 (callW pg) fixW) [mods p, vals args, .int .i64 0] = M.pure (.bool (p.all fewM && args.all (fun v => decide (partsX 8 v 40 ≤ 40)))) := by
 have h2 := loop8_2 args hl ha
 have key : ∀ r k, p.length - k = r → k ≤ p.length → fixW (L8_3 (callW pg) fixW) [mods p, vals args, .int .i64 (k : Int)] = M.pure (.bool ((p.drop k).all fewM && args.all (fun v => decide (partsX 8 v 40 ≤ 40)))) := by
  intro r
  induction r with
  | zero =>
   intro k hr hk
   obtain rfl : k = p.length := by omega
   rw [FL8_3]
   simp only [L8_3]
   simp [h2]
  | succ r ih =>
   intro k hr hk
   have h : k < p.length := by omega
   have hk' : (k : Int) < (p.length : Int) := by omega
   have hM := hm _ (List.getElem_mem h)
   have hx := t30 p[k] hM
   have hn := ih (k + 1) (by omega) (by omega)
   have h1 := loop8_1 p hp hm (vals args) k h (fixW (L8_3 (callW pg) fixW)) _ 0 rfl (by omega)
   have e1 : ((4 : Int) < (p[k].vars.length : Int)) = ¬ (p[k].vars.length ≤ 4) := by rw [eq_iff_iff]; omega
   have e2 : ((6 : Int) < (p[k].init.length : Int)) = ¬ (p[k].init.length ≤ 6) := by rw [eq_iff_iff]; omega
   have e3 : ((4 : Int) < (p[k].funcs.length : Int)) = ¬ (p[k].funcs.length ≤ 4) := by rw [eq_iff_iff]; omega
   rw [FL8_3, List.drop_eq_getElem_cons h, List.all_cons]
   simp only [L8_3]
   generalize hrest : (List.drop (k + 1) p).all fewM = rest at hn ⊢
   generalize hres2 : (args.all fun v => decide (partsX 8 v 40 ≤ 40)) = res2 at hn ⊢
   generalize hin : ((List.drop 0 p[k].init).all nodesOk && p[k].funcs.all (fun f => nodesOk f.body && decide (f.params.length ≤ 8))) = b at h1
   have hin' : (p[k].init.all nodesOk && p[k].funcs.all (fun f => nodesOk f.body && decide (f.params.length ≤ 8))) = b := hin
   simp only [fewM, hin']
   have hz : ((0 : Nat) : Int) = 0 := rfl
   rw [hz] at h1
   have hk1 : ((k + 1 : Nat) : Int) = (k : Int) + 1 := by omega
   rw [hk1] at hn
   simp (disch := omega) [hk', IX22, hx, e1, e2, e3]
   rw [h1, hn]
   by_cases c1 : p[k].vars.length ≤ 4
   ·by_cases c2 : p[k].init.length ≤ 6
    ·by_cases c3 : p[k].funcs.length ≤ 4
     ·have d1 : ¬ 4 < p[k].vars.length := by omega
      have d2 : ¬ 6 < p[k].init.length := by omega
      have d3 : ¬ 4 < p[k].funcs.length := by omega
      cases modestX p[k] <;> cases b <;> simp [c1, c2, c3, d1, d2, d3]
     ·have d3 : 4 < p[k].funcs.length := by omega
      simp [c3, d3]
    ·have d2 : 6 < p[k].init.length := by omega
     simp [c2, d2]
   ·have d1 : 4 < p[k].vars.length := by omega
    simp [c1, d1]
 simpa using key p.length 0 rfl (by omega)
theorem t8 (p : List Mod) (hp : p.length ≤ 140737488355328) (hm : ∀ m ∈ p, m.Lim) (args : List Val) (hl : args.length ≤ 140737488355328) (ha : ∀ v ∈ args, v.Lim) (world : List Int) (fuel : Int) :
  callW pg 8 [mods p, vals args, ints world, .int .i64 fuel] = M.pure (.bool (fewX p args world fuel)) := by
 have h3 := loop8_3 p hp hm args hl ha
 rw [C8]
 simp [S8, h3, fewX]
 by_cases c1 : p.length ≤ 4
 ·by_cases c2 : args.length ≤ 8
  ·by_cases c3 : world.length ≤ 30
   ·by_cases c4 : fuel ≤ 2000
    ·have d1 : ¬ (4 : Int) < (p.length : Int) := by omega
     have d2 : ¬ (8 : Int) < (args.length : Int) := by omega
     have d3 : ¬ (30 : Int) < (world.length : Int) := by omega
     have d4 : ¬ 2000 < fuel := by omega
     simp [c1, c2, c3, c4, d1, d2, d3, d4]
    ·have d4 : 2000 < fuel := by omega
     simp [c4, d4]
   ·have d3 : (30 : Int) < (world.length : Int) := by omega
    simp [c3, d3]
  ·have d2 : (8 : Int) < (args.length : Int) := by omega
   simp [c2, d2]
 ·have d1 : (4 : Int) < (p.length : Int) := by omega
  simp [c1, d1]
end Go.Proofs.Ytgbopmciiadmlaa

namespace Go.Proofs.Ytgbopmciiadmlaa
open Go Go.Av Go.Av.Ap
def valsEq (a b : List Val) : Bool := all2 (fun v w => fitsR 4 v && fitsR 4 w && sameP v w) a b
def varsEq (x y : Vars) : Bool := x.module == y.module && valsEq x.values y.values
def StLim (l : List Vars) : Prop := l.length ≤ 140737488355328 ∧ ∀ x ∈ l, valsSz x.values ≤ 4611686018427387904
theorem t12 (a b : List Vars) (ha : StLim a) (hb : StLim b) : callW pg 12 [varss a, varss b] = M.pure (.bool (all2 varsEq a b)) := by
 have hla := ha.1
 rw [C12]
 by_cases hl : a.length = b.length
 ·have hloop := fix_all (FL12_0 (callW pg)) (fun k => [varss a, varss b, .int .i64 (k : Int)]) a.length (fun k => varsEq a[k]! b[k]!)
   (by simp [L12_0]) (fun k hk => by
    have a1 : k < b.length := by omega
    have hk' : (k : Int) < (a.length : Int) := by omega
    have hx := t26 a[k].values b[k].values (ha.2 _ (List.getElem_mem hk)) (hb.2 _ (List.getElem_mem a1))
    simp only [L12_0, varsEq, valsEq]
    simp (disch := omega) [hk', wrap_in, IX32, hx]
    by_cases hm : a[k].module = b[k].module
    ·cases hv : all2 (fun v w => fitsR 4 v && fitsR 4 w && sameP v w) a[k].values b[k].values <;> simp [hm]
    ·simp [hm]) 0 (Nat.zero_le _)
  have := all_range2 varsEq a b hl
  simp only [Nat.sub_zero, this] at hloop
  simp at hloop
  simp [S12, hl, hloop]
 ·simp [S12, hl, all2_length _ a b hl]
def deedEq (d e : Deed) : Bool := d.effect == e.effect && d.arg == e.arg && d.answer == e.answer
theorem deed_neq (d e : Deed) : binA T .neq 55 d.av e.av = some (.bool (!(deedEq d e))) := by
 have h : eqA T 20 55 d.av e.av = some (deedEq d e) := by
  have h0 : eqA T 20 55 d.av e.av = (match some (d.effect == e.effect) with
   | some true => (match some (d.arg == e.arg) with
    | some true => (match some (d.answer == e.answer) with
     | some true => some true
     | some false => some false
     | none => none)
    | some false => some false
    | none => none)
   | some false => some false
   | none => none) := rfl
  rw [h0]
  unfold deedEq
  cases h1 : d.effect == e.effect <;> cases h2 : d.arg == e.arg <;> cases h3 : d.answer == e.answer <;> rfl
 show (eqA T 20 55 d.av e.av).map _ = _
 rw [h]
 rfl
structure OutLim (o : Out) : Prop where
 deeds : o.deeds.length ≤ 140737488355328
 calls : o.calls.length ≤ 140737488355328
 args : ∀ c ∈ o.calls, valsSz c.args ≤ 4611686018427387904
 state : StLim o.state
 value : o.value.sz ≤ 4611686018427387904
def callEq (x y : Ap.Call) : Bool := x.module == y.module && x.func == y.func && valsEq x.args y.args
theorem loop25_0 (a b : Out) (ha : OutLim a) (hb : OutLim b) (hl : b.calls.length ≤ a.calls.length) : fixW (L25_0 (callW pg) fixW) [.ip (acells a.av), .ip (acells b.av), .int .i64 0] = M.pure (.bool ((List.range' 0 b.calls.length).all fun k => callEq a.calls[k]! b.calls[k]!)) := by
 have hlb := hb.calls
 have hloop := fix_all (FL25_0 (callW pg)) (fun k => [.ip (acells a.av), .ip (acells b.av), .int .i64 (k : Int)]) b.calls.length (fun k => callEq a.calls[k]! b.calls[k]!)
  (by simp [L25_0]) (fun k hk => by
   have a1 : k < a.calls.length := by omega
   have hk' : (k : Int) < (b.calls.length : Int) := by omega
   have hx := t26 a.calls[k].args b.calls[k].args (ha.args _ (List.getElem_mem a1)) (hb.args _ (List.getElem_mem hk))
   simp only [L25_0, callEq, valsEq]
   simp (disch := omega) [hk', wrap_in, IX41, hx]
   by_cases hm : a.calls[k].module = b.calls[k].module
   ·by_cases hf : a.calls[k].func = b.calls[k].func
    ·cases hv : all2 (fun v w => fitsR 4 v && fitsR 4 w && sameP v w) a.calls[k].args b.calls[k].args <;> simp [hm, hf]
    ·simp [hm, hf]
   ·simp [hm]) 0 (Nat.zero_le _)
 simpa using hloop
def histX (a b : Out) : Bool := decide (b.deeds.length ≤ a.deeds.length) && decide (b.calls.length ≤ a.calls.length) && ((List.range' 0 b.deeds.length).all (fun k => deedEq a.deeds[k]! b.deeds[k]!) && (List.range' 0 b.calls.length).all fun k => callEq a.calls[k]! b.calls[k]!)
theorem loop25_1 (a b : Out) (ha : OutLim a) (hb : OutLim b) (hl : b.calls.length ≤ a.calls.length) (hd : b.deeds.length ≤ a.deeds.length) : fixW (L25_1 (callW pg) fixW) [.ip (acells a.av), .ip (acells b.av), .int .i64 0] = M.pure (.bool ((List.range' 0 b.deeds.length).all (fun k => deedEq a.deeds[k]! b.deeds[k]!) && (List.range' 0 b.calls.length).all fun k => callEq a.calls[k]! b.calls[k]!)) := by
 have hlb := hb.deeds
 have h0 := loop25_0 a b ha hb hl
 generalize hB : ((List.range' 0 b.calls.length).all fun k => callEq a.calls[k]! b.calls[k]!) = B at h0
 have key : ∀ r k, b.deeds.length - k = r → k ≤ b.deeds.length → fixW (L25_1 (callW pg) fixW) [.ip (acells a.av), .ip (acells b.av), .int .i64 (k : Int)] = M.pure (.bool ((List.range' k (b.deeds.length - k)).all (fun k => deedEq a.deeds[k]! b.deeds[k]!) && B)) := by
  intro r
  induction r with
  | zero =>
   intro k hr hk
   obtain rfl : k = b.deeds.length := by omega
   rw [FL25_1]
   simp only [L25_1]
   simp at h0
   simp [h0]
  | succ r ih =>
   intro k hr hk
   have h : k < b.deeds.length := by omega
   have h' : k < a.deeds.length := by omega
   have hk' : (k : Int) < (b.deeds.length : Int) := by omega
   have hn := ih (k + 1) (by omega) (by omega)
   have hle : ∀ d : Deed, loadA T 55 (.ip (acells d.av)) = some d.av := fun _ => rfl
   have hq := deed_neq a.deeds[k] b.deeds[k]
   have he : b.deeds.length - k = (b.deeds.length - (k + 1)) + 1 := by omega
   rw [FL25_1, he, List.range'_succ, List.all_cons]
   simp only [L25_1]
   generalize hC : ((List.range' (k + 1) (b.deeds.length - (k + 1))).all (fun k => deedEq a.deeds[k]! b.deeds[k]!)) = C at hn ⊢
   simp at hn
   simp (disch := omega) [hk', wrap_in, IX40, hq, hn]
   cases deedEq a.deeds[k] b.deeds[k] <;> simp
 simpa using key b.deeds.length 0 rfl (by omega)
theorem t25 (a b : Out) (ha : OutLim a) (hb : OutLim b) : callW pg 25 [a.av, b.av] = M.pure (.bool (histX a b)) := by
 rw [C25]
 unfold histX
 by_cases h1 : b.deeds.length ≤ a.deeds.length
 ·have d1 : ¬ a.deeds.length < b.deeds.length := by omega
  by_cases h2 : b.calls.length ≤ a.calls.length
  ·have d2 : ¬ a.calls.length < b.calls.length := by omega
   have hl := loop25_1 a b ha hb h2 h1
   simp at hl
   simp [S25, h1, h2, hl, d1, d2]
  ·have d2 : (a.calls.length : Int) < (b.calls.length : Int) := by omega
   have d3 : a.calls.length < b.calls.length := by omega
   simp [S25, h1, h2, d3]
 ·have d1 : a.deeds.length < b.deeds.length := by omega
  simp [S25, h1, d1]
def sameR (v w : Val) : Bool := fitsR 4 v && fitsR 4 w && sameP v w
def alikeX (a b : Out) : Bool := (a.err == b.err && a.deeds.length == b.deeds.length && a.calls.length == b.calls.length && histX a b && all2 varsEq a.state b.state) && (a.err != 0 || sameR a.value b.value)
theorem t13 (a b : Out) (ha : OutLim a) (hb : OutLim b) : callW pg 13 [a.av, b.av] = M.pure (.bool (alikeX a b)) := by
 have hh := t25 a b ha hb
 have hs := t12 a.state b.state ha.state hb.state
 have hv := t24 a.value b.value ha.value hb.value
 rw [C13]
 unfold alikeX sameR
 simp [S13, hh, hs, hv]
end Go.Proofs.Ytgbopmciiadmlaa

namespace Go.Proofs.Ytgbopmciiadmlaa
open Go Go.Av Go.Av.Ap
mutual
theorem sameP_refl : (v : Val) → sameP v v = true
 | .mk k n ns vs => by
  simp only [sameP, beq_self_eq_true, Bool.true_and]
  exact samesP_refl vs
theorem samesP_refl : (l : List Val) → samesP l l = true
 | [] => rfl
 | v :: l => by
  simp only [samesP, sameP_refl v, samesP_refl l, Bool.and_self]
end
theorem fitsPR : ∀ (d : Nat) (v : Val), fitsP d v = true → fitsR d v = true
 | 0, _, h => by simp [fitsP] at h
 | d + 1, v, h => by
  unfold fitsP at h
  unfold fitsR
  split at h
  ·rename_i hk
   simp only [Bool.and_eq_true, Bool.or_eq_true, beq_iff_eq] at h hk
   have hn0 : v.names.length = 0 := h.1.1
   have hv0 : v.values.length = 0 := h.1.2
   have hn : v.names = [] := List.eq_nil_of_length_eq_zero hn0
   have hv : v.values = [] := List.eq_nil_of_length_eq_zero hv0
   rcases hk with hk | hk
   ·simp [hk, hn, hv]
   ·have h3 : v.n = 0 ∨ v.n = 1 := by
     rcases h.2 with (h | h) | h
     ·rw [hk] at h; exact absurd h (by decide)
     ·exact .inl h
     ·exact .inr h
    rcases h3 with h3 | h3 <;> simp [hk, h3, hn, hv]
  ·rename_i hk
   simp only [Bool.and_eq_true, beq_iff_eq, decide_eq_true_eq, List.all_eq_true] at h
   have h1 : v.kind = 2 := h.1.1.1.1.1
   have h2 : v.n = 0 := h.1.1.1.1.2
   have h3 : v.names.length = v.values.length := h.1.1.1.2
   have h4 : v.names.length ≤ 8 := h.1.1.2
   have h5 : ¬ 8 < v.values.length := by omega
   have h6 : asc v.names = true := h.1.2
   have h7 : ∀ x ∈ v.values, fitsR d x = true := fun x hx => fitsPR d x (h.2 x hx)
   simp [h1, h2, h3, h5, h6]
   exact h7
theorem valsEq_refl : (l : List Val) → (∀ v ∈ l, Rv v) → valsEq l l = true
 | [], _ => rfl
 | v :: l, h => by
  have h1 := fitsPR 4 v (h v List.mem_cons_self)
  have h2 := valsEq_refl l fun w hw => h w (List.mem_cons_of_mem _ hw)
  unfold valsEq at h2 ⊢
  simp only [all2, h1, sameP_refl, h2, Bool.and_self]
theorem varsEq_refl : (l : List Vars) → (∀ x ∈ l, ∀ v ∈ x.values, Rv v) → all2 varsEq l l = true
 | [], _ => rfl
 | x :: l, h => by
  have h1 := valsEq_refl x.values (h x List.mem_cons_self)
  have h2 := varsEq_refl l fun w hw => h w (List.mem_cons_of_mem _ hw)
  simp only [all2, varsEq, beq_self_eq_true, h1, h2, Bool.and_self]
theorem callEq_refl (c : Ap.Call) (h : ∀ v ∈ c.args, Rv v) : callEq c c = true := by
 unfold callEq
 simp only [beq_self_eq_true, valsEq_refl c.args h, Bool.and_self]
theorem hist_prefix {a b : Out} (hd : b.deeds <+: a.deeds) (hc : b.calls <+: a.calls) (hr : ∀ c ∈ b.calls, ∀ v ∈ c.args, Rv v) : histX a b = true := by
 unfold histX
 have h1 := hd.length_le
 have h2 := hc.length_le
 simp only [Bool.and_eq_true, decide_eq_true_eq, List.all_eq_true, List.mem_range'_1]
 refine ⟨⟨h1, h2⟩, fun k hk => ?_, fun k hk => ?_⟩
 ·have e : a.deeds[k]! = b.deeds[k]! := by
   rw [getElem!_pos a.deeds k (by omega), getElem!_pos b.deeds k (by omega)]
   exact (hd.getElem (by omega)).symm
  rw [e]
  simp [deedEq]
 ·have e : a.calls[k]! = b.calls[k]! := by
   rw [getElem!_pos a.calls k (by omega), getElem!_pos b.calls k (by omega)]
   exact (hc.getElem (by omega)).symm
  rw [e]
  refine callEq_refl _ (hr _ ?_)
  rw [getElem!_pos b.calls k (by omega)]
  exact List.getElem_mem _
theorem alike_refl {a : Out} (h : RightO a) : alikeX a a = true := by
 unfold alikeX sameR
 rw [hist_prefix (List.prefix_refl _) (List.prefix_refl _) h.2.1, varsEq_refl _ h.2.2, fitsPR 4 _ h.1, sameP_refl]
 simp
theorem outLim_of {B n : Nat} {o : Out} (h : OutB B n o) (hr : RightO o) (hB : B ≤ 274877906944) (hn : n ≤ 140737488355328) : OutLim o where
 deeds := by have := h.deeds; omega
 calls := by have := h.calls; omega
 args := fun c hc => Nat.le_trans (vals_right_sz _ (hr.2.1 c hc)) (by have := h.args c hc; omega)
 state := ⟨Nat.le_trans h.state hn, fun x hx => Nat.le_trans (vals_right_sz _ (hr.2.2 x hx)) (by have := h.vals x hx; omega)⟩
 value := Nat.le_trans (right_sz hr.1) (by omega)
end Go.Proofs.Ytgbopmciiadmlaa

namespace Go.Proofs.Ytgbopmciiadmlaa
open Go Go.Av Go.Av.Ap
theorem expsLim_of : (l : List Exp) → (∀ x ∈ l, expLim x) → expsLim l
 | [], _ => trivial
 | x :: l, h => ⟨h x List.mem_cons_self, expsLim_of l fun y hy => h y (List.mem_cons_of_mem _ hy)⟩
theorem expLim_of {e : Exp} (h1 : e.names.length ≤ 8796093022208) (h2 : e.args.length ≤ 274877906944) (h3 : ∀ x ∈ e.args, expLim x) : expLim e := by
 obtain ⟨o, n, s, m, ns, es⟩ := e
 exact ⟨h1, h2, expsLim_of es h3⟩
theorem nodes_lim : ∀ (d : Nat) (e : Exp), e.Lim → ∀ most : Int, 0 ≤ most → most ≤ 1000 → nodesX d e most ≤ most → expLim e
 | 0, e, _, most, _, _, h => by simp only [nodesX] at h; omega
 | d + 1, e, he, most, h0, h1, h => by
  have h' : capS most (nodesX d) 1 e.args ≤ most := h
  obtain ⟨a1, a2, _⟩ := capS_fit (fun _ => 0) 0 e.args (fun x _ m h0 _ => (nodesX_bounds d x m h0).1) (fun x _ m _ _ _ => by simp) 1 (by omega) h'
  refine expLim_of he.names (by omega) fun x hx => ?_
  obtain ⟨m, b1, b2, b3⟩ := a2 x hx
  exact nodes_lim d x (he.kid hx) m b1 (by omega) b3
theorem nodesOk_lim {e : Exp} (he : e.Lim) (h : nodesOk e = true) : expLim e := nodes_lim 16 e he 40 (by omega) (by omega) (of_decide_eq_true h)
structure FewP (p : List Mod) (fuel : Int) : Prop where
 len : p.length ≤ 4
 fuel : fuel ≤ 2000
 lim : LimR p
 small : ∀ m ∈ p, m.vars.length ≤ 8 ∧ ∀ f ∈ m.funcs, f.params.length ≤ 8
theorem fewX_prog {p : List Mod} {args : List Val} {world : List Int} {fuel : Int} (h : fewX p args world fuel = true) (hm : ∀ m ∈ p, m.Lim) : FewP p fuel := by
 unfold fewX at h
 simp only [Bool.and_eq_true, decide_eq_true_eq, List.all_eq_true, fewM] at h
 obtain ⟨⟨⟨⟨c1, _⟩, _⟩, c4⟩, c5, _⟩ := h
 have hs : ∀ m ∈ p, m.vars.length ≤ 8 ∧ ∀ f ∈ m.funcs, f.params.length ≤ 8 := fun m hmp => by
  obtain ⟨⟨⟨⟨d1, d2⟩, d3⟩, d4⟩, d5, d6⟩ := c5 m hmp
  exact ⟨by omega, fun f hf => (d6 f hf).2⟩
 refine ⟨c1, c4, ⟨⟨⟨by omega, fun m hmp => ?_⟩, fun m hmp f hf => ?_⟩, fun m hmp => ?_⟩, hs⟩
 ·obtain ⟨⟨⟨⟨d1, d2⟩, d3⟩, d4⟩, d5, d6⟩ := c5 m hmp
  exact ⟨by omega, by omega⟩
 ·obtain ⟨⟨⟨⟨d1, d2⟩, d3⟩, d4⟩, d5, d6⟩ := c5 m hmp
  exact ⟨nodesOk_lim ((hm m hmp).fns f hf).body (d6 f hf).1, by have := (d6 f hf).2; omega⟩
 ·obtain ⟨⟨⟨⟨d1, d2⟩, d3⟩, d4⟩, d5, d6⟩ := c5 m hmp
  exact ⟨by omega, fun e he => nodesOk_lim ((hm m hmp).ies e he) (d5 e he)⟩
theorem fewX_world {p : List Mod} {args : List Val} {world : List Int} {fuel : Int} (h : fewX p args world fuel = true) : world.length ≤ 30 := by
 unfold fewX at h
 simp only [Bool.and_eq_true, decide_eq_true_eq, List.all_eq_true] at h
 exact h.1.1.2
theorem run_outLim {p : List Mod} {fu : Int} (F : FewP p fu) (module fn : Str) (args : List Val) (world : List Int) (fuel : Int) : OutLim (runX p module fn args world fuel) :=
 outLim_of (B := 8) (n := p.length) (run_lim p module fn args world fuel F.small) (run_right ..) (by omega) (by have := F.len; omega)
theorem from_outLim {p : List Mod} {fu : Int} (F : FewP p fu) (st : List Vars) (module fn : Str) (args : List Val) (world : List Int) (fuel : Int) : OutLim (fromX p st module fn args world fuel) :=
 outLim_of (B := 8) (n := p.length) (from_lim p st module fn args world fuel F.small) (from_right ..) (by omega) (by have := F.len; omega)
end Go.Proofs.Ytgbopmciiadmlaa

namespace Go.Proofs.Ytgbopmciiadmlaa
open Go Go.Av
set_option maxRecDepth 1000000
theorem small_ev : evCall pg 200 7 [] [] = .ok (.bool true) [] := by kernel_rfl
theorem small_W : callW pg 7 [] = M.pure (.bool true) := by
 funext h
 have h1 := callW_of hOther small_ev (by simp)
 have e : ∀ h, callW pg 7 [] h = isoP (evBody (pg.cx (callW pg) Try.f7.ntmps ann7) fixW Try.f7 (pg.own 7) (cls noHs [])) h := fun h => congrFun (callW_iso hOther rfl rfl rfl []) h
 rw [e] at h1 ⊢
 unfold isoP at h1 ⊢
 generalize evBody (pg.cx (callW pg) Try.f7.ntmps ann7) fixW Try.f7 (pg.own 7) (cls noHs []) [] = r at h1 ⊢
 cases r with
 | ok v h' =>
  simp only [R.ok.injEq] at h1
  show R.ok (frz 6 h' v) h = _
  rw [h1.1]; rfl
 | pan v h' => cases h1
 | fail => cases h1
end Go.Proofs.Ytgbopmciiadmlaa

namespace Go.Proofs.Ytgbopmciiadmlaa
open Go Go.Av Go.Av.Ap
def CpV (tag : Nat → Nat) (ns : List Str) (vs : List (List Val)) (v : AV) (h : Hp) : Prop := SlR tag 5 2 vs.length (fun cs => StatesR tag h 0 ns vs cs) v h
structure InvV (N : Nat) (vs : List (List Val)) : Prop where
 len : vs.length = N
 each : ∀ l ∈ vs, l.length ≤ 8 ∧ ∀ v ∈ l, v.sz ≤ 90071992547409920
theorem setSt_inv {N : Nat} {vs : List (List Val)} (H : InvV N vs) (i k : Nat) (v : Val) (hv : v.sz ≤ 90071992547409920) : InvV N (setSt vs i k v) := by
 refine ⟨by simp [setSt, H.len], fun l hl => ?_⟩
 unfold setSt at hl
 obtain ⟨j, hj, rfl⟩ := List.getElem_of_mem hl
 rw [List.getElem_modify]
 have hj' : j < vs.length := by simpa using hj
 obtain ⟨h1, h2⟩ := H.each _ (List.getElem_mem hj')
 split
 ·refine ⟨by rw [List.length_set]; exact h1, fun w hw => ?_⟩
  rcases List.mem_or_eq_of_mem_set hw with k | k
  ·exact h2 w k
  ·rw [k]; exact hv
 ·exact ⟨h1, h2⟩
theorem setSt_len (vs : List (List Val)) (i k : Nat) (v : Val) (j : Nat) : ((setSt vs i k v)[j]?.map (·.length)) = vs[j]?.map (·.length) := by
 unfold setSt
 rw [List.getElem?_modify]
 by_cases h : i = j
 ·subst h
  cases vs[i]? <;> simp
 ·cases vs[j]? <;> simp [h]
theorem cpV_set {tag : Nat → Nat} {ns : List Str} {vs : List (List Val)} {v : AV} {h : Hp} (H : CpV tag ns vs v h) {i k : Nat} {l : List Val} (hl : vs[i]? = some l) (hk : k < l.length) (x : Val) :
  ∃ q r, v = .hs q 0 vs.length 2 true ∧ (∀ g : AV → M AV, bnd (loadH T 23 (.hp q (i * 2 + 1))) g h = g (.hs r 0 l.length 4 true) h) ∧ (∀ g : AV → M AV, bnd (storeH T 39 (.hp r (k * 4)) x.av) g h = g (.tup []) (h.set r (valCells (l.set k x)))) ∧ CpV tag ns (setSt vs i k x) v (h.set r (valCells (l.set k x))) := by
 have hi : i < vs.length := (List.getElem?_eq_some_iff.1 hl).1
 have hne : l ≠ [] := fun e => by rw [e] at hk; simp at hk
 rcases H with ⟨h0, _⟩ | ⟨q, cs, h1, h2, h3, h4, h5, h6⟩
 ·omega
 ·obtain ⟨av, g1, g2⟩ := h6.at i l hl
  rcases g2 with ⟨g2, _⟩ | ⟨r, rfl, g3, g4⟩
  ·exact absurd g2 hne
  ·refine ⟨q, r, h1, fun g => bnd_ok (loadH_one rfl rfl h4 g1), fun g => ?_, ?_⟩
   ·have := storeH_ok (T := T) (t := 39) rfl g4 (v := x.av) (k := k * 4) (okEl_val x) (by rw [valCells_len]; show k * 4 + 4 ≤ _; omega) (by decide)
    rw [valCells_set hk] at this
    exact bnd_ok this
   ·have hq : r ≠ q := fun e => by rw [e, h3] at g3; omega
    exact .inr ⟨q, cs, by rw [h1]; simp [setSt], by simpa [setSt] using h2, h3, by rw [List.getElem?_set_ne hq]; exact h4, by simpa [setSt] using h5, h6.set i l hl g3 g4 g1 hk⟩
theorem cpV_at {tag : Nat → Nat} {ns : List Str} {vs : List (List Val)} {v : AV} {h : Hp} (H : CpV tag ns vs v h) {i : Nat} {l : List Val} (hl : vs[i]? = some l) :
  ∃ q av, v = .hs q 0 vs.length 2 true ∧ (∀ g : AV → M AV, bnd (loadH T 23 (.hp q (i * 2 + 1))) g h = g av h) ∧ lenA T 23 av = some (.int .i64 l.length) := by
 have hi : i < vs.length := (List.getElem?_eq_some_iff.1 hl).1
 rcases H with ⟨h0, _⟩ | ⟨q, cs, h1, h2, h3, h4, h5, h6⟩
 ·omega
 ·obtain ⟨av, g1, g2⟩ := h6.at i l hl
  refine ⟨q, av, h1, fun g => bnd_ok (loadH_one rfl rfl h4 g1), ?_⟩
  rcases g2 with ⟨rfl, rfl⟩ | ⟨r, rfl, _, _⟩
  ·rfl
  ·rfl
theorem ix_vrs {q N i : Nat} (hi : i < N) : indexAddrA T 32 (.hs q 0 N 2 true) (.int .i64 (i : Int)) = some (.hp q (i * 2)) := by
 have := ixh (t := 32) rfl rfl rfl (l := q) (off := 0) (len := N) (sz := 2) (ag := true) (n := (i : Int)) (by omega) (by omega)
 rw [this]
 simp
theorem loop_in (b0 b1 b2 b4 b5 b6 b7 : AV) (args : List Val) (hab : ∀ v ∈ args, v.sz ≤ 90071992547409920) (N : Nat) (ns : List Str) (v : AV) (tag : Nat → Nat) (v88 : List AV → M AV) (i : Nat) (hi : i < N) (hia : i < args.length) (hN : N ≤ 1000000) :
  ∀ (n k : Nat) (vs : List (List Val)) (h : Hp), (vs[i]?.getD []).length - k = n → k ≤ (vs[i]?.getD []).length → InvV N vs → CpV tag ns vs v h →
  ∃ vs' h', InvV N vs' ∧ CpV tag ns vs' v h' ∧ fixW (L3_2 (callW pg) fixW v88) [b0, b1, b2, vals args, b4, b5, b6, b7, v, .int .i64 i, .int .i64 k] h = v88 [b0, b1, b2, vals args, b4, b5, b6, b7, v, .int .i64 (i + 1 : Nat)] h' := by
 intro n
 induction n with
 | zero =>
  intro k vs h hn hk I C
  have hiv : i < vs.length := by rw [I.len]; exact hi
  have hl : vs[i]? = some vs[i] := List.getElem?_eq_getElem hiv
  rw [hl, Option.getD_some] at hn hk
  obtain ⟨q, av, hv, l1, l2⟩ := cpV_at C hl
  have hlt : ¬ ((k : Int) < (vs[i].length : Int)) := by omega
  have hw : IntKind.i64.wrap ((i : Int) + 1) = ((i + 1 : Nat) : Int) := wrap_add1 (by omega)
  refine ⟨vs, h, I, C, ?_⟩
  generalize hcode : fixW (L3_2 (callW pg) fixW v88) [b0, b1, b2, vals args, b4, b5, b6, b7, v, .int .i64 i, .int .i64 k] h = code
  have hix : indexAddrA T 32 v (.int .i64 (i : Int)) = some (.hp q (i * 2)) := by rw [hv]; exact ix_vrs hiv
  rw [FL3_2] at hcode
  simp -implicitDefEqProofs only [L3_2, nth_zero, nth_succ, hix, bnd_some, FH47_1, l1, l2, bin_lss, condM_bool, hlt, decide_false, Bool.false_eq_true, if_false, bin_add, hw] at hcode
  exact hcode.symm
 | succ n ih =>
  intro k vs h hn hk I C
  have hiv : i < vs.length := by rw [I.len]; exact hi
  have hl : vs[i]? = some vs[i] := List.getElem?_eq_getElem hiv
  rw [hl, Option.getD_some] at hn hk
  have hkl : k < vs[i].length := by omega
  obtain ⟨q0, av, hv0, l1, l2⟩ := cpV_at C hl
  obtain ⟨q, r, hv, l3, s1, C2⟩ := cpV_set C hl hkl args[i]
  have hqq : q = q0 := by rw [hv] at hv0; simp at hv0; exact hv0
  subst hqq
  have hlt : ((k : Int) < (vs[i].length : Int)) := by omega
  have hw : IntKind.i64.wrap ((k : Int) + 1) = ((k + 1 : Nat) : Int) := wrap_add1 (by have := (I.each _ (List.getElem_mem hiv)).1; omega)
  have hln := setSt_len vs i k args[i] i
  rw [hl] at hln
  obtain ⟨l', hl', hll⟩ : ∃ l', (setSt vs i k args[i])[i]? = some l' ∧ l'.length = vs[i].length := by
   cases hc : (setSt vs i k args[i])[i]? with
   | none => rw [hc] at hln; simp at hln
   | some l' => rw [hc] at hln; simp at hln; exact ⟨l', rfl, hln⟩
  obtain ⟨vs', h', I', C', e⟩ := ih (k + 1) (setSt vs i k args[i]) _ (by rw [hl', Option.getD_some]; omega) (by rw [hl', Option.getD_some]; omega) (setSt_inv I i k _ (hab _ (List.getElem_mem hia))) C2
  refine ⟨vs', h', I', C', ?_⟩
  rw [← e]
  generalize hcode : fixW (L3_2 (callW pg) fixW v88) [b0, b1, b2, vals args, b4, b5, b6, b7, v, .int .i64 i, .int .i64 k] h = code
  have hix : indexAddrA T 32 v (.int .i64 (i : Int)) = some (.hp q (i * 2)) := by rw [hv]; exact ix_vrs hiv
  have hia2 := IX23 (l := args) (n := (i : Int)) (by omega) (by omega)
  rw [show ((i : Int)).toNat = i by omega, getElem!_pos args i hia] at hia2
  have hld : loadA T 39 (.ip (acells args[i].av)) = some args[i].av := by simp
  have hx2 : indexAddrA T 23 (.hs r 0 vs[i].length 4 true) (.int .i64 (k : Int)) = some (.hp r (k * 4)) := by
   have := ixh (t := 23) rfl rfl rfl (l := r) (off := 0) (len := vs[i].length) (sz := 4) (ag := true) (n := (k : Int)) (by omega) (by omega)
   rw [this]
   simp
  rw [FL3_2] at hcode
  simp -implicitDefEqProofs only [L3_2, nth_zero, nth_succ, hix, bnd_some, FH47_1, l1, l2, bin_lss, condM_bool, hlt, decide_true, if_true, hia2, hld, bin_add, hw] at hcode
  have hcode2 := hcode
  clear hcode
  first
   | exact hcode2.symm
   | (rw [show av = .hs r 0 vs[i].length 4 true from by
     have a1 := l1 M.pure
     have a2 := l3 M.pure
     rw [a1] at a2
     simp only [M.pure, Av.R.ok.injEq] at a2
     exact a2.1] at hcode2
      simp -implicitDefEqProofs only [hx2, bnd_some, s1] at hcode2
      exact hcode2.symm)
theorem loop_out (p : List Mod) (module fn : Str) (args : List Val) (world : List Int) (fuel : Int) (e : Exp) (hab : ∀ v ∈ args, v.sz ≤ 90071992547409920) (N : Nat) (hN : N ≤ 1000000) (ns : List Str) (v : AV) (tag : Nat → Nat) (v87 : List AV → M AV) :
  ∀ (n i : Nat) (vs : List (List Val)) (h : Hp), N - i = n → i ≤ N → InvV N vs → CpV tag ns vs v h →
  ∃ vs' h', InvV N vs' ∧ fixW (L3_3 (callW pg) fixW v87) [mods p, .str module, .str fn, vals args, ints world, .int .i64 fuel, .ip (acells e.av), .bool true, v, .int .i64 i] h = v87 [mods p, .str module, .str fn, vals args, ints world, .int .i64 fuel, .ip (acells e.av), .bool true, varss (List.zipWith Vars.mk ns vs')] h' := by
 have hlenv : ∀ vs h, InvV N vs → CpV tag ns vs v h → lenA T 32 v = some (.int .i64 N) := fun vs h I C => by
  rcases C with ⟨h0, rfl⟩ | ⟨q, cs, rfl, _⟩
  ·rw [I.len] at h0; subst h0; rfl
  ·rw [I.len]; rfl
 have hend : ∀ (i : Nat) (vs : List (List Val)) (h : Hp), InvV N vs → CpV tag ns vs v h → (decide ((i : Int) < (N : Int)) && decide ((i : Int) < (args.length : Int))) = false →
   ∃ h', fixW (L3_3 (callW pg) fixW v87) [mods p, .str module, .str fn, vals args, ints world, .int .i64 fuel, .ip (acells e.av), .bool true, v, .int .i64 i] h = v87 [mods p, .str module, .str fn, vals args, ints world, .int .i64 fuel, .ip (acells e.av), .bool true, varss (List.zipWith Vars.mk ns vs)] h' := by
  intro i vs h I C hb
  refine ⟨h.map fun _ => [], ?_⟩
  have hla : lenA T 23 (vals args) = some (.int .i64 args.length) := LENE23 _
  have hg : guardM (.bool (decide ((i : Int) < (N : Int)))) true 1 (M.pure [.bool (decide ((i : Int) < (args.length : Int)))]) = M.pure [gv (decide ((i : Int) < (N : Int))) true (.bool (decide ((i : Int) < (args.length : Int))))] := guardM_pure1 _ _ _
  have hfr : frz 6 h v = varss (List.zipWith Vars.mk ns vs) := by
   rw [frz_succ]
   rcases C with ⟨h0, rfl⟩ | ⟨q, cs, j1, j2, j3, j4, j5, j6⟩
   ·have : vs = [] := List.eq_nil_of_length_eq_zero h0
    subst this
    cases ns <;> rfl
   ·exact frz_states (c0 := cs) (tag := tag) (.inr ⟨q, cs, j1, j2, j3, j4, j5, rfl, j6⟩)
  have hce : ∀ g, cls g (acells e.av) = acells e.av := fun g => by rw [acells_exp]; simp [cls]
  have hfz : fzL [mods p, .str module, .str fn, vals args, ints world, .int .i64 fuel, .ip (acells e.av), .bool true, v] h = .ok [mods p, .str module, .str fn, vals args, ints world, .int .i64 fuel, .ip (acells e.av), .bool true, varss (List.zipWith Vars.mk ns vs)] (h.map fun _ => []) := by
   unfold fzL
   simp only [List.map_cons, List.map_nil, hfr]
   simp only [frz_succ, cl_mods, cl_vals, cl_ints, cl, hce]
  rw [FL3_3]
  simp only [L3_3, nth_zero, nth_succ, hlenv vs h I C, hla, bin_lss, bnd_some, hg, bnd_pure, pickA_and, hb, condM_bool, Bool.false_eq_true, if_false]
  simp only [bnd, hfz]
 intro n
 induction n with
 | zero =>
  intro i vs h hn hi I C
  obtain ⟨h', e1⟩ := hend i vs h I C (by
   have : decide ((i : Int) < (N : Int)) = false := by simp; omega
   rw [this]; rfl)
  exact ⟨vs, h', I, e1⟩
 | succ n ih =>
  intro i vs h hn hi I C
  by_cases hia : i < args.length
  ·have h1 : (i : Int) < (N : Int) := by omega
   have h2 : (i : Int) < (args.length : Int) := by omega
   obtain ⟨vs1, h1', I1, C1, e1⟩ := loop_in (mods p) (.str module) (.str fn) (ints world) (.int .i64 fuel) (.ip (acells e.av)) (.bool true) args hab N ns v tag (fixW (L3_3 (callW pg) fixW v87)) i (by omega) hia hN _ 0 vs h rfl (by omega) I C
   obtain ⟨vs2, h2', I2, e2⟩ := ih (i + 1) vs1 h1' (by omega) (by omega) I1 C1
   refine ⟨vs2, h2', I2, ?_⟩
   rw [← e2, ← e1]
   have hla : lenA T 23 (vals args) = some (.int .i64 args.length) := LENE23 _
   have hg : guardM (.bool (decide ((i : Int) < (N : Int)))) true 1 (M.pure [.bool (decide ((i : Int) < (args.length : Int)))]) = M.pure [gv (decide ((i : Int) < (N : Int))) true (.bool (decide ((i : Int) < (args.length : Int))))] := guardM_pure1 _ _ _
   conv => lhs; rw [FL3_3]
   simp only [L3_3, nth_zero, nth_succ, hlenv vs h I C, hla, bin_lss, bnd_some, h1, h2, decide_true]
   rfl
  ·obtain ⟨h', e1⟩ := hend i vs h I C (by
    have : decide ((i : Int) < (args.length : Int)) = false := by simp; omega
    rw [this]; simp)
   exact ⟨vs, h', I, e1⟩
end Go.Proofs.Ytgbopmciiadmlaa

namespace Go.Proofs.Ytgbopmciiadmlaa
open Go Go.Av Go.Av.Ap
def abc : List UInt8 := [97, 98, 99, 100, 101, 102, 103, 104]
theorem neq_bool (a b : Bool) : binA T .neq 4 (.bool a) (.bool b) = some (.bool (a != b)) := by cases a <;> cases b <;> rfl
theorem loop_cmp (args : List Val) (hargs : valsSz args ≤ 4611686018427387904) (v w : Val) (hc kc : Int) (hend : hc = kc ∧ (hc = 0 → v = w ∧ Rv v) ∧ v.sz ≤ 4611686018427387904 ∧ w.sz ≤ 4611686018427387904) :
  ∀ (n i : Nat), args.length - i = n → 1 ≤ i → fixW (L3_0 (callW pg) fixW) [vals args, .bool true, .ip (acells v.av), .int .i64 hc, .ip (acells w.av), .int .i64 kc, .int .i64 i] = M.pure (.bool true) := by
 have hla : lenA T 23 (vals args) = some (.int .i64 args.length) := LENE23 _
 have hfe : (fitsR 4) = (fitsP 4) := funext (fitsRP 4)
 have hlen : args.length ≤ 4611686018427387904 := Nat.le_trans (valsSz_len args) hargs
 have hvl : ∀ x : Val, loadA T 39 (.ip (acells x.av)) = some x.av := fun x => by simp
 intro n
 induction n with
 | zero =>
  intro i hn hi
  have hlt : ¬ ((i : Int) < (args.length : Int)) := by omega
  obtain ⟨h1, h2, h3, h4⟩ := hend
  have hs := t24 v w h3 h4
  have heq : (hc == kc) = true := by simp [h1]
  have hg1 : guardM (.bool true) true 1 (M.pure [.bool (hc == kc)]) = M.pure [.bool (hc == kc)] := rfl
  have hg2 : guardM (.bool (hc == kc)) true 1 (M.pure [.bool (hc != 0)]) = M.pure [gv (hc == kc) true (.bool (hc != 0))] := guardM_pure1 _ _ _
  rw [FL3_0]
  simp only [L3_0, nth_zero, nth_succ, hla, bin_lss, bnd_some, condM_bool, hlt, decide_false, Bool.false_eq_true, if_false, err_eq, err_ne, bnd_pure, heq, guardM, cond_true, beq_self_eq_true]
  by_cases h0 : hc = 0
  ·obtain ⟨rfl, rv⟩ := h2 h0
   have hsame : (fitsR 4 v && fitsR 4 v && sameP v v) = true := by
    rw [hfe, sameP_refl]
    have : fitsP 4 v = true := rv
    rw [this]; rfl
   rw [hsame] at hs
   have hb : (hc != 0) = false := by simp [h0]
   simp [hb, hs]
  ·have hb : (hc != 0) = true := by simpa using h0
   simp [hb]
 | succ n ih =>
  intro i hn hi
  have hlt : i < args.length := by omega
  have h1 : (i : Int) < (args.length : Int) := by omega
  have hix := IX23 (l := args) (n := (i : Int)) (by omega) h1
  rw [show ((i : Int)).toNat = i by omega, getElem!_pos args i hlt] at hix
  have hi0 := IX23 (l := args) (n := 0) (by omega) (by omega)
  rw [show ((0 : Int)).toNat = 0 from rfl, getElem!_pos args 0 (by omega)] at hi0
  have hsz : ∀ x ∈ args, x.sz ≤ 4611686018427387904 := fun x hx => Nat.le_trans (valsSz_mem hx) hargs
  have r1 := t21 args[i] (hsz _ (List.getElem_mem hlt))
  have r2 := t22 args[i] (hsz _ (List.getElem_mem hlt))
  have s1 := t23 args[0] args[i] (hsz _ (List.getElem_mem _)) (hsz _ (List.getElem_mem hlt))
  have s2 := t24 args[0] args[i] (hsz _ (List.getElem_mem _)) (hsz _ (List.getElem_mem hlt))
  rw [hfe] at r2 s2
  have hw : IntKind.i64.wrap ((i : Int) + 1) = ((i + 1 : Nat) : Int) := wrap_add1 (by omega)
  have e1 : (fitsP 4 args[i] != fitsP 4 args[i]) = false := by simp
  have e2 : ((fitsP 4 args[0] && fitsP 4 args[i] && sameP args[0] args[i]) != (fitsP 4 args[0] && fitsP 4 args[i] && sameP args[0] args[i])) = false := by simp
  rw [FL3_0]
  simp only [L3_0, nth_zero, nth_succ, hla, bin_lss, bnd_some, condM_bool, h1, decide_true, if_true, hix, hi0, hvl, r1, r2, noPan_pure, bnd_pure, neq_bool, s1, s2, e1, e2, guardM_pure1, pickA_or, Bool.or_self, Bool.false_eq_true, if_false, bin_add, hw]
  exact ih (i + 1) (by omega) (by omega)
theorem abc_slice (i : Nat) (hi : i < 8) : sliceA T 9 (.str [97, 98, 99, 100, 101, 102, 103, 104]) (some (.int .i64 (i : Int))) (some (.int .i64 ((i : Int) + 1))) none = some (.str [abc[i]'(hi)]) := by
 have : i = 0 ∨ i = 1 ∨ i = 2 ∨ i = 3 ∨ i = 4 ∨ i = 5 ∨ i = 6 ∨ i = 7 := by omega
 rcases this with rfl | rfl | rfl | rfl | rfl | rfl | rfl | rfl <;> rfl
theorem loop_names (args : List Val) (h8 : args.length ≤ 8) (hargs : valsSz args ≤ 90071992547409920) (e : Exp) (he : expLim e) : ∀ (n i : Nat) (ns : List Str), args.length - i = n → i ≤ args.length → ns.length = i →
  fixW (L3_1 (callW pg) fixW) [vals args, .ip (acells e.av), .bool true, strs ns, .int .i64 i] = M.pure (.bool true) := by
 have hla : lenA T 23 (vals args) = some (.int .i64 args.length) := LENE23 _
 intro n
 induction n with
 | zero =>
  intro i ns hn hi hl
  obtain rfl : i = args.length := by omega
  have hlt : ¬ ((args.length : Int) < (args.length : Int)) := by omega
  have hex : loadA T 28 (.ip (acells e.av)) = some e.av := by simp
  have c1 := t19 e ns args he (by omega) (by omega)
  have c2 := t20 e ns args he (by omega) (by omega)
  have hag : ∀ v : Val, acells (AV.agg (acells v.av)) = acells v.av := fun _ => rfl
  rw [FL3_1]
  simp only [L3_1, nth_zero, nth_succ, hla, bin_lss, bnd_some, condM_bool, hlt, decide_false, Bool.false_eq_true, if_false, hex, c1, c2, bnd_pure]
  have hexp : ∀ v s, expX e ns args = .ok v s → Rv v := fun v s h => by
   unfold expX at h
   split at h
   ·rename_i hr
    exact (good_exp.eval ⟨hr.1, fun v hv => (List.all_eq_true.1 hr.2) v hv⟩ h).2.1
   ·cases h
  cases hx : expX e ns args with
  | ok v s =>
   have rv := hexp v s hx
   have hsz : v.sz ≤ 4611686018427387904 := Nat.le_trans (right_sz rv) (by decide)
   have := loop_cmp args (by omega) v v 0 0 ⟨rfl, fun _ => ⟨rfl, rv⟩, hsz, hsz⟩ _ 1 rfl (by omega)
   simp only [pairOf, extractA_tup, List.getElem?_cons_zero, List.getElem?_cons_succ, bnd_some, okEl_c, bnd_pure, hag]
   exact this
  | er c s =>
   have hc : c ≠ 0 := by
    unfold expX at hx
    split at hx
    ·exact eval_err hx
    ·cases hx; decide
   have hsz : (default : Val).sz ≤ 4611686018427387904 := by decide
   have := loop_cmp args (by omega) default default c c ⟨rfl, fun h => absurd h hc, hsz, hsz⟩ _ 1 rfl (by omega)
   simp only [pairOf, extractA_tup, List.getElem?_cons_zero, List.getElem?_cons_succ, bnd_some, okEl_c, bnd_pure, hag]
   exact this
 | succ n ih =>
  intro i ns hn hi hl
  have h1 : (i : Int) < (args.length : Int) := by omega
  have hw : IntKind.i64.wrap ((i : Int) + 1) = (i : Int) + 1 := wrap_in (by omega) (by omega)
  have hsl := abc_slice i (by omega)
  have hb : ∀ s : Str, buildSliceA T 25 1 [(0, .str s)] = some (strs [s]) := fun _ => rfl
  have ha : ∀ s : Str, appA T 25 (strs ns) (strs [s]) = some (strs (ns ++ [s])) := fun s => AP25 (by simp; omega)
  rw [FL3_1]
  simp only [L3_1, nth_zero, nth_succ, hla, bin_lss, bnd_some, condM_bool, h1, decide_true, if_true, bin_add, hw, hsl, hb, ha]
  have := ih (i + 1) (ns ++ [[abc[i]'(by show i < 8; omega)]]) (by omega) (by omega) (by simp [hl])
  simp only [Int.natCast_add, Int.natCast_one] at this
  exact this
theorem t3 (p : List Mod) (hp : p.length ≤ 140737488355328) (hm : ∀ m ∈ p, m.Lim) (module fn : Str) (args : List Val) (hl : args.length ≤ 140737488355328) (ha : ∀ v ∈ args, v.Lim) (world : List Int) (_hw : world.length ≤ 140737488355328) (fuel : Int) (_h0 : -9223372036854775808 ≤ fuel) (_h1 : fuel ≤ 9223372036854775807) (e : Exp) (hel : e.Lim) :
  callW pg 3 [mods p, .str module, .str fn, vals args, ints world, .int .i64 fuel, e.av] = M.pure (.bool true) := by
 have hfew := t8 p hp hm args hl ha world fuel
 have hnodes := t9 16 (by omega) e hel 40 (by omega) (by omega)
 have hgt := nodesOk_gt e
 have hex : loadA T 28 (.ip (acells e.av)) = some e.av := by simp
 rw [C3]
 have hcl1 : ∀ s : Str, cl noHs (.str s) = .str s := fun _ => rfl
 simp only [cl_mods, cl_vals, cl_ints, cl_str, cl_int, cl_exp]
 have h16 : (AV.int IntKind.i64 16) = .int .i64 ((16 : Nat) : Int) := rfl
 have key : ∃ h', S3 (callW pg) fixW (mods p) (.str module) (.str fn) (vals args) (ints world) (.int .i64 fuel) e.av [] = .ok (.bool true) h' := by
  generalize hcode : S3 (callW pg) fixW (mods p) (.str module) (.str fn) (vals args) (ints world) (.int .i64 fuel) e.av [] = code
  have hg0 : ∀ b : Bool, guardM (.bool b) false 1 (M.pure [.bool (decide (40 < nodesX 16 e 40))]) = M.pure [gv b false (.bool (decide (40 < nodesX 16 e 40)))] := fun b => guardM_pure1 _ _ _
  simp -implicitDefEqProofs only [S3, small_W, bnd_pure, hfew, unA_not, bnd_some, hex, h16, hnodes, bin_gtr, hg0, nth_zero, pickA_or, condM_bool] at hcode
  by_cases hbad : (!(fewX p args world fuel) || decide (40 < nodesX 16 e 40)) = true
  ·simp only [hbad, if_true] at hcode
   exact ⟨[], hcode.symm⟩
  have hbad' : (!(fewX p args world fuel) || decide (40 < nodesX 16 e 40)) = false := by simpa using hbad
  simp only [hbad', Bool.false_eq_true, if_false] at hcode
  rw [hgt] at hbad'
  simp only [Bool.or_eq_false_iff, Bool.not_eq_false'] at hbad'
  obtain ⟨hq, hno⟩ := hbad'
  have he := nodesOk_lim hel hno
  have F := fewX_prog hq hm
  obtain ⟨h8, hargs⟩ := fewX_args hq ha
  have hwl := fewX_world hq
  have f1 := t10 p F.lim.body.lim.len (fun m hm => ⟨(F.lim.body.lim.funcs m hm).2, F.lim.init m hm⟩)
  have f2 := t11 p F.lim.body.lim.len (fun m hm => ⟨(F.lim.body.lim.funcs m hm).2, F.lim.init m hm⟩)
  have r1 := t14 F.lim module fn args world fuel (by omega)
  have r2 := t15 F.lim module fn args world fuel (by omega) (by omega)
  have la := run_outLim F module fn args world fuel
  have al := t13 _ _ la la
  rw [alike_refl (run_right ..)] at al
  -- the first states
  obtain ⟨st, ec, hst, hbel⟩ : ∃ (st : List Vars) (ec : Int), freshAv (freshX p) = .tup [varss st, .int .i64 ec] ∧ ((freshX p = .ok st) ∨ st = []) := by
   cases hf : freshX p with
   | ok st => exact ⟨st, 0, rfl, .inl rfl⟩
   | error c => exact ⟨[], c, rfl, .inr rfl⟩
  have hstl : st.length ≤ 4 ∧ ∀ x ∈ st, x.values.length ≤ 8 ∧ ∀ v ∈ x.values, Rv v := by
   rcases hbel with hf | rfl
   ·have hb := freshX_belongs hf
    obtain ⟨b1, b2, b3⟩ := belongs_right hb
    refine ⟨by have := F.len; omega, fun x hx => ?_⟩
    obtain ⟨i, hi, rfl⟩ := List.getElem_of_mem hx
    have hip : i < p.length := by omega
    have := b3 i p[i] st[i] (List.getElem?_eq_getElem hip) (List.getElem?_eq_getElem hi)
    have h4 := (F.small _ (List.getElem_mem hip)).1
    exact ⟨by omega, b2 _ hx⟩
   ·exact ⟨by simp, fun x hx => by cases hx⟩
  have hsz : ∀ x ∈ st, valsSz x.values ≤ 4611686018427387904 := fun x hx => by
   have h1 := vals_right_sz x.values (hstl.2 x hx).2
   have h2 := (hstl.2 x hx).1
   have h3 : x.values.length * 200000 ≤ 8 * 200000 := Nat.mul_le_mul_right _ h2
   omega
  have hstates := t12 st st ⟨by omega, hsz⟩ ⟨by omega, hsz⟩
  rw [varsEq_refl st (fun x hx => (hstl.2 x hx).2)] at hstates
  rw [hst] at f1 f2
  have hne : (ec != ec) = false := by simp
  have hg1 : ∀ x : AV, guardM (.bool false) false 1 (M.pure [x]) = M.pure [x] := fun _ => rfl
  simp -implicitDefEqProofs only [f1, f2, bnd_pure, extractA_tup, List.getElem?_cons_zero, List.getElem?_cons_succ, bnd_some, err_ne, hne, hstates, unA_not, Bool.not_true, hg1, nth_zero, pickA_false, r1, r2, al, condM_bool, Bool.false_eq_true, if_false] at hcode
  obtain ⟨tag, v, h1, c1, C, _⟩ := t16 st (by omega) (fun x hx => by have := (hstl.2 x hx).1; omega) []
  rw [bnd_ok c1] at hcode
  have I0 : InvV st.length (st.map (·.values)) := ⟨by simp, fun l hl => by
   simp only [List.mem_map] at hl
   obtain ⟨x, hx, rfl⟩ := hl
   refine ⟨(hstl.2 x hx).1, fun w hw => ?_⟩
   have := right_sz ((hstl.2 x hx).2 w hw)
   omega⟩
  have C0 : CpV tag (st.map (·.module)) (st.map (·.values)) v h1 := by
   unfold CpV
   rw [List.length_map]
   exact C
  obtain ⟨vs', h2, I2, e2⟩ := loop_out p module fn args world fuel e (fun w hw => Nat.le_trans (valsSz_mem hw) hargs) st.length (by omega) (st.map (·.module)) v tag (K3_0 (callW pg) fixW) _ 0 _ h1 rfl (by omega) I0 C0
  simp only [jn_def] at hcode
  have hz : ((0 : Nat) : Int) = 0 := rfl
  rw [hz] at e2
  rw [e2] at hcode
  -- the states with the arguments in
  have hz1 : (List.zipWith Vars.mk (st.map (·.module)) vs').length ≤ 4 := by
   rw [List.length_zipWith]
   have := hstl.1
   simp only [List.length_map]
   omega
  have hz2 : ∀ x ∈ List.zipWith Vars.mk (st.map (·.module)) vs', x.values.length ≤ 274877906944 ∧ valsSz x.values ≤ 4611686018427387904 := fun x hx => by
   have hm := zip_state_mem hx
   obtain ⟨k1, k2⟩ := I2.each _ hm
   refine ⟨by omega, ?_⟩
   have key : ∀ l : List Val, (∀ v ∈ l, v.sz ≤ 90071992547409920) → valsSz l ≤ l.length * 90071992547409920 := by
    intro l
    induction l with
    | nil => intro _; simp [valsSz]
    | cons v l ih =>
     intro h
     have h1 := h v List.mem_cons_self
     have h2 := ih fun w hw => h w (List.mem_cons_of_mem _ hw)
     simp only [valsSz, List.length_cons]
     omega
   have h3 := key x.values k2
   have h4 : x.values.length * 90071992547409920 ≤ 8 * 90071992547409920 := Nat.mul_le_mul_right _ k1
   omega
  have g1 := t17 F.lim.body (List.zipWith Vars.mk (st.map (·.module)) vs') module fn args world fuel (by omega) hz2 (by omega)
  have g2 := t18 F.lim.body (List.zipWith Vars.mk (st.map (·.module)) vs') module fn args world fuel (by omega) (by omega) hz2 (by omega)
  have la2 := from_outLim F (List.zipWith Vars.mk (st.map (·.module)) vs') module fn args world fuel
  have al2 := t13 _ _ la2 la2
  rw [alike_refl (from_right ..)] at al2
  have hnm := loop_names args h8 hargs e he _ 0 [] rfl (by omega) rfl
  have hs0 : strs [] = .sl [] := rfl
  rw [hs0, hz] at hnm
  simp -implicitDefEqProofs only [K3_0, nth_zero, nth_succ, g1, g2, bnd_pure, al2, unA_not, Bool.not_true, bnd_some, condM_bool, Bool.false_eq_true, if_false, hnm] at hcode
  exact ⟨h2, hcode.symm⟩
 obtain ⟨h', hS⟩ := key
 exact isoP_frz hS rfl
end Go.Proofs.Ytgbopmciiadmlaa
