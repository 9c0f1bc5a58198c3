/- The abstract evaluator of the model, part 4: its soundness holds for every program whose table of types is the evaluator's. No further condition. -/
import Derived.Test.YtllapohmppeceaaDoorLc
import Derived.Orders

/- clear on a slice in the heap. Conditions: the table of types is the program's. -/
namespace Go.Av
variable [Dr]
section
variable {P : Program} {cx : Cx} {c : Entry} {N : Nat} {U : Nat → Prop} {e : Env} {h : Hp} {a : Act} {w : World} {S : Stab} {β : List Blk} {γ : Nat → Value} {lam : Nat → Option Nat} {ω : Nat → Owner} {o : Oper} {gid : Nat}

omit [Dr] in
theorem oneCells {cs : List AV} {vs : List Value} (h : VRs S β cs vs) (ho : cs.all okCell = true) : ∀ y ∈ vs, y.oneCell' = true := by
  induction cs generalizing vs with
  | nil => simp [VRs] at h; subst h; intro y hy; simp at hy
  | cons x cs ih =>
    simp only [VRs] at h
    obtain ⟨v, r, rfl, h1, h2⟩ := h
    simp only [List.all_cons, Bool.and_eq_true] at ho
    intro y hy
    rcases List.mem_cons.1 hy with rfl | hy
    · exact (okCell_ok ho.1 h1).2
    · exact ih h2 ho.2 y hy

/-- Cells of a row of the heap, put. -/
theorem FR.putH (H : FR c N U e h a w S β γ lam ω) {l off b nb : Nat} {cs acs : List AV} {vs : List Value} (hcs : h[l]? = some cs) (hne : cs ≠ []) (hb : β[l]? = some (b, nb)) (hvs : VRs S β acs vs) (hle : off + acs.length ≤ cs.length) :
    ∃ z, Row w b z ∧ cs.length ≤ z.size ∧ FR c N U e (h.set l (setCells cs off acs)) a (w.setRow b (z.toList.take off ++ vs ++ z.toList.drop (off + vs.length)).toArray) S β γ lam ω := by
  obtain ⟨b', z, j1, j2, j3, j4, j5⟩ := H.heap l cs hcs hne
  rw [hb] at j1; cases j1
  have hvl := hvs.length
  have hzs : cs.length ≤ z.size := by
    have := j4.length
    simp at this
    omega
  refine ⟨z, j2, hzs, H.turnH hcs hne ⟨_, hb⟩ j2 (by simp; omega) ?_⟩
  rw [setCells_length _ _ _ (by omega)]
  have hsp : VRs S β (setCells cs off acs) (((z.toList.take cs.length).take off ++ vs ++ (z.toList.take cs.length).drop (off + vs.length))) := by
    unfold setCells
    rw [hvl]
    exact ((j4.take off).append hvs).append (j4.drop _)
  have heq : (z.toList.take off ++ vs ++ z.toList.drop (off + vs.length)).take cs.length =
      (z.toList.take cs.length).take off ++ vs ++ (z.toList.take cs.length).drop (off + vs.length) := by
    rw [List.take_append, List.take_append]
    have e1 : (z.toList.take off).length = off := by simp; omega
    rw [List.take_take, List.take_take]
    have e2 : min cs.length off = off := by omega
    have e3 : min off cs.length = off := by omega
    rw [e2, e3, e1]
    have e4 : vs.take (cs.length - off) = vs := List.take_of_length_le (by omega)
    rw [e4]
    congr 1
    rw [List.take_drop, List.length_append, e1]
    congr 2
    omega
  show VRs S β _ (List.take _ _)
  rw [show (z.toList.take off ++ vs ++ z.toList.drop (off + vs.length)).toArray.toList = (z.toList.take off ++ vs ++ z.toList.drop (off + vs.length)) from rfl, heq]
  exact hsp

omit [Dr] in
theorem zeroCells_list (z : Array Value) (n : Nat) : (Builtin.zeroCells z n).toList = (List.replicate n z.toList).flatten := by
  induction n with
  | zero => simp [Builtin.zeroCells]
  | succ n ih =>
    rw [List.replicate_succ', List.flatten_append, ← ih]
    unfold Builtin.zeroCells
    apply List.ext_getElem
    · simp [Nat.succ_mul]
    · intro i h1 h2
      simp only [Array.length_toList, Array.size_map, Array.size_range] at h1
      simp only [Array.toList_map, Array.toList_range, List.getElem_map, List.getElem_range, List.flatten_cons, List.flatten_nil, List.append_nil]
      by_cases hi : i < n * z.size
      · rw [List.getElem_append_left (by simpa using hi)]
        simp
      · rw [List.getElem_append_right (by simpa using hi)]
        rw [Nat.succ_mul] at h1
        have hm : i % z.size = i - n * z.size := by
          rw [show i = (i - n * z.size) + n * z.size by omega, Nat.add_mul_mod_self_right, Nat.mod_eq_of_lt (by omega)]
          omega
        simp [hm, getElem!_pos z (i - n * z.size) (by omega)]

omit [Dr] in
theorem VRs_rep {cs : List AV} {vs : List Value} (h : VRs S β cs vs) : ∀ n, VRs S β (List.replicate n cs).flatten (List.replicate n vs).flatten
  | 0 => by simp [VRs]
  | n + 1 => by
    simp only [List.replicate_succ, List.flatten_cons]
    exact h.append (VRs_rep h n)

theorem clear_op (hT : TOK P cx.T) (H : FR c N U e h a w S β γ lam ω) (hd : ∀ t, o.dst = some t → t < N) {cc : Call} (ho : o.op = .call cc) (hcal : cc.callee = .builtin .clear) {t : TypeId} {ts : List TypeId} {x : Operand} {xs : List Operand}
    (hts : cc.argTypes.toList = t :: ts) (hxs : cc.args.toList = x :: xs) (hx : ∀ t, x = .tmp t → t < 1000)
    (hr : runAct e o.dst (.dyn (clearH cx.T t (opnd e x)) .ofV) h ≠ .fail) : After P c N (UG U gid) (runAct e o.dst (.dyn (clearH cx.T t (opnd e x)) .ofV) h) o a w := by
  have hxv := opnd_ok H x hx
  have h1 : cc.argTypes = (t :: ts).toArray := by apply Array.ext'; simpa using hts
  have h2 : cc.args.map a.eval = (a.eval x :: xs.map a.eval).toArray := by
    apply Array.ext'
    simp [hxs]
  have hexec : ∀ w', (Builtin.clear_ cc.argTypes o.type (cc.args.map a.eval)).run P w = .ok (.tuple #[]) w' → (execOp a.eval o).run P w = .ok (.value (.tuple #[])) w' := fun w' hh => by
    simp only [execOp, ho, resolve, hcal, invoke, builtin, pure_bind, Sem.run_bind, hh, Result.andThen_ok, Sem.run_pure]
  simp only [runAct, bnd] at hr ⊢
  unfold clearH at hr ⊢
  cases ht : cx.T t with
  | none => rw [ht] at hr; exact absurd rfl hr
  | some ti =>
    rw [ht] at hr
    simp only at hr ⊢
    cases hk : ti.kind <;> rw [hk] at hr <;> (try exact absurd rfl hr)
    rename_i el
    simp only at hr ⊢
    cases hel : cx.T el with
    | none => rw [hel] at hr; exact absurd rfl hr
    | some ei =>
      rw [hel] at hr
      simp only at hr ⊢
      have hti := hT.get ht
      obtain ⟨ii, d, z, hii, hdd, hzz, _, _, _, hkd, _⟩ := hti.ex
      have hdsl : d = .slice el := by
        rw [hk] at hkd
        cases d <;> simp_all [kindOf]
      subst hdsl
      obtain ⟨ie, de, ze, hie, _, hze, hzs, hsz, _⟩ := (hT.get hel).ex
      have hzr : ∀ w : World, (zeroValue el).run P w = .ok ze w := fun w => by simp [zeroValue, typeInfo, hie, hze]
      have h0 := zerosOf_ok (S := S) (β := β) hT hel false hie hze
      have h0' : VRs S β ei.zero ze.cells.toList := h0
      have hupd : ∀ E : Env, ∀ d, Sat c N (UG U gid) (E.upd d (.ofV (.tup []))) h a w → True := fun _ _ _ => trivial
      have hbase : ∀ a' n cap, a.eval x = .slice a' n cap → (n = 0 ∨ a' = none) → (Builtin.clear_ cc.argTypes o.type (cc.args.map a.eval)).run P w = .ok (.tuple #[]) w := by
        intro a' n cap he h3
        rw [h1, h2, he]
        rcases h3 with rfl | rfl
        · cases a' <;> simp [Builtin.clear_, run_underlying hdd]
        · simp [Builtin.clear_, run_underlying hdd]
      generalize hq : opnd e x = q at hr hxv ⊢
      cases q <;> (try exact absurd rfl hr)
      case sl es =>
        cases es with
        | cons y ys => exact absurd rfl hr
        | nil =>
          simp only [VR] at hxv
          obtain ⟨a', cap, he, _⟩ := hxv
          have he' : a.eval x = .slice a' 0 cap := by simpa using he
          exact After.val (v := .tuple #[]) (hexec w (hbase a' 0 cap he' (.inl rfl))) (Sat.up ⟨_, _, _, _, _, H.setV hd (by simp [VR, VRs])⟩)
      case hs l off len sz ag =>
        simp only at hr ⊢
        cases hcs : h[l]? with
        | none => rw [hcs] at hr; exact absurd rfl hr
        | some cs =>
          rw [hcs] at hr
          simp only at hr ⊢
          cases hcond : (Nat.beq sz ei.size && decide (off + len * sz ≤ cs.length) && decide (0 < len) && decide (0 < sz) && ei.zero.all okCell) with
          | false => rw [hcond] at hr; exact absurd rfl hr
          | true =>
            rw [hcond] at hr
            simp only [cond_true] at hr ⊢
            simp only [Bool.and_eq_true, decide_eq_true_eq] at hcond
            obtain ⟨⟨⟨⟨k1, k2⟩, k3⟩, k4⟩, k5⟩ := hcond
            have k1' := Nat.eq_of_beq_eq_true k1
            simp only [VR] at hxv
            obtain ⟨⟨b, nb⟩, cap, hb, he, hlc, hfit⟩ := hxv
            have hzl : ei.zero.length = sz := by
              have := h0'.length
              simp at this
              omega
            have hpos : 0 < len * sz := Nat.mul_pos k3 k4
            have hne : cs ≠ [] := by rintro rfl; simp at k2; omega
            have hrl : (List.replicate len ei.zero).flatten.length = len * sz := by simp [hzl]
            obtain ⟨z', j1, j2, F⟩ := H.putH (off := off) hcs hne hb (VRs_rep h0' len) (by rw [hrl]; omega)
            have hone : ∀ y ∈ (List.replicate len ze.cells.toList).flatten, y.oneCell' = true := by
              intro y hy
              simp only [List.mem_flatten] at hy
              obtain ⟨l', hl', hy⟩ := hy
              rw [List.eq_of_mem_replicate hl'] at hy
              exact oneCells h0' k5 y hy
            obtain ⟨te, hrow⟩ := j1
            have hvl : (List.replicate len ze.cells.toList).flatten.length = len * sz := by
              have := (VRs_rep h0' len).length
              omega
            have hst := run_storeCells_at P b off te (List.replicate len ze.cells.toList).flatten 0 z' w hrow (by omega) hone
            simp only [Nat.add_zero] at hst
            refine After.val (v := .tuple #[]) (hexec _ ?_) (Sat.up ⟨_, _, _, _, _, F.setV hd (by simp [VR, VRs])⟩)
            rw [h1, h2, he]
            obtain ⟨m, rfl⟩ : ∃ m, len = m + 1 := ⟨len - 1, by omega⟩
            simp [Builtin.clear_, run_underlying hdd, hzr, zeroCells_list, hst]
end
end Go.Av

/- One operation: new memory, addresses, calls. Conditions: the table of types is the program's; the calls are right. -/
namespace Go.Av
variable [Dr]

section
variable {P : Program} {cx : Cx} {c : Entry} {N : Nat} {U : Nat → Prop} {e : Env} {h : Hp} {a : Act} {w : World} {S : Stab} {β : List Blk} {γ : Nat → Value} {lam : Nat → Option Nat} {ω : Nat → Owner} {o : Oper} {gid : Nat}

/-- A new immutable cell row, by value. -/
theorem boxF (H : FR c N U e h a w S β γ lam ω) (hd : ∀ t, o.dst = some t → t < N) {cs : List AV} {x : Array Value} {vs : List Value} {t : TypeId} (hvs : VRs S β cs vs) (hx : ∀ (j : Nat) (v : Value), vs[j]? = some v → x[j]? = some v)
    (hrun : (execOp a.eval o).run P w = .ok (.value (.pointer (some ⟨w.heap.size, 0, none⟩))) (w.alloc (.cells x t))) : After P c N (UG U gid) (.ok (e.upd o.dst (.ofV (.ip cs))) h) o a w := by
  have H2 := H.allocS x t x.size
  refine After.val hrun (Sat.up ⟨_, β, γ, lam, ω, H2.setV hd ?_⟩)
  simp only [VR]
  refine ⟨w.heap.size, 0, vs, rfl, hvs.mono (fun k o v hv => ?_) (Ext.refl β), fun j v hj => ?_⟩
  · unfold Stab.withRowTo
    split
    · rename_i hk; subst hk; rw [H.wf.none (Nat.le_refl _)] at hv; simp at hv
    · exact hv
  · have := hx j v hj
    unfold Stab.withRowTo
    rw [if_pos rfl, Nat.zero_add, if_pos]
    · exact this
    · rcases Nat.lt_or_ge j x.size with h | h
      · exact h
      · rw [Array.getElem?_eq_none h] at this; simp at this

theorem newH_op (H : FR c N U e h a w S β γ lam ω) (hd : ∀ t, o.dst = some t → t < N) {cs : List AV} {x : Array Value} {vs : List Value} {t : TypeId} (hvs : VRs S β cs vs) (hx : ∀ (j : Nat) (v : Value), vs[j]? = some v → x[j]? = some v)
    (hrun : (execOp a.eval o).run P w = .ok (.value (.pointer (some ⟨w.heap.size, 0, none⟩))) (w.alloc (.cells x t))) : After P c N (UG U gid) (runAct e o.dst (.dyn (newH cs) .ofV) h) o a w := by
  have htake : VRs S β cs (x.toList.take cs.length) := by
    refine .of_get ?_ fun i y v hy hv => ?_
    · have hl := hvs.length
      rw [List.length_take]
      have : cs.length ≤ x.size := by
        rcases Nat.eq_zero_or_pos cs.length with h0 | h0
        · omega
        · obtain ⟨v, hv, _⟩ := hvs.allR (cs.length - 1) (by omega)
          have := hx _ _ hv
          rcases Nat.lt_or_ge (cs.length - 1) x.size with h | h
          · omega
          · rw [Array.getElem?_eq_none h] at this; simp at this
      simp; omega
    · obtain ⟨u, hu, hur⟩ := hvs.get hy
      have := hx i u hu
      rw [List.getElem?_take] at hv
      split at hv
      · rw [Array.getElem?_toList, this] at hv
        cases hv; exact hur
      · simp at hv
  obtain ⟨ω', F, hnew, _⟩ := H.newH x t htake
  refine After.val hrun (Sat.up ⟨_, _, γ, lam, ω', F.setV hd ?_⟩)
  simp only [VR]
  exact ⟨_, hnew, rfl⟩

omit [Dr] in
theorem alloc_run (hT : TOK P cx.T) {t : Nat} {ti : TI} (ht : cx.T t = some ti) : ∃ z : Value, (Instr.alloc t true (.tuple #[])).run P w = .ok (.pointer (some ⟨w.heap.size, 0, none⟩)) (w.alloc (.cells z.cells t)) ∧ z.cells.size = ti.size ∧
    (∀ told, VRs S β (zerosOf told ti) z.cells.toList) := by
  obtain ⟨i, d, z, hi, hd, hz, hzs, hsz, _⟩ := (hT.get ht).ex
  refine ⟨z, ?_, by omega, fun told => zerosOf_ok hT ht told hi hz⟩
  simp [Instr.alloc, zeroValue, typeInfo, hi, hz, newVar, newRow]

omit [Dr] in
theorem zerosOf_length {told : Bool} {ti : TI} : (zerosOf told ti).length = ti.zero.length := by
  unfold zerosOf; cases told <;> simp

theorem alloc_op (hT : TOK P cx.T) (H : FR c N U e h a w S β γ lam ω) (hd : ∀ t, o.dst = some t → t < N) (hU : ∀ g, gid ≤ g → g < gid + 1000 → ¬ U g) {t : Nat} (ho : o.op = .alloc t) (hr : runOp cx e gid o h ≠ .fail) :
    After P c N (UG U gid) (runOp cx e gid o h) o a w := by
  unfold runOp opD at hr ⊢
  rw [ho] at hr ⊢
  simp only at hr ⊢
  cases hdst : o.dst with
  | none => rw [hdst] at hr; exact absurd rfl hr
  | some s =>
    rw [hdst] at hr
    simp only at hr ⊢
    unfold opAlloc at hr ⊢
    cases ht : cx.T t with
    | none => rw [ht] at hr; exact absurd rfl hr
    | some ti =>
      rw [ht] at hr
      simp only at hr ⊢
      obtain ⟨z, hrun, hzs, hz⟩ := alloc_run (w := w) (S := S) (β := β) hT ht
      have hexec : (execOp a.eval o).run P w = .ok (.value (.pointer (some ⟨w.heap.size, 0, none⟩))) (w.alloc (.cells z.cells t)) := by
        simp only [execOp, ho, Sem.run_bind, hrun, Result.andThen_ok, Sem.run_pure]
      have hL : ∀ A : Act1, A = (bif decide (ti.size < 1000) && locFree e.sl (lbase s) && nilsAt (zerosOf true ti) (findN cx.ann.nils s) ti.size then
          .stat { ent := ⟨.loc (lbase s) 0, none⟩, ls := lsOf (lbase s) (zerosOf (memN cx.ann.hb s) ti) (findN cx.ann.nils s) gid ti.size, add := gsOf (findN cx.ann.nils s) gid, lb := some (lbase s, ti.size) } else .bad) →
          runAct e (some s) A h ≠ .fail → After P c N (UG U gid) (runAct e (some s) A h) o a w := by
        rintro A rfl hr
        cases hcond : (decide (ti.size < 1000) && locFree e.sl (lbase s) && nilsAt (zerosOf true ti) (findN cx.ann.nils s) ti.size) with
        | false => rw [hcond] at hr; exact absurd rfl hr
        | true =>
          simp only [cond_true]
          simp only [Bool.and_eq_true, decide_eq_true_eq] at hcond
          obtain ⟨⟨h1, h2⟩, h3⟩ := hcond
          obtain ⟨lam', ω', F⟩ := H.allocL (s := s) (n := ti.size) (gid := gid) (x := z.cells) (t := t) (cs := zerosOf (memN cx.ann.hb s) ti) (offs := findN cx.ann.nils s) (hd s hdst) hU h1 (fun i hi => by
              have hzz := hz (memN cx.ann.hb s)
              have hl := hzz.length
              obtain ⟨v, v1, v2⟩ := hzz.allR i (by rw [← hl]; simpa [hzs] using hi)
              exact ⟨v, by simpa using v1, v2⟩) (fun i hi => by
              unfold nilsAt at h3
              rw [List.all_eq_true] at h3
              have := h3 i hi
              rw [Bool.and_eq_true] at this
              have hn := isHn_inv this.2
              have hlt : i < ti.size := by simpa using this.1
              have hzz := hz true
              have hl := hzz.length
              obtain ⟨v, v1, v2⟩ := hzz.allR i (by rw [← hl]; simpa [hzs] using hlt)
              rw [hn] at v2
              simp only [VR] at v2
              subst v2
              exact ⟨hlt, by simpa using v1⟩) h2
          refine After.val hexec ?_
          rw [hdst]
          exact ⟨_, _, _, _, _, F⟩
      cases hk : findK cx.ann.kinds s .L with
      | F =>
        simp only
        rw [← hdst]
        exact boxF H hd (hz false) (fun j v hj => by simpa using hj) hexec
      | H =>
        simp only
        rw [← hdst]
        exact newH_op H hd (hz _) (fun j v hj => by simpa using hj) hexec
      | L => rw [hk] at hr; exact hL _ rfl hr
      | S => rw [hk] at hr; exact hL _ rfl hr

theorem box_op (H : FR c N U e h a w S β γ lam ω) (hd : ∀ t, o.dst = some t → t < N) (hU : ∀ g, gid ≤ g → g < gid + 1000 → ¬ U g) {t : Nat} {x : Operand} (ho : o.op = .box t x) (hx : ∀ t, x = .tmp t → t < 1000) (hr : runOp cx e gid o h ≠ .fail) :
    After P c N (UG U gid) (runOp cx e gid o h) o a w := by
  unfold runOp opD at hr ⊢
  rw [ho] at hr ⊢
  simp only at hr ⊢
  cases hdst : o.dst with
  | none => rw [hdst] at hr; exact absurd rfl hr
  | some s =>
    rw [hdst] at hr
    simp only at hr ⊢
    have hv := opnd_ok H x hx
    have hexec : (execOp a.eval o).run P w = .ok (.value (.pointer (some ⟨w.heap.size, 0, none⟩))) (w.alloc (.cells (a.eval x).cells t)) := by
      simp [execOp, ho, Instr.box, newVar, newRow]
    obtain ⟨vs, hvs, hvx⟩ := hv.acells
    have hL : ∀ A : Act1, A = (match cx.T t with
        | none => .bad
        | some ti => bif decide (ti.size < 1000) && locFree e.sl (lbase s) then
            .dyn (cellsM ti.size (opnd e x)) fun v => { ent := ⟨.loc (lbase s) 0, none⟩, ls := lsOf (lbase s) (acells v) [] 0 ti.size, lb := some (lbase s, ti.size) }
          else .bad) → runAct e (some s) A h ≠ .fail → After P c N (UG U gid) (runAct e (some s) A h) o a w := by
      rintro A rfl hr
      cases ht : cx.T t with
      | none => rw [ht] at hr; exact absurd rfl hr
      | some ti =>
        rw [ht] at hr
        simp only at hr ⊢
        cases hcond : (decide (ti.size < 1000) && locFree e.sl (lbase s)) with
        | false => rw [hcond] at hr; exact absurd rfl hr
        | true =>
          rw [hcond] at hr
          simp only [cond_true] at hr ⊢
          simp only [Bool.and_eq_true, decide_eq_true_eq] at hcond
          obtain ⟨h1, h2⟩ := hcond
          unfold cellsM at hr ⊢
          cases hcs : cellsN ti.size (opnd e x) with
          | none => rw [hcs] at hr; exact absurd rfl hr
          | some cs =>
            obtain ⟨_, k2, k3, _⟩ := cellsN_ok hcs hv
            obtain ⟨lam', ω', F⟩ := H.allocL (s := s) (n := ti.size) (gid := gid) (x := (a.eval x).cells) (t := t) (cs := cs) (offs := []) (hd s hdst) hU h1 (fun i hi => by
              obtain ⟨v, v1, v2⟩ := k3.allR i (by rw [← k3.length]; simpa [k2] using hi)
              exact ⟨v, by simpa using v1, v2⟩) (fun i hi => by simp at hi) h2
            refine After.val hexec ?_
            rw [hdst]
            have hls : lsOf (lbase s) cs [] 0 ti.size = lsOf (lbase s) cs [] gid ti.size := by simp [lsOf, memN]
            have hac : acells (.agg cs) = cs := rfl
            simp only [Option.map_some, hac, hls]
            exact ⟨_, _, _, _, _, F⟩
    unfold opBox at hr ⊢
    cases hk : findK cx.ann.kinds s .F with
    | F =>
      simp only
      rw [← hdst]
      exact boxF H hd hvs (fun j v hj => by simpa using hvx j v hj) hexec
    | H =>
      simp only
      rw [← hdst]
      exact newH_op H hd hvs (fun j v hj => by simpa using hvx j v hj) hexec
    | L => rw [hk] at hr; exact hL _ rfl hr
    | S => rw [hk] at hr; exact hL _ rfl hr

/-- An address in local memory. -/
theorem setLoc (H : FR c N U e h a w S β γ lam ω) (hd : ∀ t, o.dst = some t → t < N) {B b off : Nat} (hlam : lam B = some b) (hrun : (execOp a.eval o).run P w = .ok (.value (.pointer (some ⟨b, off, none⟩))) w) :
    After P c N (UG U gid) (.ok (e.upd o.dst { ent := ⟨.loc B off, none⟩ }) h) o a w :=
  After.val hrun (Sat.up ⟨S, β, γ, lam, ω, H.set hd (by simp only [SlotR]; exact ⟨b, hlam, rfl⟩) (fun _ _ h => by cases h) (fun _ h => by cases h)⟩)

theorem fieldAddr_op (hT : TOK P cx.T) (H : FR c N U e h a w S β γ lam ω) (hd : ∀ t, o.dst = some t → t < N) {t f : Nat} {x : Operand} (ho : o.op = .fieldAddr t x f) (hx : ∀ t, x = .tmp t → t < 1000) (hr : runOp cx e gid o h ≠ .fail) :
    After P c N (UG U gid) (runOp cx e gid o h) o a w := by
  unfold runOp opD at hr ⊢
  rw [ho] at hr ⊢
  cases x <;> simp only at hr ⊢ <;> (try exact absurd rfl hr)
  rename_i p
  have hp := H.slots p (hx p rfl)
  unfold opField at hr ⊢
  cases hv : (e.get p).v with
  | loc B off =>
    rw [hv] at hr hp
    simp only at hr ⊢
    simp only [SlotR] at hp
    obtain ⟨b, hlam, hpv⟩ := hp
    cases ht : cx.T t with
    | none => rw [ht] at hr; exact absurd rfl hr
    | some ti =>
      rw [ht] at hr
      simp only at hr ⊢
      cases hf : ti.offs[f]? with
      | none => rw [hf] at hr; exact absurd rfl hr
      | some q =>
        obtain ⟨o', ft, nm⟩ := q
        rw [hf] at hr
        simp only at hr ⊢
        cases hft : cx.T ft with
        | none => rw [hft] at hr; exact absurd rfl hr
        | some fi =>
          rw [hft] at hr
          simp only at hr ⊢
          cases hz : decide (fi.size = 0) with
          | true => rw [hz] at hr; exact absurd rfl hr
          | false =>
            simp only [cond_false]
            have hfa : fieldAddrA cx.T t (.hp 0 off) f = some (.hp 0 (off + o')) := by
              unfold fieldAddrA
              rw [ht]
              simp only
              rw [hf]
              simp only
              rw [hft]
              simp only
              rw [if_neg (by simpa using hz)]
            obtain ⟨v, h1, h2⟩ := fieldAddr_ok (P := P) (w := w) (S := S) (β := [(b, 0)]) hT hfa (vx := .pointer (some ⟨b, off, none⟩)) (by simp [VR])
            simp only [VR] at h2
            obtain ⟨b', hb', rfl⟩ := h2
            simp only [List.getElem?_cons_zero, Option.some.injEq] at hb'; subst hb'
            refine setLoc H hd hlam ?_
            have he : a.eval (.tmp p) = .pointer (some ⟨b, off, none⟩) := hpv
            simp only [execOp, ho, he, Sem.run_bind, h1, Result.andThen_ok, Sem.run_pure]
  | val av =>
    rw [hv] at hr hp
    simp only at hr ⊢
    refine pure_op H hd (m := Instr.fieldAt t (a.eval (.tmp p)) f) (by simp [execOp, ho]) (fun r hr' => fieldAddr_ok hT hr' hp) hr

theorem indexAddr_op (hT : TOK P cx.T) (H : FR c N U e h a w S β γ lam ω) (hd : ∀ t, o.dst = some t → t < N) {t : Nat} {x i : Operand} (ho : o.op = .indexAddr t x i) (hx : ∀ t, x = .tmp t → t < 1000) (hi : ∀ t, i = .tmp t → t < 1000) (hr : runOp cx e gid o h ≠ .fail) :
    After P c N (UG U gid) (runOp cx e gid o h) o a w := by
  unfold runOp opD at hr ⊢
  rw [ho] at hr ⊢
  cases x <;> simp only at hr ⊢ <;> (try exact absurd rfl hr)
  rename_i p
  have hp := H.slots p (hx p rfl)
  unfold opIndexAddr at hr ⊢
  cases hv : (e.get p).v with
  | loc B off =>
    rw [hv] at hr hp
    simp only at hr ⊢
    simp only [SlotR] at hp
    obtain ⟨b, hlam, hpv⟩ := hp
    cases ht : cx.T t with
    | none => rw [ht] at hr; exact absurd rfl hr
    | some ti =>
      rw [ht] at hr
      cases hci : constInt i with
      | none => rw [hci] at hr; exact absurd rfl hr
      | some n =>
      rw [hci] at hr
      simp only at hr ⊢
      obtain ⟨ik, rfl⟩ : ∃ ik, i = .const (.int ik n) := by
        unfold constInt at hci
        split at hci
        · simp only [Option.some.injEq] at hci; subst hci; exact ⟨_, rfl⟩
        · simp at hci
      cases hk : ti.kind <;> rw [hk] at hr <;> simp only at hr ⊢ <;> (try exact absurd rfl hr)
      rename_i m el
      cases hel : cx.T el with
      | none => rw [hel] at hr; exact absurd rfl hr
      | some ei =>
        rw [hel] at hr
        simp only at hr ⊢
        cases hc : decide (0 ≤ n ∧ n < m) with
        | false => rw [hc] at hr; exact absurd rfl hr
        | true =>
          simp only [cond_true]
          have hia : indexAddrA cx.T t (.hp 0 off) (.int ik n) = some (.hp 0 (off + n.toNat * ei.size)) := by
            unfold indexAddrA
            rw [ht]
            simp only
            rw [hk]
            simp only
            rw [hel]
            simp only
            rw [if_pos (by simpa using hc)]
          obtain ⟨v, h1, h2⟩ := indexAddr_ok (P := P) (w := w) (S := S) (β := [(b, 0)]) hT hia (vx := .pointer (some ⟨b, off, none⟩)) (vi := .int ik n) (by simp [VR]) (by simp [VR])
          simp only [VR] at h2
          obtain ⟨b', hb', rfl⟩ := h2
          simp only [List.getElem?_cons_zero, Option.some.injEq] at hb'; subst hb'
          refine setLoc H hd hlam ?_
          have he : a.eval (.tmp p) = .pointer (some ⟨b, off, none⟩) := hpv
          have hei : a.eval (.const (.int ik n)) = .int ik n := rfl
          simp only [execOp, ho, he, hei, Sem.run_bind, h1, Result.andThen_ok, Sem.run_pure]
  | val av =>
    rw [hv] at hr hp
    simp only at hr ⊢
    refine pure_op H hd (m := Instr.indexAt t (a.eval (.tmp p)) (a.eval i)) (by simp [execOp, ho]) (fun r hr' => indexAddr_ok hT hr' hp (opnd_ok H i hi)) hr

theorem nilCheck_op (H : FR c N U e h a w S β γ lam ω) (hd : ∀ t, o.dst = some t → t < N) {x : Operand} (ho : o.op = .nilCheck x) (hx : ∀ t, x = .tmp t → t < 1000) (hr : runOp cx e gid o h ≠ .fail) :
    After P c N (UG U gid) (runOp cx e gid o h) o a w := by
  unfold runOp opD at hr ⊢
  rw [ho] at hr ⊢
  cases x <;> simp only at hr ⊢ <;> (try exact absurd rfl hr)
  rename_i p
  have hp := H.slots p (hx p rfl)
  cases hv : (e.get p).v with
  | loc B off =>
    have hp2 := hp
    rw [hv] at hr hp
    simp only at hr ⊢
    simp only [SlotR] at hp
    obtain ⟨b, hlam, hpv⟩ := hp
    have he : a.eval (.tmp p) = .pointer (some ⟨b, off, none⟩) := hpv
    exact copy_op H hd (hx p rfl) (by simp [execOp, ho, he, hpv])
  | val av =>
    rw [hv] at hr hp
    simp only at hr ⊢
    have he : a.eval (.tmp p) = a.tmps.getD p undef := rfl
    cases hn : nilChkA av with
    | none => rw [hn] at hr; exact absurd rfl hr
    | some r =>
      have hrun : (execOp a.eval o).run P w = .ok (.value (a.tmps.getD p undef)) w ∧ r = av := by
        simp only [SlotR] at hp
        unfold nilChkA at hn
        split at hn <;> simp only [Option.some.injEq, reduceCtorEq] at hn <;> subst hn <;> simp only [VR] at hp
        · obtain ⟨b, off, vs, hpv, _⟩ := hp
          exact ⟨by simp [execOp, ho, he, hpv], rfl⟩
        · obtain ⟨b, hb, hpv⟩ := hp
          exact ⟨by simp [execOp, ho, he, hpv], rfl⟩
        · obtain ⟨y, hpv, _⟩ := hp
          exact ⟨by simp [execOp, ho, he, hpv], rfl⟩
        · obtain ⟨y, z, hpv, _⟩ := hp
          exact ⟨by simp [execOp, ho, he, hpv], rfl⟩
      obtain ⟨hrun, rfl⟩ := hrun
      exact After.val hrun (Sat.up ⟨S, β, γ, lam, ω, H.setV hd hp⟩)
end
end Go.Av

/- One operation: calls and appends. Conditions: the table of types is the program's; the calls are right. -/
namespace Go.Av
variable [Dr]

section
variable {P : Program} {cx : Cx} {c : Entry} {N : Nat} {U : Nat → Prop} {e : Env} {h : Hp} {a : Act} {w : World} {S : Stab} {β : List Blk} {γ : Nat → Value} {lam : Nat → Option Nat} {ω : Nat → Owner} {o : Oper} {gid : Nat}

theorem FR.out' (H : FR c N U e h a w S β γ lam ω) {S' : Stab} {β' : List Blk} {w' : World} {h' : Hp} (L : Left (HOwn β h) S β w S' β' w' h') : Out c h' w' S' β' := by
  obtain ⟨ω', F, _⟩ := H.left L
  exact F.out

/-- A call of a function. -/
theorem call_after (hC : CallsOK P cx.own cx.call) (H : FR c N U e h a w S β γ lam ω) (hd : ∀ t, o.dst = some t → t < N) (hU : ∀ g, gid ≤ g → g < gid + 1000 → ¬ U g) {f : FuncId} {args : List AV} {vs : List Value} (hargs : VRs S β args vs)
    (hrun : (P.funcs[f]?).any (fun fn => fn.body.isSome && !(fn.name == "runtime.NumGoroutine")) = true → (execOp a.eval o).run P w = .ok (.enter f vs.toArray) w) {sh : AV → Upd}
    (hsh : (∀ v, sh v = .ofV v) ∨ ∃ sz, cx.own f = some sz ∧ ∀ v, sh v = .own v gid (some sz))
    (hr : (bnd (cx.call f args) fun v => M.pure (e.upd o.dst (sh v))) h ≠ .fail) : After P c N (UG U gid) ((bnd (cx.call f args) fun v => M.pure (e.upd o.dst (sh v))) h) o a w := by
  have hne : cx.call f args h ≠ .fail := by
    intro hf
    unfold bnd at hr
    rw [hf] at hr
    exact hr rfl
  obtain ⟨hcalls, hfn⟩ := hC f args h S β w vs hne H.gok H.wf H.heapX hargs
  have hrun := hrun hfn
  intro next Q hn hp
  unfold Oper.wp
  rw [hrun]
  simp only [Oper.upon]
  refine hcalls.mono fun en w' hpost => ?_
  unfold bnd at hn hp
  cases hres : cx.call f args h with
  | fail => exact absurd hres hne
  | pan pv h' =>
    rw [hres] at hpost hp
    obtain ⟨S', β', v, rfl, hv, hleft⟩ := hpost
    exact hp pv h' v w' rfl ⟨S', β', H.out' hleft, hv⟩
  | ok rv h' =>
    rw [hres] at hpost hn
    obtain ⟨S', β', v, rfl, hv, hleft, hown⟩ := hpost
    obtain ⟨ω', F, hno⟩ := H.left hleft
    refine hn (e.upd o.dst (sh rv)) h' _ _ rfl ?_ (put_defers a o.dst v)
    rcases hsh with hsh | ⟨sz, hof, hsh⟩
    · rw [hsh]; exact Sat.up ⟨_, _, _, _, _, F.setV hd hv⟩
    · rw [hsh]
      obtain ⟨ad, len, cap, rfl, h1, h2, h3⟩ := hown sz hof
      obtain ⟨ω2, F2⟩ := F.own (z := some sz) hd hv hU (by
        rcases h3 with h3 | ⟨b, off, x, rfl, g1, g2, g3, g4, g5⟩
        · subst h3; exact .inl ⟨ad, len, rfl, h2⟩
        · exact .inr ⟨len, cap, sz, b, off, x, rfl, h1, rfl, g1, g2, hno b g3 g4, Nat.le_trans H.size g3, g5⟩)
      exact ⟨_, _, _, _, ω2, F2⟩

omit [Dr] in
theorem callFunc_run {f : FuncId} {args : Array Value} (hf : (P.funcs[f]?).any (fun fn => fn.body.isSome && !(fn.name == "runtime.NumGoroutine")) = true) : (callFunc f args).run P w = .ok (.enter f args) w := by
  cases hfn : P.funcs[f]? with
  | none => rw [hfn] at hf; simp at hf
  | some fn =>
    rw [hfn] at hf
    simp only [Option.any_some, Bool.and_eq_true, Bool.not_eq_true'] at hf
    obtain ⟨h1, h2⟩ := hf
    have h3 : fn.body.isNone = false := by cases hb : fn.body <;> simp_all
    simp only [callFunc, Sem.run_bind, run_program, Result.andThen_ok, hfn, h2, Bool.false_eq_true, if_false, h3, Sem.run_pure]

omit [Dr] in
theorem free_room {z : Option Nat} {g sz : Nat} {v : Value} (hf : FreeR S w ω g z v) (hz : szOk z (some sz) = true) : RoomOf w sz v ∧ (z = none ∨ z = some sz) := by
  have hz' : z = none ∨ z = some sz := by
    unfold szOk at hz
    cases z with
    | none => exact .inl rfl
    | some n => simp only at hz; exact .inr (by rw [Nat.eq_of_beq_eq_true hz])
  refine ⟨?_, hz'⟩
  obtain ⟨ad, len, cap, h1, h2, h3, h4⟩ := hf
  refine ⟨ad, len, cap, h1, h2, h3, h4.imp id ?_⟩
  rintro ⟨sz', b, off, x, g1, g2, g3, g4, _⟩
  rcases hz' with rfl | rfl
  · cases g1
  · cases g1; exact ⟨b, off, x, g2, g3, g4⟩

omit [Dr] in
/-- What by-value append asks of its operands. -/
theorem appA_inv {T : TT} {t : Nat} {as : List AV} {y r : AV} (h : appA T t (.sl as) y = some r) : ∃ ti e ei bs, T t = some ti ∧ ti.kind = .slice e ∧ T e = some ei ∧ elsOf y = some bs ∧ okSz ei.size as = true ∧ okSz ei.size bs = true ∧
    (as.length + bs.length) * ei.bytes ≤ 140737488355328 ∧ 0 < ei.bytes ∧ r = .sl (as ++ bs) ∧ elemSize T t = some ei.size ∧ strOk y ei.size = true := by
  unfold appA at h
  cases ht : T t with
  | none => rw [ht] at h; simp at h
  | some ti =>
    rw [ht] at h
    simp only at h
    split at h
    · rename_i e hk
      cases he : T e with
      | none => rw [he] at h; simp at h
      | some ei =>
        rw [he] at h
        simp only at h
        cases hb : elsOf y with
        | none => rw [hb] at h; simp at h
        | some bs =>
          rw [hb] at h
          simp only at h
          cases hc : (okSz ei.size as && okSz ei.size bs && decide ((as.length + bs.length) * ei.bytes ≤ 140737488355328) && decide (0 < ei.bytes) && strOk y ei.size) with
          | false => rw [hc] at h; simp at h
          | true =>
            rw [hc] at h
            simp only [cond_true, Option.some.injEq] at h
            simp only [Bool.and_eq_true, decide_eq_true_eq] at hc
            obtain ⟨⟨⟨⟨h1, h2⟩, h3⟩, h4⟩, h5⟩ := hc
            exact ⟨ti, e, ei, bs, rfl, hk, he, rfl, h1, h2, h3, h4, h.symm, by simp [elemSize, ht, hk, he], h5⟩
    · simp at h

omit [Dr] in
theorem appA_sl {T : TT} {t : Nat} {x y r : AV} (h : appA T t x y = some r) : ∃ as, x = .sl as := by
  unfold appA at h
  split at h
  · simp at h
  · split at h
    · split at h
      · simp at h
      · split at h
        · exact ⟨_, rfl⟩
        · simp at h
    · simp at h

omit [Dr] in
theorem strOk_inv {y : AV} {n : Nat} (h : strOk y n = true) : ∀ s, y = .str s → n = 1 := by
  rintro s rfl
  exact Nat.eq_of_beq_eq_true h

omit [Dr] in
theorem append_exec {t u : TypeId} {x y : Operand} {cc : Call} (ho : o.op = .call cc) (hb : cc.callee = .builtin .append) (ht : cc.argTypes.toList = [t, u]) (hx : cc.args.toList = [x, y]) {v : Value} {w' : World}
    (hrun : (Builtin.append_ #[t, u] o.type #[a.eval x, a.eval y]).run P w = .ok v w') : (execOp a.eval o).run P w = .ok (.value v) w' := by
  have h1 : cc.argTypes = #[t, u] := by apply Array.ext'; simpa using ht
  have h2 : cc.args = #[x, y] := by apply Array.ext'; simpa using hx
  have h3 : cc.args.map a.eval = #[a.eval x, a.eval y] := by rw [h2]; simp
  simp only [execOp, ho, resolve, hb, Sem.run_bind, Sem.run_pure, Result.andThen_ok, invoke, builtin, h1, h3, hrun]


/-- By-value append. -/
theorem append_op (hT : TOK P cx.T) (H : FR c N U e h a w S β γ lam ω) (hd : ∀ t, o.dst = some t → t < N) (hU : ∀ g, gid ≤ g → g < gid + 1000 → ¬ U g) {t u : TypeId} {x y : Operand} {cc : Call} (ho : o.op = .call cc) (hb : cc.callee = .builtin .append)
    (hts : cc.argTypes.toList = [t, u]) (hxs : cc.args.toList = [x, y]) (hy : ∀ t, y = .tmp t → t < 1000) (hu : isAppT cx.T u = true) {as : List AV} {vx : Value} {g0 : Option Nat} {r : AV} (hav : a.eval x = vx) (hx : VR S β (.sl as) vx)
    (hfree : (g0 = none ∧ vx = .slice none 0 0) ∨ ∃ g z, g0 = some g ∧ FreeR S w ω g z vx ∧ szOk z (elemSize cx.T t) = true) (happ : appA cx.T t (.sl as) (opnd e y) = some r) :
    After P c N (UG U gid) (.ok (e.upd o.dst { Upd.own r gid (elemSize cx.T t) with drop := g0 }) h) o a w := by
  obtain ⟨ti, el, ei, bs, ht, hk, hei, hels, hoa, hob, hby, hb0, rfl, hes, hstr⟩ := appA_inv happ
  rw [hes] at hfree ⊢
  have hroom : RoomOf w ei.size vx := by
    rcases hfree with ⟨_, rfl⟩ | ⟨g, z, _, hf, hz⟩
    · exact ⟨none, 0, 0, rfl, Nat.le_refl _, fun _ => rfl, .inl rfl⟩
    · exact (free_room hf hz).1
  obtain ⟨v, w', hrun, hA⟩ := append_run (ty := o.type) hT H.wf ht hk hei hu hx (opnd_ok H y hy) hels (strOk_inv hstr) hoa hob hby hb0 hroom
  have hfr2 : ∃ z, ((g0 = none ∧ vx = .slice none 0 0) ∨ ∃ g, g0 = some g ∧ FreeR S w ω g z vx) ∧ (z = none ∨ z = some ei.size) := by
    rcases hfree with h1 | ⟨g, z, h1, hf, hz⟩
    · exact ⟨none, .inl h1, .inl rfl⟩
    · exact ⟨z, .inr ⟨g, h1, hf⟩, (free_room hf hz).2⟩
  obtain ⟨z, hf2, hz2⟩ := hfr2
  obtain ⟨S', ω', F⟩ := H.app hd hU hx hoa hf2 hz2 hA
  exact After.val (append_exec ho hb hts hxs (by rw [hav]; exact hrun)) ⟨_, _, _, _, _, F⟩
end
end Go.Av

/- One operation: appends in the heap; all operations together. Conditions: the table of types is the program's; the calls are right. -/
namespace Go.Av
variable [Dr]

section
variable {P : Program} {cx : Cx} {c : Entry} {N : Nat} {U : Nat → Prop} {e : Env} {h : Hp} {a : Act} {w : World} {S : Stab} {β : List Blk} {γ : Nat → Value} {lam : Nat → Option Nat} {ω : Nat → Owner} {o : Oper} {gid : Nat}

omit [Dr] in
theorem flat_cells {sz : Nat} {x : Array Value} : (es : List AV) → (off : Nat) → (∀ (i : Nat) (e : AV), es[i]? = some e → ∃ v, VR S β e v ∧ v.cells.size = sz ∧ ∀ (j : Nat) (y : Value), v.cells[j]? = some y → x[off + i * sz + j]? = some y) →
    okSz sz es = true → (es.flatMap acells).length = es.length * sz ∧ VRs S β (es.flatMap acells) ((x.toList.drop off).take (es.length * sz))
  | [], off, _, _ => by simp [VRs]
  | e :: es, off, hh, hok => by
    simp only [okSz, List.all_cons, Bool.and_eq_true] at hok
    obtain ⟨v, v1, v2, v3⟩ := hh 0 e (by simp)
    obtain ⟨k1, k2, k3⟩ := okEl_ok hok.1 v1
    obtain ⟨h1, h2⟩ := flat_cells es (off + sz) (fun i e' he => by
      obtain ⟨u, u1, u2, u3⟩ := hh (i + 1) e' (by simpa using he)
      exact ⟨u, u1, u2, fun j y hy => by
        have := u3 j y hy
        rwa [show off + (i + 1) * sz + j = off + sz + i * sz + j by rw [Nat.add_mul]; omega] at this⟩) hok.2
    have hacl : (acells e).length = sz := by rw [← k2.length]; simpa using k1
    refine ⟨by simp [h1, hacl, Nat.add_mul]; omega, ?_⟩
    have hfirst : (x.toList.drop off).take sz = v.cells.toList := by
      apply List.ext_getElem?
      intro j
      rw [List.getElem?_take]
      split
      · rename_i hj
        rw [List.getElem?_drop, Array.getElem?_toList, Array.getElem?_toList]
        have : j < v.cells.size := by omega
        have hv := v3 j v.cells[j] (Array.getElem?_eq_getElem this)
        simp only [Nat.zero_mul, Nat.add_zero] at hv
        rw [hv, Array.getElem?_eq_getElem this]
      · rename_i hj
        rw [List.getElem?_eq_none]
        simp; omega
    have hsplit : (x.toList.drop off).take ((e :: es).length * sz) = v.cells.toList ++ (x.toList.drop (off + sz)).take (es.length * sz) := by
      rw [← hfirst, List.length_cons, Nat.add_mul, Nat.one_mul, Nat.add_comm (es.length * sz) sz, List.take_add, List.drop_drop]
    rw [hsplit, List.flatMap_cons]
    exact k2.append h2

/-- The elements of a row of the heap. -/
def elsOfRow (sz : Nat) (ag : Bool) (cs : List AV) (len : Nat) : List AV := (List.range len).map fun i => bif ag then .agg ((cs.drop (i * sz)).take sz) else nth cs (i * sz)

omit [Dr] in
theorem elsOfRow_ok {sz len : Nat} {ag : Bool} {cs : List AV} {x : Array Value} (hv : VRs S β cs (x.toList.take cs.length)) (hl : cs.length = len * sz) (hok : cs.all okCell = true) (hag : ag = false → sz = 1) :
    okSz sz (elsOfRow sz ag cs len) = true ∧ RowEls S β (elsOfRow sz ag cs len) x sz := by
  have hcell : ∀ i y, cs[i]? = some y → okCell y = true := fun i y hy => by
    rw [List.all_eq_true] at hok
    exact hok y (List.mem_of_getElem? hy)
  have hxs : cs.length ≤ x.size := by have := hv.length; simp at this; omega
  constructor
  · unfold okSz elsOfRow
    rw [List.all_eq_true]
    intro y hy
    rw [List.mem_map] at hy
    obtain ⟨i, hi, rfl⟩ := hy
    rw [List.mem_range] at hi
    have hm : (i + 1) * sz ≤ len * sz := Nat.mul_le_mul_right _ hi
    rw [Nat.add_mul] at hm
    cases ag with
    | true =>
      simp only [cond_true, okEl, sizeA, acells, Bool.and_eq_true, beq_iff_eq, Option.some.injEq]
      refine ⟨by simp; omega, ?_⟩
      rw [List.all_eq_true]
      intro z hz
      have := List.mem_of_mem_drop (List.mem_of_mem_take hz)
      rw [List.all_eq_true] at hok
      exact hok z this
    | false =>
      have hs := hag rfl
      subst hs
      simp only [cond_false]
      have hlt : i * 1 < cs.length := by omega
      have hg : nth cs (i * 1) = cs[i * 1] := by unfold nth; rw [List.getD_eq_getElem?_getD, List.getElem?_eq_getElem hlt]; rfl
      rw [hg]
      have hc := hcell _ _ (List.getElem?_eq_getElem hlt)
      revert hc
      generalize cs[i * 1] = q
      intro hc
      cases q <;> simp_all [okCell, okEl, sizeA, acells]
  · intro i y hy
    unfold elsOfRow at hy
    rw [List.getElem?_map] at hy
    have hi : i < len := by
      rcases Nat.lt_or_ge i len with h | h
      · exact h
      · rw [List.getElem?_eq_none (by simpa using h)] at hy; simp at hy
    rw [List.getElem?_range hi] at hy
    simp only [Option.map_some, Option.some.injEq] at hy
    subst hy
    have hm : (i + 1) * sz ≤ len * sz := Nat.mul_le_mul_right _ hi
    rw [Nat.add_mul] at hm
    cases ag with
    | true =>
      simp only [cond_true]
      refine ⟨.agg (((x.toList.take cs.length).drop (i * sz)).take sz).toArray, by simp only [VR]; exact ⟨_, rfl, (hv.drop _).take _⟩, ?_, fun j z hz => ?_⟩
      · simp [Value.cells]; omega
      · simp only [Value.cells, List.getElem?_toArray, List.getElem?_take, List.getElem?_drop] at hz
        split at hz
        · split at hz
          · simpa using hz
          · simp at hz
        · simp at hz
    | false =>
      have hs := hag rfl
      subst hs
      simp only [cond_false]
      have hlt : i * 1 < cs.length := by omega
      obtain ⟨v, v1, v2⟩ := hv.allR (i * 1) hlt
      have hg : nth cs (i * 1) = cs[i * 1] := by unfold nth; rw [List.getD_eq_getElem?_getD, List.getElem?_eq_getElem hlt]; rfl
      have hc := hcell _ _ (List.getElem?_eq_getElem hlt)
      rw [← hg] at hc
      obtain ⟨hcc, _⟩ := okCell_ok hc v2
      refine ⟨v, v2, by rw [hcc]; rfl, fun j z hz => ?_⟩
      rw [hcc] at hz
      have : j = 0 := by
        rcases Nat.eq_zero_or_pos j with h | h
        · exact h
        · rw [Array.getElem?_eq_none (by simp; omega)] at hz; simp at hz
      subst this
      simp at hz
      subst hz
      rw [List.getElem?_take, if_pos hlt] at v1
      simpa using v1

/-- Append, told of values. -/
inductive AppRaw (w : World) (sz n0 n : Nat) (olds news : List Value) (vx : Value) : Value → World → Prop where
  | same (h : n = 0) : AppRaw w sz n0 n olds news vx vx w
  | place (b off cap : Nat) (x : Array Value) (hv : vx = .slice (some ⟨b, off, none⟩) n0 cap) (hr : Row w b x) (hlt : n0 + n ≤ cap) (hc : off + cap * sz ≤ x.size) (hn : n ≠ 0) :
      AppRaw w sz n0 n olds news vx (.slice (some ⟨b, off, none⟩) (n0 + n) cap)
        (w.setRow b (x.toList.take (off + n0 * sz) ++ news ++ x.toList.drop (off + n0 * sz + news.length)).toArray)
  | fresh (x : Array Value) (e cap : Nat) (hlt : n0 + n ≤ cap) (hc : x.size = cap * sz) (hr : ∀ (i : Nat) (y : Value), (olds ++ news)[i]? = some y → x[i]? = some y) (hn : n ≠ 0) :
      AppRaw w sz n0 n olds news vx (.slice (some ⟨w.heap.size, 0, none⟩) (n0 + n) cap) (w.drew.alloc (.cells x e))

omit [Dr] in
theorem append_raw {T : TT} (hT : TOK P T) {t u e ty : Nat} {ti ei : TI} {n0 n : Nat} {olds news : List Value} {vx vy : Value} (ht : T t = some ti) (hk : ti.kind = .slice e) (hei : T e = some ei)
    (hu : isAppT T u = true) (hvx : ∃ a cap, vx = .slice a n0 cap) (hlen : (Builtin.lenOf vy).run P w = .ok n w) (hfirst : ∀ w' : World, (∀ a : Addr, w'.cell? a = w.cell? a) → (Builtin.firstCells ei.size n vy).run P w' = .ok news.toArray w')
    (hold : ∀ w' : World, (∀ a : Addr, w'.cell? a = w.cell? a) → (Builtin.firstCells ei.size n0 vx).run P w' = .ok olds.toArray w') (hol : olds.length = n0 * ei.size) (hnl : news.length = n * ei.size) (hone : ∀ x ∈ news, x.oneCell' = true)
    (hby : (n0 + n) * ei.bytes ≤ 140737488355328) (hb0 : 0 < ei.bytes) (hroom : RoomOf w ei.size vx) :
    ∃ v w', (Builtin.append_ #[t, u] ty #[vx, vy]).run P w = .ok v w' ∧ AppRaw w ei.size n0 n olds news vx v w' := by
  obtain ⟨_, d, _, _, hd, _, _, _, _, hkd, _⟩ := (hT.get ht).ex
  have hd' : d = .slice e := by cases d <;> simp_all [kindOf]
  subst hd'
  obtain ⟨ii, _, zz, hii, _, hzz, hzs, hsz, hbb, _⟩ := (hT.get hei).ex
  have hz : ∃ du, P.underlying u = some du ∧ ((∃ e', du = .slice e') ∨ du = .string) := by
    unfold isAppT at hu
    split at hu
    · rename_i tu htu
      obtain ⟨_, du, _, _, hdu, _, _, _, _, hku, _⟩ := (hT.get htu).ex
      refine ⟨du, hdu, ?_⟩
      split at hu
      · rename_i e' hk'
        exact .inl ⟨e', by cases du <;> simp_all [kindOf]⟩
      · exact .inr (by cases du <;> simp_all [kindOf])
      · simp at hu
    · simp at hu
  obtain ⟨du, hdu, hduk⟩ := hz
  obtain ⟨a, len, cap, rfl, hlc, hnone, hspare⟩ := hroom
  obtain ⟨a', cap', he⟩ := hvx
  simp only [Value.slice.injEq] at he
  obtain ⟨rfl, rfl, rfl⟩ := he
  by_cases hfit : len + n ≤ cap
  · by_cases hn0 : n = 0
    · subst hn0
      refine ⟨.slice a len cap, w, ?_, .same rfl⟩
      have hns : news = [] := List.eq_nil_of_length_eq_zero (by simpa using hnl)
      subst hns
      have hf : (Builtin.firstCells ei.size 0 vy).run P w = .ok #[] w := by simpa using hfirst w (fun _ => rfl)
      rcases hduk with ⟨e', rfl⟩ | rfl <;> cases a <;>
        simp [Builtin.append_, run_underlying hd, run_underlying hdu, sizeOf, typeInfo, hii, hsz, hlen, hlc, hf, storeCells]
    · rcases hspare with hsp | ⟨b, off, x, rfl, ⟨ce, hrow⟩, hcap⟩
      · omega
      · refine ⟨_, _, ?_, .place b off cap x rfl ⟨ce, hrow⟩ hfit hcap hn0⟩
        have hf := hfirst w (fun _ => rfl)
        have hle : (len + n) * ei.size ≤ cap * ei.size := Nat.mul_le_mul_right _ hfit
        rw [Nat.add_mul] at hle
        have hst := run_storeCells_at P b (off + len * ei.size) ce news 0 x w hrow (by omega) hone
        simp only [Nat.add_zero] at hst
        rcases hduk with ⟨e', rfl⟩ | rfl <;>
          simp [Builtin.append_, run_underlying hd, run_underlying hdu, sizeOf, typeInfo, hii, hsz, hlen, hfit, hf, addr_add, hst]
  · have hne : n ≠ 0 := by rintro rfl; omega
    have hgt : cap < len + n := by omega
    have h63 : ¬ (9223372036854775807 < ((len : Int) + (n : Int))) := by
      have := Nat.le_trans (Nat.le_mul_of_pos_right (len + n) hb0) hby
      omega
    have hfit48 := growslice_fits hgt hby
    have h48 : ¬ (281474976710656 < Builtin.nextslicecap (len + n) cap * ei.bytes) := by omega
    have hb0' : ei.bytes ≠ 0 := by omega
    have hof := hold w.drew (fun a => World.cell?_drew ..)
    have hf := hfirst w.drew (fun a => World.cell?_drew ..)
    have hcapn : len + n ≤ grownCap w (len + n) cap e := Nat.le_add_right _ _
    have hzcs : (Builtin.zeroCells zz.cells (grownCap w (len + n) cap e - (len + n))).size = (grownCap w (len + n) cap e - (len + n)) * ei.size := by
      rw [size_zeroCells, hzs, hsz]
    refine ⟨_, _, ?_, .fresh ((olds ++ news).toArray ++ Builtin.zeroCells zz.cells (grownCap w (len + n) cap e - (len + n))) e (grownCap w (len + n) cap e) hcapn ?_ ?_ hne⟩
    · rcases hduk with ⟨e', rfl⟩ | rfl <;>
        (simp [Builtin.append_, run_underlying hd, run_underlying hdu, sizeOf, typeInfo, zeroValue, hii, hsz, hzz, hlen, hfit, h63, hbb, h48, hb0', Question.forced, hf, hof, newRow, grownCap]
         congr 2
         apply Array.ext'
         simp)
    · rw [Array.size_append, hzcs]
      simp only [List.size_toArray, List.length_append, hol, hnl]
      rw [← Nat.add_mul, ← Nat.add_mul]
      congr 1
      omega
    · intro i y hy
      rw [Array.getElem?_append]
      split
      · simpa using hy
      · rename_i hlt
        rw [List.getElem?_eq_none (by simpa using hlt)] at hy
        simp at hy
end
end Go.Av

/- One operation: appends in the heap. Conditions: the table of types is the program's. -/
namespace Go.Av
variable [Dr]

section
variable {P : Program} {cx : Cx} {c : Entry} {N : Nat} {U : Nat → Prop} {e : Env} {h : Hp} {a : Act} {w : World} {S : Stab} {β : List Blk} {γ : Nat → Value} {lam : Nat → Option Nat} {ω : Nat → Owner} {o : Oper} {gid : Nat}

omit [Dr] in
theorem flat_of_FlatEls {es : List AV} {cs : List Value} {sz : Nat} (hf : FlatEls S β es cs sz) (hok : okSz sz es = true) : (es.flatMap acells).length = es.length * sz ∧ VRs S β (es.flatMap acells) cs := by
  obtain ⟨h1, h2, _⟩ := hf
  obtain ⟨g1, g2⟩ := flat_cells (x := cs.toArray) es 0 (fun i e he => by
    obtain ⟨v, v1, v2, v3⟩ := h2 i e he
    exact ⟨v, v1, v2, fun j y hy => by rw [Nat.zero_add]; exact v3 j y hy⟩) hok
  refine ⟨g1, ?_⟩
  have : (cs.toArray.toList.drop 0).take (es.length * sz) = cs := by simp [← h1]
  rw [this] at g2
  exact g2

theorem appH_op (hT : TOK P cx.T) (H : FR c N U e h a w S β γ lam ω) (hd : ∀ t, o.dst = some t → t < N) {t u : TypeId} {x y : Operand} {cc : Call} (ho : o.op = .call cc) (hb : cc.callee = .builtin .append)
    (hts : cc.argTypes.toList = [t, u]) (hxs : cc.args.toList = [x, y]) (hx : ∀ t, x = .tmp t → t < 1000) (hy : ∀ t, y = .tmp t → t < 1000) (hu : isAppT cx.T u = true)
    (hr : runAct e o.dst (.dyn (appH cx.T t (noSpare e x) (opnd e x) (opnd e y)) .ofV) h ≠ .fail) : After P c N (UG U gid) (runAct e o.dst (.dyn (appH cx.T t (noSpare e x) (opnd e x) (opnd e y)) .ofV) h) o a w := by
  have hvx := opnd_ok H x hx
  have hvy := opnd_ok H y hy
  simp only [runAct, bnd, M.pure] at hr ⊢
  have hz : noSpare e x = true → opnd e x = .sl [] → ∃ a0, a.eval x = .slice a0 0 0 := by
    intro hz hX
    unfold noSpare at hz
    split at hz
    · rename_i s
      have hs1 := hx s rfl
      have hs2 := H.slots s hs1
      split at hz
      · rename_i g hg
        split at hz
        · rename_i hal
          obtain ⟨a0, len, cap, e1, e2, e3, e4⟩ := H.free g none hal
          have e5 := H.grps s g none hs1 hg hal
          have e6 : a.eval (.tmp s) = γ g := e5
          rw [hX] at hvx
          simp only [VR] at hvx
          obtain ⟨a1, cap1, f1, f2, f3, _⟩ := hvx
          rw [e6, e1] at f1
          cases f1
          rcases e4 with e4 | ⟨sz, _, _, _, e4, _⟩
          · simp only [List.length_nil] at e4
            subst e4
            exact ⟨a0, by rw [e6, e1]; rfl⟩
          · cases e4
        · cases hz
      · cases hz
    · cases hz
  generalize noSpare e x = zz at hr hz ⊢
  generalize hX : opnd e x = X at hr hvx hz ⊢
  unfold appH at hr ⊢
  cases ht : cx.T t with
  | none => rw [ht] at hr; exact absurd rfl hr
  | some ti =>
    rw [ht] at hr
    simp only at hr ⊢
    cases hk : ti.kind <;> rw [hk] at hr <;> simp only at hr ⊢ <;> (try exact absurd rfl hr)
    rename_i el
    cases hei : cx.T el with
    | none => rw [hei] at hr; exact absurd rfl hr
    | some ei =>
      rw [hei] at hr
      simp only at hr ⊢
      cases hels : elsOf (opnd e y) with
      | none => rw [hels] at hr; exact absurd rfl hr
      | some bs =>
        rw [hels] at hr
        simp only at hr ⊢
        cases hc : (okSz ei.size bs && decide (0 < ei.bytes) && decide (0 < ei.size) && strOk (opnd e y) ei.size) with
        | false => rw [hc] at hr; exact absurd rfl hr
        | true =>
          rw [hc] at hr
          simp only [cond_true] at hr ⊢
          simp only [Bool.and_eq_true, decide_eq_true_eq] at hc
          obtain ⟨⟨⟨h1, h2⟩, h3⟩, h4⟩ := hc
          obtain ⟨hlen, news, hflat, hfirst⟩ := src_ok (P := P) H.wf hels hvy h1 (strOk_inv h4)
          obtain ⟨hfl, hfv⟩ := flat_of_FlatEls hflat h1
          have hfirst' : ∀ w' : World, (∀ a : Addr, w'.cell? a = w.cell? a) → (Builtin.firstCells ei.size bs.length (a.eval y)).run P w' = .ok news.toArray w' := fun w' hw' =>
            hfirst w' (fun b o x hx => by rw [hw']; exact H.wf b o x hx)
          have hna : ei.agg = false → ei.size = 1 := by
            intro hag
            obtain ⟨ii, _, zz, _, _, _, hzs, hsz, _, _, _, _, _, _, _, hnn⟩ := (hT.get hei).ex
            have hz1 : zz.cells.size = 1 := by cases zz <;> first | rfl | exact absurd rfl (hnn hag _)
            omega
          by_cases hXs : X = .sl [] ∧ zz = true
          · obtain ⟨rfl, hzz⟩ := hXs
            subst hzz
            simp only [cond_true] at hr ⊢
            obtain ⟨a0, hvx0⟩ := hz rfl rfl
            have hvr := hvx
            replace hvx := hvx0
            cases hbe : bs.isEmpty with
            | true =>
              have hbs : bs = [] := by simpa using hbe
              subst hbs
              simp only [cond_true]
              obtain ⟨v, w', hrun, hA⟩ := append_raw (ty := o.type) hT ht hk hei hu (n0 := 0) (olds := []) ⟨a0, 0, hvx⟩ hlen hfirst' (fun w' _ => by rw [hvx]; cases a0 with | none => simp [Builtin.firstCells] | some q => exact run_firstCells_some w' _ 0 q 0 0 [] (by simp) (fun j x hx => by simp at hx)) (by simp) hflat.1 hflat.2.2 (by simp) h2
                (by rw [hvx]; exact ⟨a0, 0, 0, rfl, Nat.le_refl _, fun _ => rfl, .inl rfl⟩)
              cases hA with
              | same _ =>
                exact After.val (append_exec ho hb hts hxs hrun) (Sat.up ⟨S, β, γ, lam, ω, H.setV hd hvr⟩)
              | place _ _ _ _ _ _ _ _ hn => exact absurd rfl hn
              | fresh _ _ _ _ _ _ hn => exact absurd rfl hn
            | false =>
              rw [hbe] at hr
              simp only [cond_false] at hr ⊢
              cases hby : decide (bs.length * ei.bytes ≤ 140737488355328) with
              | false => rw [hby] at hr; exact absurd rfl hr
              | true =>
                simp only [cond_true]
                have hne : bs.length ≠ 0 := by
                  intro h0
                  have := List.eq_nil_of_length_eq_zero h0
                  subst this
                  simp at hbe
                obtain ⟨v, w', hrun, hA⟩ := append_raw (ty := o.type) hT ht hk hei hu (n0 := 0) (olds := []) ⟨a0, 0, hvx⟩ hlen hfirst' (fun w' _ => by rw [hvx]; cases a0 with | none => simp [Builtin.firstCells] | some q => exact run_firstCells_some w' _ 0 q 0 0 [] (by simp) (fun j x hx => by simp at hx)) (by simp) hflat.1 hflat.2.2 (by simpa using hby) h2
                  (by rw [hvx]; exact ⟨a0, 0, 0, rfl, Nat.le_refl _, fun _ => rfl, .inl rfl⟩)
                cases hA with
                | same h0 => exact absurd h0 hne
                | place b off cap z hv _ hlt _ _ => rw [hvx] at hv; cases hv; omega
                | fresh z te cap hlt hzc hzr hn =>
                  obtain ⟨ω', F, hnew, hext⟩ := (H.drew).newH z te (cs := bs.flatMap acells) (by
                    refine .of_get ?_ fun i q v hq hv => ?_
                    · have : bs.length * ei.size ≤ cap * ei.size := Nat.mul_le_mul_right _ (by omega)
                      rw [List.length_take]
                      apply Nat.min_eq_left
                      have hz' : z.toList.length = cap * ei.size := by simpa using hzc
                      have hfl' : (bs.flatMap acells).length = bs.length * ei.size := hfl
                      rw [hz', hfl']
                      exact this
                    · obtain ⟨v', h1', h2'⟩ := hfv.get hq
                      have := hzr i v' (by simpa using h1')
                      rw [List.getElem?_take] at hv
                      split at hv
                      · rw [Array.getElem?_toList, this] at hv; cases hv; exact h2'
                      · simp at hv)
                  have hnew' : (β ++ [(w.drew.heap.size, z.size)])[h.length]? = some (w.heap.size, z.size) := hnew
                  refine After.val (append_exec ho hb hts hxs hrun) (Sat.up ⟨_, _, γ, lam, ω', F.setV hd ?_⟩)
                  simp only [VR]
                  exact ⟨(w.heap.size, z.size), cap, hnew', by simp, by omega, by simp [hzc]⟩
          by_cases hXn : X = .hn
          · subst hXn
            simp only at hr ⊢
            simp only [VR] at hvx
            cases hbe : bs.isEmpty with
            | true =>
              have hbs : bs = [] := by simpa using hbe
              subst hbs
              simp only [cond_true]
              obtain ⟨v, w', hrun, hA⟩ := append_raw (ty := o.type) hT ht hk hei hu (n0 := 0) (olds := []) ⟨none, 0, hvx⟩ hlen hfirst' (fun w' _ => by rw [hvx]; simp [Builtin.firstCells]) (by simp) hflat.1 hflat.2.2 (by simp) h2
                (by rw [hvx]; exact ⟨none, 0, 0, rfl, Nat.le_refl _, fun _ => rfl, .inl rfl⟩)
              cases hA with
              | same _ =>
                exact After.val (append_exec ho hb hts hxs hrun) (Sat.up ⟨S, β, γ, lam, ω, H.setV hd (by simp only [VR]; exact hvx)⟩)
              | place _ _ _ _ _ _ _ _ hn => exact absurd rfl hn
              | fresh _ _ _ _ _ _ hn => exact absurd rfl hn
            | false =>
              rw [hbe] at hr
              simp only [cond_false] at hr ⊢
              cases hby : decide (bs.length * ei.bytes ≤ 140737488355328) with
              | false => rw [hby] at hr; exact absurd rfl hr
              | true =>
                simp only [cond_true]
                have hne : bs.length ≠ 0 := by
                  intro h0
                  have := List.eq_nil_of_length_eq_zero h0
                  subst this
                  simp at hbe
                obtain ⟨v, w', hrun, hA⟩ := append_raw (ty := o.type) hT ht hk hei hu (n0 := 0) (olds := []) ⟨none, 0, hvx⟩ hlen hfirst' (fun w' _ => by rw [hvx]; simp [Builtin.firstCells]) (by simp) hflat.1 hflat.2.2 (by simpa using hby) h2
                  (by rw [hvx]; exact ⟨none, 0, 0, rfl, Nat.le_refl _, fun _ => rfl, .inl rfl⟩)
                cases hA with
                | same h0 => exact absurd h0 hne
                | place b off cap z hv _ _ _ _ => rw [hvx] at hv; cases hv
                | fresh z te cap hlt hzc hzr hn =>
                  obtain ⟨ω', F, hnew, hext⟩ := (H.drew).newH z te (cs := bs.flatMap acells) (by
                    refine .of_get ?_ fun i q v hq hv => ?_
                    · have : bs.length * ei.size ≤ cap * ei.size := Nat.mul_le_mul_right _ (by omega)
                      rw [List.length_take]
                      apply Nat.min_eq_left
                      have hz' : z.toList.length = cap * ei.size := by simpa using hzc
                      have hfl' : (bs.flatMap acells).length = bs.length * ei.size := hfl
                      rw [hz', hfl']
                      exact this
                    · obtain ⟨v', h1', h2'⟩ := hfv.get hq
                      have := hzr i v' (by simpa using h1')
                      rw [List.getElem?_take] at hv
                      split at hv
                      · rw [Array.getElem?_toList, this] at hv; cases hv; exact h2'
                      · simp at hv)
                  have hnew' : (β ++ [(w.drew.heap.size, z.size)])[h.length]? = some (w.heap.size, z.size) := hnew
                  refine After.val (append_exec ho hb hts hxs hrun) (Sat.up ⟨_, _, γ, lam, ω', F.setV hd ?_⟩)
                  simp only [VR]
                  exact ⟨(w.heap.size, z.size), cap, hnew', by simp, by omega, by simp [hzc]⟩
          · -- a row of the heap
            cases X with
            | hs l off len sz ag =>
              cases off with
              | succ k => exact absurd rfl hr
              | zero =>
                simp only at hr ⊢
                cases hcs : h[l]? with
                | none => rw [hcs] at hr; exact absurd rfl hr
                | some cs =>
                  rw [hcs] at hr
                  simp only at hr ⊢
                  cases hc2 : (sz == ei.size && ag == ei.agg && cs.all okCell && decide (cs.length = len * sz) && decide (0 < len) && decide ((len + bs.length) * ei.bytes ≤ 140737488355328)) with
                  | false => rw [hc2] at hr; exact absurd rfl hr
                  | true =>
                    simp only [cond_true]
                    simp only [Bool.and_eq_true, decide_eq_true_eq, beq_iff_eq] at hc2
                    obtain ⟨⟨⟨⟨⟨rfl, rfl⟩, k3⟩, k4⟩, k5⟩, k6⟩ := hc2
                    simp only [VR] at hvx
                    obtain ⟨⟨b, nb⟩, cap, hβ, hvx, hlc, hcn⟩ := hvx
                    have hne : cs ≠ [] := by
                      rintro rfl
                      have : 0 < len * ei.size := Nat.mul_pos k5 h3
                      simp at k4
                      omega
                    obtain ⟨b', z, j1, j2, j3, j4, j5⟩ := H.heap l cs hcs hne
                    rw [hβ] at j1
                    simp only [Option.some.injEq, Prod.mk.injEq] at j1
                    obtain ⟨rfl, rfl⟩ := j1
                    have hzs : cs.length ≤ z.size := by have := j4.length; simp at this; omega
                    have hol : (z.toList.take cs.length).length = len * ei.size := by simp; omega
                    have hold : ∀ w' : World, (∀ a : Addr, w'.cell? a = w.cell? a) → (Builtin.firstCells ei.size len (a.eval x)).run P w' = .ok (z.toList.take cs.length).toArray w' := fun w' hw' => by
                      rw [hvx]
                      refine run_firstCells_some w' ei.size len ⟨b, 0, none⟩ len cap _ hol fun j q hq => ?_
                      rw [addr_add, Nat.zero_add, hw', j2.cell]
                      rw [List.getElem?_take] at hq
                      split at hq
                      · simpa using hq
                      · simp at hq
                    have hroom : RoomOf w ei.size (a.eval x) := ⟨_, len, cap, hvx, hlc, (fun h => by cases h), .inr ⟨b, 0, z, rfl, j2, hcn⟩⟩
                    obtain ⟨v, w', hrun, hA⟩ := append_raw (ty := o.type) hT ht hk hei hu (n0 := len) (olds := z.toList.take cs.length) ⟨_, cap, hvx⟩ hlen hfirst' hold hol hflat.1 hflat.2.2 k6 h2 hroom
                    have hexec := append_exec ho hb hts hxs hrun
                    cases hA with
                    | same h0 =>
                      have hbs : bs = [] := List.eq_nil_of_length_eq_zero h0
                      subst hbs
                      simp only [List.isEmpty_nil, cond_true]
                      refine After.val hexec (Sat.up ⟨S, β, γ, lam, ω, H.setV hd ?_⟩)
                      simp only [VR]
                      exact ⟨_, cap, hβ, hvx, hlc, hcn⟩
                    | place b2 off2 cap2 z2 hv2 hr2 hlt2 hc2' hn2 =>
                      have hbe : bs.isEmpty = false := by cases bs <;> simp_all
                      rw [hbe]
                      simp only [cond_false]
                      rw [hvx] at hv2
                      simp only [Value.slice.injEq, Option.some.injEq, Addr.mk.injEq] at hv2
                      obtain ⟨⟨rfl, rfl, _⟩, _, rfl⟩ := hv2
                      cases j2.inj hr2
                      have hnl := hflat.1
                      have hle : (len + bs.length) * ei.size ≤ cap * ei.size := Nat.mul_le_mul_right _ hlt2
                      rw [Nat.add_mul] at hle
                      have hysz : (z.toList.take (0 + len * ei.size) ++ news ++ z.toList.drop (0 + len * ei.size + news.length)).toArray.size = z.size := by simp; omega
                      have hyv : VRs S β (cs ++ bs.flatMap acells) ((z.toList.take (0 + len * ei.size) ++ news ++ z.toList.drop (0 + len * ei.size + news.length)).toArray.toList.take (cs ++ bs.flatMap acells).length) := by
                        have hl1 : (z.toList.take (0 + len * ei.size) ++ news).length = (cs ++ bs.flatMap acells).length := by simp [hfl, hnl]; omega
                        show VRs S β _ (List.take _ (z.toList.take (0 + len * ei.size) ++ news ++ z.toList.drop (0 + len * ei.size + news.length)))
                        rw [List.take_append_of_le_length (by omega), List.take_of_length_le (by omega)]
                        have : z.toList.take (0 + len * ei.size) = z.toList.take cs.length := by rw [Nat.zero_add, k4]
                        rw [this]
                        exact j4.append hfv
                      have hne2 : cs ++ bs.flatMap acells ≠ [] := by simp [hne]
                      have F1 := H.turnH hcs hne ⟨_, hβ⟩ j2 hysz hyv
                      have hl : l < h.length := by
                        rcases Nat.lt_or_ge l h.length with h' | h'
                        · exact h'
                        · rw [List.getElem?_eq_none h'] at hcs; simp at hcs
                      have hcs1 : (h.set l (cs ++ bs.flatMap acells))[l]? = some (cs ++ bs.flatMap acells) := by simp [hl]
                      obtain ⟨ω', F2, hnew, hext⟩ := F1.moveH hcs1 hne2 ⟨_, hβ⟩ j2.setRow hyv
                      have hset : (h.set l (cs ++ bs.flatMap acells)).set l [] = h.set l [] := by simp
                      rw [hset] at F2
                      rw [List.length_set] at hnew
                      refine After.val hexec (Sat.up ⟨_, _, γ, lam, ω', F2.setV hd ?_⟩)
                      simp only [VR]
                      exact ⟨_, cap, hnew, rfl, hlt2, by simp only; rw [hysz]; exact hcn⟩
                    | fresh z2 te cap2 hlt2 hzc hzr hn2 =>
                      have hbe : bs.isEmpty = false := by cases bs <;> simp_all
                      rw [hbe]
                      simp only [cond_false]
                      have F1 := (H.drew).killH l
                      obtain ⟨ω', F2, hnew, hext⟩ := F1.newH z2 te (cs := cs ++ bs.flatMap acells) (by
                        refine .of_get ?_ fun i q v hq hv => ?_
                        · have : (len + bs.length) * ei.size ≤ cap2 * ei.size := Nat.mul_le_mul_right _ hlt2
                          rw [Nat.add_mul] at this
                          simp [hfl]; omega
                        · obtain ⟨v', h1', h2'⟩ := (j4.append hfv).get hq
                          have := hzr i v' h1'
                          rw [List.getElem?_take] at hv
                          split at hv
                          · rw [Array.getElem?_toList, this] at hv; cases hv; exact h2'
                          · simp at hv)
                      rw [List.length_set] at hnew
                      have hnew' : (β ++ [(w.drew.heap.size, z2.size)])[h.length]? = some (w.heap.size, z2.size) := hnew
                      refine After.val hexec (Sat.up ⟨_, _, γ, lam, ω', F2.setV hd ?_⟩)
                      simp only [VR]
                      exact ⟨(w.heap.size, z2.size), cap2, hnew', rfl, hlt2, by simp [hzc]⟩
            | sl es =>
              cases es with
              | nil =>
                cases zz with
                | true => exact absurd ⟨rfl, rfl⟩ hXs
                | false => exact absurd rfl hr
              | cons _ _ => exact absurd rfl hr
            | _ => first | exact absurd rfl hXn | exact absurd rfl hr
end
end Go.Av

/- One operation of any kind. Conditions: the table of types is the program's; the calls are right. -/
namespace Go.Av
variable [Dr]

section
variable {P : Program} {cx : Cx} {c : Entry} {N : Nat} {U : Nat → Prop} {e : Env} {h : Hp} {a : Act} {w : World} {S : Stab} {β : List Blk} {γ : Nat → Value} {lam : Nat → Option Nat} {ω : Nat → Owner} {o : Oper} {gid : Nat}

omit [Dr] in
theorem isNilConst_inv {x : Operand} (h : isNilConst x = true) : x = .const (.slice none 0 0) := by
  unfold isNilConst at h
  split at h
  · rfl
  · simp at h

omit [Dr] in
theorem run_bad (hr : runAct e o.dst .bad h ≠ .fail) : False := hr rfl

theorem fz_after {m : M AV} (hd : ∀ t, o.dst = some t → t < N) (hl : runAct e o.dst (.dyn m .ofV) h ≠ .fail → After P c N (UG U gid) (runAct e o.dst (.dyn m .ofV) h) o a w)
    (hr : runAct e o.dst (.dyn (bnd m fzM) .ofV) h ≠ .fail) : After P c N (UG U gid) (runAct e o.dst (.dyn (bnd m fzM) .ofV) h) o a w := by
  intro next Q hn hp
  simp only [runAct, bnd, fzM, M.pure] at hr hn hp hl
  cases hm : m h with
  | fail => rw [hm] at hr; exact absurd rfl hr
  | pan pv h1 =>
    rw [hm] at hp hl
    exact hl (by simp) next Q (fun e' h' a' w' h1 => by cases h1) hp
  | ok v h1 =>
    rw [hm] at hn hl
    refine hl (by simp) next Q (fun e' h' a' w' k1 k2 k3 => ?_) (fun pv h' v w' k1 => by cases k1)
    cases k1
    exact hn _ _ a' w' rfl (freeze_sat (gid := gid) hd (Shape.ofV ..) k2) k3

omit [Dr] in
theorem opndN_ok {x : Operand} (h : VR S β (opnd e x) (a.eval x)) : VR S β (opndN e x) (a.eval x) := by
  unfold opndN
  cases hn : isNilConst x with
  | false => exact h
  | true =>
    unfold isNilConst at hn
    split at hn
    · simp [Act.eval, VR]
    · cases hn

omit [Dr] in
theorem mapT {f g : Operand → AV} {v : Operand → Value} {l : List Operand} (_ : VRs S β (l.map f) (l.map v)) (h : ∀ x ∈ l, VR S β (g x) (v x)) : VRs S β (l.map g) (l.map v) := by
  induction l with
  | nil => simp [VRs]
  | cons x l ih =>
    rename_i hh
    simp only [List.map_cons, VRs] at hh ⊢
    obtain ⟨y, ys, hy, _, h2⟩ := hh
    cases hy
    exact ⟨_, _, rfl, h x (by simp), ih h2 fun y hy => h y (by simp [hy])⟩

theorem call_op (hT : TOK P cx.T) (hC : CallsOK P cx.own cx.call) (H : FR c N U e h a w S β γ lam ω) (hd : ∀ t, o.dst = some t → t < N) (hU : ∀ g, gid ≤ g → g < gid + 1000 → ¬ U g) {cc : Call} (ho : o.op = .call cc)
    (ht : ∀ x ∈ o.op.operands.toList, ∀ t, x = .tmp t → t < 1000) (hr : runAct e o.dst (opCall cx e gid o cc) h ≠ .fail) : After P c N (UG U gid) (runAct e o.dst (opCall cx e gid o cc) h) o a w := by
  have hargs : ∀ x ∈ cc.args.toList, ∀ t, x = .tmp t → t < 1000 := fun x hx t hxt => ht x (by rw [ho]; simp [Op.operands, Call.operands]; exact .inr (by simpa using hx)) t hxt
  have hvs := opnds_ok H cc.args.toList hargs
  have hmap : cc.args.map a.eval = (cc.args.toList.map a.eval).toArray := by apply Array.ext'; simp
  unfold opCall at hr ⊢
  cases hcal : cc.callee with
  | invoke r m => rw [hcal] at hr; exact absurd rfl hr
  | value f =>
    rw [hcal] at hr
    have hfv : ∀ t, f = .tmp t → t < 1000 := fun t hft => ht f (by rw [ho]; simp [Op.operands, Call.operands, hcal]) t hft
    have hclos : ∀ (hr : runAct e o.dst (.dyn (callV cx.call (opnd e f) (cc.args.toList.map (opnd e))) .ofV) h ≠ .fail), After P c N (UG U gid) (runAct e o.dst (.dyn (callV cx.call (opnd e f) (cc.args.toList.map (opnd e))) .ofV) h) o a w := by
      intro hr
      have hf := opnd_ok H f hfv
      simp only [runAct] at hr ⊢
      generalize hq : opnd e f = q at hr hf ⊢
      unfold callV at hr ⊢
      split at hr
      · rename_i g fi cap
        simp only [VR] at hf
        obtain ⟨xs, ys, hav, hx, hy⟩ := hf
        refine call_after hC H hd hU ((hx.append hvs).append hy) (fun hfn => ?_) (.inl fun v => rfl) hr
        have hargs' : (xs ++ cc.args.toList.map a.eval ++ ys).toArray = xs.toArray ++ cc.args.map a.eval ++ ys.toArray := by rw [hmap]; simp
        simp only [execOp, ho, resolve, hcal, hav, Deferred.ofValue, Sem.run_bind, Sem.run_pure, Result.andThen_ok, invoke]
        rw [hargs']
        exact callFunc_run (w := w) hfn
      · exact absurd rfl hr
    cases f with
    | func f =>
      simp only at hr ⊢
      have hrunc : ∀ hfn, (execOp a.eval o).run P w = .ok (.enter f (cc.args.toList.map a.eval).toArray) w := fun hfn => by
        simp only [execOp, ho, resolve, hcal, Act.eval, Deferred.ofValue, Sem.run_bind, Sem.run_pure, Result.andThen_ok, invoke]
        rw [hmap]
        simpa using callFunc_run (w := w) (args := (cc.args.toList.map a.eval).toArray) hfn
      cases hfz : memO cx.ann.fz o.dst with
      | true =>
        rw [hfz] at hr
        simp only [cond_true] at hr ⊢
        cases hq : !(cx.iso f) && !(cx.nw f) && (cx.own f).isNone with
        | false => rw [hq] at hr; exact absurd rfl hr
        | true =>
          rw [hq] at hr
          simp only [cond_true] at hr ⊢
          exact fz_after (m := cx.call f (cc.args.toList.map (opnd e))) hd (fun hr => call_after hC H hd hU hvs hrunc (.inl fun v => rfl) hr) hr
      | false =>
      rw [hfz] at hr
      simp only [cond_false] at hr ⊢
      have hvt : VRs S β (cc.args.toList.map (opndT (memO cx.ann.hb o.dst) e)) (cc.args.toList.map a.eval) := by
        refine mapT hvs fun x hx => ?_
        unfold opndT
        cases memO cx.ann.hb o.dst with
        | false => exact opnd_ok H x (hargs x hx)
        | true => exact opndN_ok (opnd_ok H x (hargs x hx))
      refine call_after hC H hd hU hvt (fun hfn => ?_) ?_ hr
      rotate_left
      · cases hof : cx.own f with
        | none => exact .inl fun v => rfl
        | some sz => exact .inr ⟨sz, rfl, fun v => rfl⟩
      simp only [execOp, ho, resolve, hcal, Act.eval, Deferred.ofValue, Sem.run_bind, Sem.run_pure, Result.andThen_ok, invoke]
      rw [hmap]
      simpa using callFunc_run (w := w) (args := (cc.args.toList.map a.eval).toArray) hfn
    | tmp t => exact hclos hr
    | const v => exact hclos hr
    | global g => exact hclos hr
  | builtin b =>
    rw [hcal] at hr
    cases b <;> simp only at hr ⊢ <;> (try exact absurd rfl hr)
    case append =>
      split at hr
      · rename_i t u x y hts hxs
        cases hu : isAppT cx.T u with
        | false => rw [hu] at hr; exact absurd rfl hr
        | true =>
          rw [hu] at hr
          simp only [Bool.not_true, cond_false] at hr ⊢
          have hx : ∀ t, x = .tmp t → t < 1000 := hargs x (by rw [hxs]; simp)
          have hy : ∀ t, y = .tmp t → t < 1000 := hargs y (by rw [hxs]; simp)
          cases hha : memO cx.ann.ha o.dst with
          | true =>
            rw [hha] at hr
            simp only [cond_true] at hr ⊢
            exact appH_op hT H hd ho hcal hts hxs hx hy hu hr
          | false =>
            rw [hha] at hr
            simp only [cond_false] at hr ⊢
            cases hnc : isNilConst x with
            | true =>
              rw [hnc] at hr
              simp only [cond_true] at hr ⊢
              have hxc := isNilConst_inv hnc
              subst hxc
              cases happ : appA cx.T t (.sl []) (opnd e y) with
              | none => rw [happ] at hr; exact absurd rfl hr
              | some r =>
                exact append_op hT H hd hU ho hcal hts hxs hy hu (as := []) (g0 := none) rfl (by simp only [VR]; exact ⟨none, 0, rfl, Nat.le_refl _, fun _ => rfl, fun q hq => by cases hq⟩) (.inl ⟨rfl, rfl⟩) happ
            | false =>
              rw [hnc] at hr
              simp only [cond_false] at hr ⊢
              cases x <;> simp only at hr ⊢ <;> (try exact absurd rfl hr)
              rename_i s
              cases hg : (e.get s).g with
              | none => rw [hg] at hr; exact absurd rfl hr
              | some g =>
                rw [hg] at hr
                simp only at hr ⊢
                cases hal : aliveG e.al g with
                | none => rw [hal] at hr; exact absurd rfl hr
                | some z =>
                  rw [hal] at hr
                  simp only at hr ⊢
                  cases hz : szOk z (elemSize cx.T t) with
                  | false => rw [hz] at hr; exact absurd rfl hr
                  | true =>
                    rw [hz] at hr
                    simp only [cond_true] at hr ⊢
                    cases happ : appA cx.T t (opnd e (.tmp s)) (opnd e y) with
                    | none => rw [happ] at hr; exact absurd rfl hr
                    | some r =>
                      obtain ⟨as, has⟩ := appA_sl happ
                      have hvx := opnd_ok H (.tmp s) hx
                      rw [has] at hvx happ
                      have hγ := H.grps s g z (hx s rfl) hg hal
                      exact append_op hT H hd hU ho hcal hts hxs hy hu (as := as) (g0 := some g) rfl hvx (.inr ⟨g, z, rfl, by
                        have : a.eval (.tmp s) = γ g := hγ
                        rw [this]; exact H.free g z hal, hz⟩) happ
      · exact absurd rfl hr
    case clear =>
      split at hr
      · rename_i t ts x xs hts hxs
        exact clear_op hT H hd ho hcal hts hxs (hargs x (by rw [hxs]; simp)) hr
      · exact absurd rfl hr
    case len =>
      split at hr
      · rename_i t ts x xs hts hxs
        refine pure_op H hd (m := Builtin.len_ cc.argTypes o.type (cc.args.map a.eval)) ?_ (fun r hr' => ?_) hr
        · simp only [execOp, ho, resolve, hcal, invoke, builtin, pure_bind]
        · have h1 : cc.argTypes = (t :: ts).toArray := by apply Array.ext'; simpa using hts
          have h2 : cc.args.map a.eval = (a.eval x :: xs.map a.eval).toArray := by rw [hmap, hxs]; simp
          rw [h1, h2]
          exact len_ok hT ts (xs.map a.eval) hr' (opnd_ok H x (hargs x (by rw [hxs]; simp)))
      · exact absurd rfl hr
    case min =>
      refine pure_op H hd (m := Builtin.min_ cc.argTypes o.type (cc.args.map a.eval)) ?_ (fun r hr' => ?_) hr
      · simp only [execOp, ho, resolve, hcal, invoke, builtin, pure_bind]
      · obtain ⟨v, rest, he, hp⟩ := mins_ok (P := P) (w := w) _ _ (Nat.le_refl _) r _ hr' hvs
        obtain ⟨u, hu, hur⟩ := hp
        exact ⟨u, by rw [hmap]; simp only [Builtin.min_]; rw [he]; simpa using hu, hur⟩
    case max =>
      refine pure_op H hd (m := Builtin.max_ cc.argTypes o.type (cc.args.map a.eval)) ?_ (fun r hr' => ?_) hr
      · simp only [execOp, ho, resolve, hcal, invoke, builtin, pure_bind]
      · obtain ⟨v, rest, he, hp⟩ := mins_ok (P := P) (w := w) _ _ (Nat.le_refl _) r _ hr' hvs
        obtain ⟨u, hu, hur⟩ := hp
        exact ⟨u, by rw [hmap]; simp only [Builtin.max_]; rw [he]; simpa using hu, hur⟩

theorem fz_op (hT : TOK P cx.T) (H : FR c N U e h a w S β γ lam ω) (hd : ∀ t, o.dst = some t → t < N) {t p : Nat} (ho : o.op = .load t (.tmp p)) (hx : p < 1000) (hr : runAct e o.dst (fzA (opLoad cx e o.dst t p)) h ≠ .fail) :
    After P c N (UG U gid) (runAct e o.dst (fzA (opLoad cx e o.dst t p)) h) o a w := by
  have hsh : ActAll (Shape e gid {} none) (opLoad cx e o.dst t p) := load_shape o.dst t p {}
  have hl := fun hr => load_op (gid := gid) hT H hd ho hx hr
  revert hr
  generalize opLoad cx e o.dst t p = A at hsh hl
  intro hr
  cases A with
  | bad => exact absurd rfl hr
  | stat u =>
    intro next Q hn hp
    exact hl (by simp [runAct, M.pure]) next Q (fun e' h' a' w' h1 h2 h3 => by
      cases h1
      exact hn _ _ a' w' rfl (freeze_sat hd hsh h2) h3) (fun pv h' v w' h1 => by cases h1)
  | thr v => exact hl hr
  | dyn m sh =>
    intro next Q hn hp
    simp only [runAct, fzA, bnd, fzM, M.pure] at hr hn hp hl
    cases hm : m h with
    | fail => rw [hm] at hr; exact absurd rfl hr
    | pan pv h1 =>
      rw [hm] at hp hl
      exact hl (by simp) next Q (fun e' h' a' w' h1 => by cases h1) hp
    | ok v h1 =>
      rw [hm] at hn hl
      refine hl (by simp) next Q (fun e' h' a' w' k1 k2 k3 => ?_) (fun pv h' v w' k1 => by cases k1)
      cases k1
      exact hn _ _ a' w' rfl (freeze_sat hd (hsh v) k2) k3

/-- Any operation. -/
theorem op_sound (hT : TOK P cx.T) (hC : CallsOK P cx.own cx.call) (H : FR c N U e h a w S β γ lam ω) (hd : ∀ t, o.dst = some t → t < N) (hU : ∀ g, gid ≤ g → g < gid + 1000 → ¬ U g)
    (ht : ∀ x ∈ o.op.operands.toList, ∀ t, x = .tmp t → t < 1000) (hpN : ∀ p, isS (findK cx.ann.kinds p .L) = true → p < N) (hr : runOp cx e gid o h ≠ .fail) : After P c N (UG U gid) (runOp cx e gid o h) o a w := by
  cases ho : o.op with
  | move x => exact move_op H hd hU (.inl ho) (fun t hx => ht x (by rw [ho]; simp [Op.operands]) t hx)
  | assign x => exact move_op H hd hU (.inr ho) (fun t hx => ht x (by rw [ho]; simp [Op.operands]) t hx)
  | pick k x y =>
    have h1 := fun t hx => ht k (by rw [ho]; simp [Op.operands]) t hx
    have h2 := fun t hx => ht x (by rw [ho]; simp [Op.operands]) t hx
    have h3 := fun t hx => ht y (by rw [ho]; simp [Op.operands]) t hx
    unfold runOp opD at hr ⊢
    rw [ho] at hr ⊢
    simp only at hr ⊢
    refine pure_op H hd (m := do pure (if ← asBool (a.eval k) then a.eval x else a.eval y)) ?_ (fun r hr' => pick_ok hr' (opnd_ok H k h1) (opnd_ok H x h2) (opnd_ok H y h3)) hr
    simp only [execOp, ho, bind_assoc, pure_bind]
  | alloc t => exact alloc_op hT H hd hU ho hr
  | box t x => exact box_op H hd hU ho (fun t hx => ht x (by rw [ho]; simp [Op.operands]) t hx) hr
  | build t ps =>
    have hps : ∀ p ∈ ps.toList, ∀ t, p.2 = .tmp t → t < 1000 := fun p hp t hx => ht p.2 (by rw [ho]; simp [Op.operands]; exact ⟨p.1, by simpa using hp⟩) t hx
    unfold runOp opD at hr ⊢
    rw [ho] at hr ⊢
    simp only at hr ⊢
    exact pure_op H hd (m := Instr.build t (ps.map fun p => (p.1, a.eval p.2))) (by simp only [execOp, ho]) (fun r hr' => build_ok hT hr' (by simpa using partsR_ok H ps.toList hps)) hr
  | buildSlice t n ps =>
    exact buildSlice_op hT H hd hU ho (fun p hp t hx => ht p.2 (by rw [ho]; simp [Op.operands]; exact ⟨p.1, by simpa using hp⟩) t hx) hr
  | load t x =>
    unfold runOp opD at hr ⊢
    rw [ho] at hr ⊢
    cases x with
    | tmp p =>
      have hp := ht (.tmp p) (by rw [ho]; simp [Op.operands]) p rfl
      simp only at hr ⊢
      cases hnl : memO cx.ann.nl o.dst && isLocE (e.get p) with
      | true => rw [hnl] at hr; exact absurd rfl hr
      | false =>
      rw [hnl] at hr
      simp only [cond_false] at hr ⊢
      cases hz : memO cx.ann.fz o.dst with
      | false => rw [hz] at hr; exact load_op hT H hd ho hp hr
      | true =>
        rw [hz] at hr
        simp only [cond_true] at hr ⊢
        exact fz_op hT H hd ho hp hr
    | _ => exact absurd rfl hr
  | store t x y =>
    exact store_op hT H (fun _ _ => trivial) hU ho (fun t hx => ht x (by rw [ho]; simp [Op.operands]) t hx) (fun t hx => ht y (by rw [ho]; simp [Op.operands]) t hx) (fun p _ hp => hpN p hp) hr
  | nilCheck x => exact nilCheck_op H hd ho (fun t hx => ht x (by rw [ho]; simp [Op.operands]) t hx) hr
  | binOp op t x y u =>
    have h1 := fun t hx => ht x (by rw [ho]; simp [Op.operands]) t hx
    have h2 := fun t hx => ht y (by rw [ho]; simp [Op.operands]) t hx
    unfold runOp opD at hr ⊢
    rw [ho] at hr ⊢
    simp only at hr ⊢
    cases hlit : ifcCmp cx.T op t x y with
    | true => rw [hlit] at hr; exact absurd rfl hr
    | false =>
    rw [hlit] at hr
    simp only [cond_false] at hr ⊢
    exact pure_op H hd (m := do eqGuard op t x y (a.eval x) (a.eval y); Go.binOp op t (a.eval x) (a.eval y)) (by simp only [execOp, ho]) (fun r hr' => bin_ok hT x y hlit hr' (opndN_ok (opnd_ok H x h1)) (opndN_ok (opnd_ok H y h2))) hr
  | unOp op t x =>
    have h1 := fun t hx => ht x (by rw [ho]; simp [Op.operands]) t hx
    unfold runOp opD at hr ⊢
    rw [ho] at hr ⊢
    simp only at hr ⊢
    exact pure_op H hd (m := Op.unary op (a.eval x)) (by simp only [execOp, ho]) (fun r hr' => un_ok hr' (opnd_ok H x h1)) hr
  | convert s t x =>
    have h1 := fun t hx => ht x (by rw [ho]; simp [Op.operands]) t hx
    unfold runOp opD at hr ⊢
    rw [ho] at hr ⊢
    simp only at hr ⊢
    exact pure_op H hd (m := convert s t (a.eval x)) (by simp only [execOp, ho]) (fun r hr' => conv_ok hT hr' (opnd_ok H x h1)) hr
  | makeInterface t x =>
    have h1 := fun t hx => ht x (by rw [ho]; simp [Op.operands]) t hx
    unfold runOp opD at hr ⊢
    rw [ho] at hr ⊢
    simp only at hr ⊢
    exact pure_op H hd (m := Instr.makeInterface t (a.eval x)) (by simp only [execOp, ho]) (fun r hr' => mkIface_ok hT hr' (opnd_ok H x h1)) hr
  | makeFunc f x y =>
    have h1 := opnds_ok H x.toList (fun z hz t hx => ht z (by rw [ho]; simp [Op.operands]; exact .inl (by simpa using hz)) t hx)
    have h2 := opnds_ok H y.toList (fun z hz t hx => ht z (by rw [ho]; simp [Op.operands]; exact .inr (by simpa using hz)) t hx)
    unfold runOp opD at hr ⊢
    rw [ho] at hr ⊢
    simp only at hr ⊢
    refine After.val (v := .func f (x.map a.eval) (y.map a.eval)) (w' := w) (by simp [execOp, ho, Instr.makeFunc]) (Sat.up ⟨S, β, γ, lam, ω, H.setV hd ?_⟩)
    simp only [VR]
    have hm : ∀ z : Array Operand, z.map a.eval = (z.toList.map a.eval).toArray := fun z => by apply Array.ext'; simp
    exact ⟨_, _, by rw [hm x, hm y], h1, h2⟩
  | makeSlice t x y => exact makeSlice_op hT H hd hU ho (fun t hx => ht x (by rw [ho]; simp [Op.operands]) t hx) (fun t hx => ht y (by rw [ho]; simp [Op.operands]) t hx) hr
  | slice t x lo hi mx =>
    exact slice_op hT H hd hU ho (fun t hx => ht x (by rw [ho]; simp [Op.operands]) t hx) (fun y hy t hx => ht y (by rw [ho]; simp [Op.operands, hy]) t hx) (fun y hy t hx => ht y (by rw [ho]; simp [Op.operands, hy]) t hx) (fun y hy t hx => ht y (by rw [ho]; simp [Op.operands, hy]) t hx) hr
  | fieldAddr t x f => exact fieldAddr_op hT H hd ho (fun t hx => ht x (by rw [ho]; simp [Op.operands]) t hx) hr
  | field t x f =>
    have h1 := fun t hx => ht x (by rw [ho]; simp [Op.operands]) t hx
    unfold runOp opD at hr ⊢
    rw [ho] at hr ⊢
    simp only at hr ⊢
    exact pure_op H hd (m := Instr.field t (a.eval x) f) (by simp only [execOp, ho]) (fun r hr' => field_ok hT hr' (opnd_ok H x h1)) hr
  | indexAddr t x i => exact indexAddr_op hT H hd ho (fun t hx => ht x (by rw [ho]; simp [Op.operands]) t hx) (fun t hx => ht i (by rw [ho]; simp [Op.operands]) t hx) hr
  | index t x i =>
    have h1 := fun t hx => ht x (by rw [ho]; simp [Op.operands]) t hx
    have h2 := fun t hx => ht i (by rw [ho]; simp [Op.operands]) t hx
    unfold runOp opD at hr ⊢
    rw [ho] at hr ⊢
    simp only at hr ⊢
    exact pure_op H hd (m := Instr.index t (a.eval x) (a.eval i)) (by simp only [execOp, ho]) (fun r hr' => indexStr_ok hT hr' (opnd_ok H x h1) (opnd_ok H i h2)) hr
  | extract x i =>
    have h1 := fun t hx => ht x (by rw [ho]; simp [Op.operands]) t hx
    unfold runOp opD at hr ⊢
    rw [ho] at hr ⊢
    simp only at hr ⊢
    exact pure_op H hd (m := Instr.extract (a.eval x) i) (by simp only [execOp, ho]) (fun r hr' => extract_ok hr' (opnd_ok H x h1)) hr
  | panic x =>
    have h1 := fun t hx => ht x (by rw [ho]; simp [Op.operands]) t hx
    have hv := opnd_ok H x h1
    unfold runOp opD at hr ⊢
    rw [ho] at hr ⊢
    simp only at hr ⊢
    cases hq : opnd e x <;> rw [hq] at hr hv <;> (try exact absurd rfl hr)
    rename_i t v
    intro next Q hn hp
    simp only [VR] at hv
    obtain ⟨y, hav, hy⟩ := hv
    unfold Oper.wp
    have hrun : (execOp a.eval o).run P w = .halt (.panic (.iface t y)) w := by simp [execOp, ho, hav, Instr.panic]
    rw [hrun]
    exact hp (.iface t v) h (.iface t y) w rfl ⟨S, β, H.out, by simp only [VR]; exact ⟨y, rfl, hy⟩⟩
  | call cc =>
    unfold runOp opD at hr ⊢
    rw [ho] at hr ⊢
    simp only at hr ⊢
    exact call_op hT hC H hd hU ho ht hr
  | _ => unfold runOp opD at hr; rw [ho] at hr; exact absurd rfl hr
end
end Go.Av

/- A region's operations one after another. Conditions: the table of types is the program's; the calls are right. -/
namespace Go.Av
variable [Dr]

def actOf : Act1 → M Upd
  | .bad => M.fail
  | .stat u => M.pure u
  | .dyn m sh => bnd m fun v => M.pure (sh v)
  | .thr v => throwM v
def gLook (c : AV) (want : Bool) (m : M Upd) : M Upd := match c with
  | .bool b => bif b == want then m else M.pure (.ofV (.tup []))
  | .tup [] => M.pure (.ofV (.tup []))
  | _ => M.fail
/-- What one operation with its guard does. -/
def actG (cx : Cx) (base : Nat) (ops : Array Oper) (i : Nat) (e : Env) : M Upd := match ops[i]? with
  | none => M.fail
  | some o => match o.guard with
    | none => actOf (opD cx e ((base + i) * 1000) o)
    | some (j, want) => match dstOf ops j with
      | none => M.fail
      | some t => bif plainOp cx o then gLook (e.av t) want (actOf (stripA (opD cx e ((base + i) * 1000) o))) else M.fail
def stepG (cx : Cx) (base : Nat) (ops : Array Oper) (i : Nat) (e : Env) : M Env := bnd (actG cx base ops i e) fun u => M.pure (e.upd (dstOf ops i) u)
def runSeq (cx : Cx) (base : Nat) (ops : Array Oper) : List Nat → Env → M Env
  | [], e => M.pure e
  | i :: is, e => bnd (stepG cx base ops i e) (runSeq cx base ops is)

omit [Dr] in
theorem runAct_eq (e : Env) (d : Option Tmp) (A : Act1) : runAct e d A = bnd (actOf A) fun u => M.pure (e.upd d u) := by
  cases A with
  | bad => rfl
  | stat u => rfl
  | dyn m sh => simp only [runAct, actOf, bnd_bnd, bnd_pure]
  | thr v => rfl

omit [Dr] in
theorem actOf_all {p : Upd → Prop} {A : Act1} (h : ActAll p A) {x y : Hp} {u : Upd} (hr : actOf A x = .ok u y) : p u := by
  cases A with
  | bad => cases hr
  | stat v => cases hr; exact h
  | dyn m sh =>
    simp only [actOf, bnd, M.pure] at hr
    cases hm : m x <;> rw [hm] at hr <;> simp at hr
    rw [← hr.1]; exact h _
  | thr v => cases hr

omit [Dr] in
theorem actOf_strip (A : Act1) (x : Hp) : actOf (stripA A) x = (match actOf A x with | .ok u y => .ok (stripU u) y | .pan v y => .pan v y | .fail => .fail) := by
  cases A with
  | bad => rfl
  | stat v => rfl
  | dyn m sh =>
    simp only [actOf, stripA, bnd, M.pure]
    cases m x <;> rfl
  | thr v => rfl

section
variable {P : Program} {cx : Cx} {c : Entry} {N : Nat} {e : Env} {h : Hp} {a : Act} {w : World} {ops : Array Oper} {base : Nat}
/-- Numbers of groups in use when the operations of D are done. -/
def UD (base : Nat) (D : List Nat) : Nat → Prop := fun g => g < base * 1000 ∨ ∃ i ∈ D, (base + i) * 1000 ≤ g ∧ g < (base + i) * 1000 + 1000

omit [Dr] in
theorem UD_fresh {D : List Nat} {i : Nat} (hi : i ∉ D) : ∀ g, (base + i) * 1000 ≤ g → g < (base + i) * 1000 + 1000 → ¬ UD base D g := by
  rintro g h1 h2 (h3 | ⟨j, hj, h4, h5⟩)
  · have : base * 1000 ≤ (base + i) * 1000 := Nat.mul_le_mul_right _ (by omega)
    omega
  · have : i = j := by omega
    exact hi (this ▸ hj)
omit [Dr] in
theorem UD_step {D : List Nat} {i : Nat} : ∀ g, UG (UD base D) ((base + i) * 1000) g → UD base (i :: D) g := by
  rintro g ((h1 | ⟨j, hj, h2⟩) | h1)
  · exact .inl h1
  · exact .inr ⟨j, by simp [hj], h2⟩
  · exact .inr ⟨i, by simp, h1⟩

structure OpsOk (N : Nat) (cx : Cx) (ops : Array Oper) : Prop where
  dst : ∀ (i : Nat) (o : Oper), ops[i]? = some o → ∀ t, o.dst = some t → t < N
  src : ∀ (i : Nat) (o : Oper), ops[i]? = some o → ∀ x ∈ o.op.operands.toList, ∀ t, x = .tmp t → t < 1000
  kin : ∀ p, isS (findK cx.ann.kinds p .L) = true → p < N

omit [Dr] in
theorem getD_bool {x : Array Value} {t : Nat} {b : Bool} (h : x.getD t undef = .bool b) : x[t]? = some (.bool b) := by
  rw [Array.getD_eq_getD_getElem?] at h
  cases hx : x[t]? with
  | none => rw [hx] at h; cases h
  | some v => rw [hx] at h; simp at h; rw [h]

theorem strip_sat {U : Nat → Prop} {gid : Nat} {f : Foot} {ss : Option Nat} {d : Option Tmp} {u : Upd} (hs : Shape e gid f ss u) (hw : f.wl = false) (hdr : f.dr = false) (hU : ∀ g z, aliveG e.al g = some z → g ≠ gid) {a' : Act} {w' : World} {h' : Hp}
    (H : Sat c N U (e.upd d u) h' a' w') : Sat c N U (e.upd d (stripU u)) h' a' w' := by
  obtain ⟨S, β, γ, lam, ω, F⟩ := H
  have h1 := hs.ls hw
  have h2 := hs.lb hw
  have h3 := hs.unlb hw
  have h4 := hs.nodr hdr
  have hget : ∀ t, (e.upd d (stripU u)).get t = if d = some t then ⟨u.ent.v, none⟩ else e.get t := fun t => by rw [get_upd]; rfl
  have hget' : ∀ t, (e.upd d u).get t = if d = some t then u.ent else e.get t := fun t => by rw [get_upd, h1]; rfl
  refine ⟨S, β, γ, lam, ω, F.weak (fun t => .inl ?_) (fun t g hg => ?_) (fun g z hz => ?_) (fun B n hB => ?_)⟩
  · rw [hget, hget']; split <;> rfl
  · rw [hget] at hg
    rw [hget']
    split at hg
    · cases hg
    · rename_i hd; rw [if_neg hd]; exact hg
  · have hz' : aliveG e.al g = some z := hz
    show aliveG (u.add ++ dropO e.al u.drop) g = some z
    rw [h4]
    have hne := hU g z hz'
    have : ∀ l : List (Nat × Option Nat), (∀ x ∈ l, x.1 = gid) → aliveG (l ++ dropO e.al none) g = some z := by
      intro l
      induction l with
      | nil => intro _; exact hz'
      | cons x l ih =>
        intro hl
        obtain ⟨k, y⟩ := x
        rw [List.cons_append, aliveG_cons, if_neg]
        · exact ih fun x hx => hl x (by simp [hx])
        · have := hl (k, y) (by simp)
          simp at this
          omega
    exact this u.add (hs.add hw)
  · show lbSize (addO (dropLb e.lb u.unlb) u.lb) B = some n
    rw [h2, h3]
    exact hB

theorem step_sound (hT : TOK P cx.T) (hC : CallsOK P cx.own cx.call) (hO : OpsOk N cx ops) {D : List Nat} {i : Nat} (hi : i ∉ D) (H : Sat c N (UD base D) e h a w) (hr : stepG cx base ops i e h ≠ .fail)
    {K : Act → World → Prop} {Q : Exit → Act → World → Prop} (hn : ∀ e' h' a' w', stepG cx base ops i e h = .ok e' h' → Sat c N (UD base (i :: D)) e' h' a' w' → a'.defers = a.defers → K a' w')
    (hp : ∀ pv h' v w', stepG cx base ops i e h = .pan pv h' → PanSat c pv h' v w' → Q (.panic [{ v, recovered := false }]) a w') : wpOp P ops Q i K a w := by
  obtain ⟨S, β, γ, lam, ω, F⟩ := H
  unfold stepG actG at hr hn hp
  simp only [wpOp]
  cases ho : ops[i]? with
  | none => rw [ho] at hr; exact absurd rfl hr
  | some o =>
    have hdst : dstOf ops i = o.dst := by simp [dstOf, ho]
    rw [hdst, ho] at hr hn hp
    simp only at hr hn hp ⊢
    have hop := fun (hr : runOp cx e ((base + i) * 1000) o h ≠ .fail) => op_sound hT hC F (hO.dst i o ho) (UD_fresh hi) (hO.src i o ho) hO.kin hr
    cases hg : o.guard with
    | none =>
      rw [hg] at hr hn hp
      simp only at hr hn hp
      rw [← runAct_eq] at hr hn hp
      have hw : Region.wanted o (yielded ops a.tmps) = true := by unfold Region.wanted; rw [hg]
      rw [if_pos hw]
      exact .inl (hop hr K Q (fun e' h' a' w' h1 h2 h3 => hn e' h' a' w' h1 (h2.wider UD_step) h3) hp)
    | some g =>
      obtain ⟨j, want⟩ := g
      rw [hg] at hr hn hp
      simp only at hr hn hp
      have hwant : Region.wanted o (yielded ops a.tmps) = (yielded ops a.tmps j == some want) := by unfold Region.wanted; rw [hg]
      cases hdj : dstOf ops j with
      | none => rw [hdj] at hr; exact absurd rfl hr
      | some t =>
        rw [hdj] at hr hn hp
        simp only at hr hn hp
        cases hpl : plainOp cx o with
        | false => rw [hpl] at hr; exact absurd rfl hr
        | true =>
        rw [hpl] at hr hn hp
        simp only [cond_true] at hr hn hp
        have hdj' : (ops[j]?).bind (·.dst) = some t := hdj
        have htN : t < N := by
          cases hoj : ops[j]? with
          | none => rw [hoj] at hdj'; simp at hdj'
          | some oj => rw [hoj] at hdj'; exact hO.dst j oj hoj t hdj'
        have hs := F.slots t (by have := F.tsz.2; omega)
        have hav : VR S β (e.av t) (a.tmps.getD t undef) := by
          simp only [Env.av, Ent.av]
          cases hv : (e.get t).v with
          | val av => rw [hv] at hs; exact hs
          | loc B off => simp [VR]
        have hskip : (∀ e' h' a' w', (R.ok (e.upd o.dst (.ofV (.tup []))) h : R Env) = .ok e' h' → Sat c N (UD base (i :: D)) e' h' a' w' → a'.defers = a.defers → K a' w') → K (a.put o.dst undef) w := by
          intro hn
          exact hn _ _ _ _ rfl ⟨S, β, γ, lam, ω, (F.setV (v := undef) (hO.dst i o ho) (by simp only [VR]; exact ⟨[], rfl, by simp [VRs]⟩)).wider (fun g hg => UD_step g (.inl hg))⟩ (put_defers a o.dst undef)
        cases hq : e.av t with
        | bool b =>
          rw [hq] at hr hn hp hav
          simp only [VR] at hav
          have hy : yielded ops a.tmps j = some b := by
            unfold yielded
            rw [hdj']
            simp only [Option.bind_some, getD_bool hav]
          rw [hwant, hy]
          cases hbw : (b == want) with
          | true =>
            simp only [gLook, hbw, cond_true] at hr hn hp
            have : b = want := by simpa using hbw
            subst this
            rw [if_pos (by simp)]
            simp only [plainOp, Bool.and_eq_true, Bool.not_eq_true'] at hpl
            simp only [bnd, actOf_strip, M.pure] at hr hn hp
            have hact : actOf (opD cx e ((base + i) * 1000) o) h ≠ .fail := by
              intro hf; rw [hf] at hr; exact hr rfl
            refine .inl (hop ?_ K Q (fun e' h' a' w' h1 h2 h3 => ?_) (fun pv h' v w' h1 h2 => ?_))
            · unfold runOp
              rw [runAct_eq]
              simp only [bnd, M.pure]
              cases hx : actOf (opD cx e ((base + i) * 1000) o) h with
              | fail => exact absurd hx hact
              | _ => simp
            · unfold runOp at h1
              rw [runAct_eq] at h1
              simp only [bnd, M.pure] at h1
              cases hx : actOf (opD cx e ((base + i) * 1000) o) h with
              | fail => exact absurd hx hact
              | pan pv hh => rw [hx] at h1; cases h1
              | ok u hh =>
                rw [hx] at h1 hn
                simp only [R.ok.injEq] at h1
                obtain ⟨rfl, rfl⟩ := h1
                have hsh := actOf_all (opD_shape cx e ((base + i) * 1000) o) hx
                exact hn _ _ a' w' rfl ((strip_sat hsh hpl.1 hpl.2 (fun g z hz hgg => UD_fresh hi g (by omega) (by omega) (F.used.2 g z hz)) h2).wider UD_step) h3
            · unfold runOp at h1
              rw [runAct_eq] at h1
              simp only [bnd, M.pure] at h1
              cases hx : actOf (opD cx e ((base + i) * 1000) o) h with
              | fail => exact absurd hx hact
              | ok u hh => rw [hx] at h1; cases h1
              | pan pv2 hh =>
                rw [hx] at h1 hp
                simp only [R.pan.injEq] at h1
                obtain ⟨rfl, rfl⟩ := h1
                exact hp _ _ v w' rfl h2
          | false =>
            simp only [gLook, hbw, cond_false, bnd_pure] at hn
            have : (some b == some want) = false := by simpa using hbw
            rw [if_neg (by rw [this]; simp)]
            exact hskip hn
        | tup vs =>
          rw [hq] at hr hn hp hav
          cases vs with
          | nil =>
            simp only [gLook, bnd_pure] at hn
            simp only [VR, VRs] at hav
            obtain ⟨vs, hav, rfl⟩ := hav
            have hy : yielded ops a.tmps j = none := by
              unfold yielded
              rw [hdj']
              simp only [Option.bind_some]
              rw [Array.getD_eq_getD_getElem?] at hav
              cases hx : a.tmps[t]? with
              | none => rfl
              | some v => rw [hx] at hav; simp at hav; rw [hav]
            rw [hwant, hy, if_neg (by simp)]
            exact hskip hn
          | cons v vs => exact absurd rfl hr
        | _ => rw [hq] at hr; exact absurd rfl hr

/-- Numbers of groups that a region of n operations may leave. -/
def UR (base n : Nat) : Nat → Prop := fun g => g < (base + n) * 1000
omit [Dr] in
theorem UD_UR {D : List Nat} {n : Nat} (h : ∀ i ∈ D, i < n) : ∀ g, UD base D g → UR base n g := by
  rintro g (h1 | ⟨i, hi, h2, h3⟩)
  · exact Nat.lt_of_lt_of_le h1 (Nat.mul_le_mul_right _ (by omega))
  · have h4 : (base + i) * 1000 + 1000 ≤ (base + n) * 1000 := by
      have := h i hi
      rw [show (base + i) * 1000 + 1000 = (base + i + 1) * 1000 by rw [Nat.add_mul _ 1]]
      exact Nat.mul_le_mul_right _ (by omega)
    exact Nat.lt_of_lt_of_le h3 h4

theorem seq_sound (hT : TOK P cx.T) (hC : CallsOK P cx.own cx.call) (hO : OpsOk N cx ops) {Q : Exit → Act → World → Prop} : ∀ (l : List Nat) (D : List Nat) (e : Env) (h : Hp) (a : Act) (w : World), l.Nodup → (∀ i ∈ l, i ∉ D) →
    Sat c N (UD base D) e h a w → runSeq cx base ops l e h ≠ .fail →
    (∀ e' h' a' w', runSeq cx base ops l e h = .ok e' h' → Sat c N (UD base (l.reverse ++ D)) e' h' a' w' → a'.defers = a.defers → Q .normal a' w') →
    (∀ pv h' v w' a', runSeq cx base ops l e h = .pan pv h' → PanSat c pv h' v w' → a'.defers = a.defers → Q (.panic [{ v, recovered := false }]) a' w') → wpOps P ops Q l a w
  | [], D, e, h, a, w, _, _, H, _, hn, _ => by
    simp only [wpOps]
    exact hn e h a w rfl (by simpa using H) rfl
  | i :: l, D, e, h, a, w, hnd, hdis, H, hr, hn, hp => by
    simp only [runSeq, bnd] at hr hn hp
    have hnd' := List.nodup_cons.1 hnd
    rw [wpOps_cons]
    refine step_sound hT hC hO (hdis i (by simp)) H (fun hf => by rw [hf] at hr; exact hr rfl) (fun e' h' a' w' hst hs hdf => ?_) (fun pv h' v w' hst hps => ?_)
    · rw [hst] at hr hn hp
      simp only at hr hn hp
      refine seq_sound hT hC hO l (i :: D) e' h' a' w' hnd'.2 (fun j hj => ?_) hs hr (fun e2 h2 a2 w2 h1 h3 h4 => hn e2 h2 a2 w2 h1 (by simpa using h3) (h4.trans hdf)) (fun pv h2 v w2 a2 h1 h3 h4 => hp pv h2 v w2 a2 h1 h3 (h4.trans hdf))
      simp only [List.mem_cons, not_or]
      exact ⟨fun hji => hnd'.1 (hji ▸ hj), hdis j (by simp [hj])⟩
    · rw [hst] at hp
      exact hp pv h' v w' a rfl hps rfl
end
end Go.Av

/- Operations that may be exchanged. Condition: the isolated calls see nothing of the heap and do not panic. -/
namespace Go.Av
variable [Dr]

def PureM {α : Type} (m : M α) : Prop := ∃ o, m = lft o
def ReadM {α : Type} (m : M α) : Prop := ∀ h, m h = .fail ∨ ∃ v, m h = .ok v h
def StayM {α : Type} (m : M α) : Prop := ∀ h v h', m h ≠ .pan v h'
omit [Dr] in
theorem PureM.read {α : Type} {m : M α} (h : PureM m) : ReadM m := by
  obtain ⟨o, rfl⟩ := h
  intro h
  cases o with
  | none => exact .inl rfl
  | some v => exact .inr ⟨v, rfl⟩
omit [Dr] in
theorem ReadM.stay {α : Type} {m : M α} (g : ReadM m) : StayM m := by
  intro h v h' hh
  rcases g h with g | ⟨x, g⟩ <;> rw [g] at hh <;> cases hh
omit [Dr] in
theorem PureM.bnd {α β : Type} {m : M α} (h : PureM m) (f : α → β) : PureM (bnd m fun v => M.pure (f v)) := by
  obtain ⟨o, rfl⟩ := h
  cases o with
  | none => exact ⟨none, rfl⟩
  | some v => exact ⟨some (f v), rfl⟩
omit [Dr] in
theorem ReadM.bnd {α β : Type} {m : M α} (g : ReadM m) (f : α → β) : ReadM (bnd m fun v => M.pure (f v)) := by
  intro h
  simp only [Av.bnd, M.pure]
  rcases g h with g | ⟨x, g⟩ <;> rw [g]
  · exact .inl rfl
  · exact .inr ⟨_, rfl⟩
omit [Dr] in
theorem StayM.bnd {α β : Type} {m : M α} (g : StayM m) (f : α → β) : StayM (bnd m fun v => M.pure (f v)) := by
  intro h v h' hh
  simp only [Av.bnd, M.pure] at hh
  cases hm : m h <;> rw [hm] at hh <;> simp at hh
  exact g _ _ _ hm
omit [Dr] in
theorem PureM.lft {α : Type} (o : Option α) : PureM (lft o) := ⟨o, rfl⟩
omit [Dr] in
theorem PureM.pure {α : Type} (a : α) : PureM (M.pure a) := ⟨some a, rfl⟩
omit [Dr] in
theorem PureM.fail {α : Type} : PureM (M.fail : M α) := ⟨none, rfl⟩

def AppM {α : Type} (m : M α) : Prop := ∀ h t v, m h = .ok v h → m (h ++ t) = .ok v (h ++ t)
def NwM {α : Type} (m : M α) : Prop := ∀ h v h', m h = .ok v h' → ∃ t, h' = h ++ t
omit [Dr] in
theorem PureM.app {α : Type} {m : M α} (h : PureM m) : AppM m := by
  obtain ⟨o, rfl⟩ := h
  intro h t v hh
  cases o with
  | none => cases hh
  | some x => cases hh; rfl
omit [Dr] in
theorem PureM.nw {α : Type} {m : M α} (h : PureM m) : NwM m := by
  obtain ⟨o, rfl⟩ := h
  intro h v h' hh
  cases o with
  | none => cases hh
  | some x => cases hh; exact ⟨[], by simp⟩
omit [Dr] in
theorem AppM.bnd {α β : Type} {m : M α} (g : AppM m ∧ ReadM m) (f : α → β) : AppM (bnd m fun v => M.pure (f v)) ∧ ReadM (bnd m fun v => M.pure (f v)) := by
  refine ⟨fun h t v hh => ?_, g.2.bnd f⟩
  simp only [Av.bnd, M.pure] at hh ⊢
  rcases g.2 h with k | ⟨x, k⟩
  · rw [k] at hh; cases hh
  · rw [k] at hh; cases hh
    rw [g.1 h t x k]
omit [Dr] in
theorem NwM.bnd {α β : Type} {m : M α} (g : NwM m) (f : α → β) : NwM (bnd m fun v => M.pure (f v)) := by
  intro h v h' hh
  simp only [Av.bnd, M.pure] at hh
  cases hm : m h <;> rw [hm] at hh <;> simp at hh
  obtain ⟨t, ht⟩ := g _ _ _ hm
  exact ⟨t, by rw [← hh.2, ht]⟩

def ActM (p : ∀ {α : Type}, M α → Prop) : Act1 → Prop
  | .dyn m _ => p m
  | .thr _ => False
  | _ => True

/-- The isolated calls see nothing of the heap. -/
structure IsoPure (cx : Cx) : Prop where
  iso : ∀ f args, cx.iso f = true → PureM (cx.call f args)
  nw : ∀ f args, cx.nw f = true → NwM (cx.call f args)

section
variable {cx : Cx} {e : Env} {gid : Nat} {o : Oper}

omit [Dr] in
theorem ActM.cond {p : ∀ {α : Type}, M α → Prop} {b : Bool} {x y : Act1} (h1 : b = true → ActM p x) (h2 : b = false → ActM p y) : ActM p (bif b then x else y) := by
  cases b with
  | true => exact h1 rfl
  | false => exact h2 rfl
omit [Dr] in
theorem ActM.lft (o : Option AV) (sh : AV → Upd) : ActM PureM (.dyn (lft o) sh) := PureM.lft o

omit [Dr] in
theorem loadH_read (T : TT) (t : TypeId) (x : AV) : ReadM (loadH T t x) := by
  have key : ∀ x, ReadM (fun h : Hp => (match loadA T t x with | some v => R.ok v h | none => .fail)) := by
    intro x h
    cases hq : loadA T t x with
    | none => exact .inl rfl
    | some v => exact .inr ⟨v, rfl⟩
  cases x with
  | hp l off =>
    intro h
    simp only [loadH]
    cases T t with
    | none => exact .inl rfl
    | some ti =>
      cases h[l]? with
      | none => exact .inl rfl
      | some cs =>
        simp only
        cases ti.agg with
        | true =>
          simp only [cond_true]
          split
          · exact .inr ⟨_, rfl⟩
          · exact .inl rfl
        | false =>
          simp only [cond_false]
          cases cs[off]? with
          | none => exact .inl rfl
          | some v => exact .inr ⟨v, rfl⟩
  | _ => exact key _

omit [Dr] in
theorem storeH_stay (T : TT) (t : TypeId) (x y : AV) : StayM (storeH T t x y) := by
  intro h v h' hh
  unfold storeH at hh
  split at hh
  · split at hh
    · revert hh
      generalize (_ && _ : Bool) = b1; cases b1 <;> simp
    · cases hh
  · cases hh
omit [Dr] in
theorem clearH_stay (T : TT) (t : TypeId) (x : AV) : StayM (clearH T t x) := by
  intro h v h' hh
  unfold clearH at hh
  split at hh
  · cases hh
  · split at hh
    · split at hh
      · cases hh
      · split at hh
        · cases hh
        · split at hh
          · cases hh
          · revert hh
            generalize (_ && _ : Bool) = b1; cases b1 <;> simp
        · cases hh
    · cases hh
omit [Dr] in
theorem newH_stay (cs : List AV) : StayM (newH cs) := by
  intro h v h' hh
  cases hh
omit [Dr] in
theorem appH_stay (T : TT) (t : TypeId) (z : Bool) (x y : AV) : StayM (appH T t z x y) := by
  intro h v h' hh
  unfold appH at hh
  have hc : ∀ {b : Bool} {r s : R AV}, (∀ v h', r ≠ .pan v h') → (∀ v h', s ≠ .pan v h') → (bif b then r else s) ≠ .pan v h' := by
    intro b r s h1 h2
    cases b
    · exact h2 _ _
    · exact h1 _ _
  split at hh
  · cases hh
  · split at hh
    · split at hh
      · cases hh
      · split at hh
        · cases hh
        · refine hc (fun v h' hh => ?_) (fun v h' hh => by cases hh) hh
          split at hh
          · revert hh
            generalize List.isEmpty _ = b1
            generalize decide (_ ≤ 140737488355328) = b2
            cases b1 <;> cases b2 <;> simp
          · revert hh
            generalize List.isEmpty _ = b1
            generalize decide (_ ≤ 140737488355328) = b2
            cases z <;> cases b1 <;> cases b2 <;> simp
          · split at hh
            · cases hh
            · revert hh
              generalize (_ && _ : Bool) = b1
              generalize List.isEmpty _ = b2
              cases b1 <;> cases b2 <;> simp
          · cases hh
    · cases hh

omit [Dr] in
theorem move_pure (told : Bool) (x : Operand) : ActM PureM (opMove told e gid x) := by
  unfold opMove
  split
  · trivial
  · exact ActM.cond (fun _ => ActM.cond (fun _ => trivial) (fun _ => trivial)) (fun _ => trivial)

omit [Dr] in
theorem load_class (d : Option Tmp) (t : TypeId) (p : Nat) : ActM ReadM (opLoad cx e d t p) ∧ (memO cx.ann.hl d = false → ActM PureM (opLoad cx e d t p)) := by
  unfold opLoad
  split
  · split
    · exact ⟨trivial, fun _ => trivial⟩
    · constructor
      · exact ActM.cond (fun _ => ActM.cond (fun _ => trivial) (fun _ => ActM.cond (fun _ => trivial) (fun _ => trivial))) (fun _ => trivial)
      · exact fun _ => ActM.cond (fun _ => ActM.cond (fun _ => trivial) (fun _ => ActM.cond (fun _ => trivial) (fun _ => trivial))) (fun _ => trivial)
  · cases hm : memO cx.ann.hl d with
    | true => exact ⟨loadH_read _ _ _, fun h => by cases h⟩
    | false => exact ⟨(PureM.lft _).read, fun _ => PureM.lft _⟩

omit [Dr] in
theorem loadH_app (T : TT) (t : TypeId) (x : AV) : AppM (loadH T t x) := by
  intro h s v hh
  have hk : ∀ y, (match loadA T t y with | some v => R.ok v h | none => .fail) = R.ok v h → (match loadA T t y with | some v => R.ok v (h ++ s) | none => .fail) = R.ok v (h ++ s) := by
    intro y hy
    cases hq : loadA T t y with
    | none => rw [hq] at hy; cases hy
    | some u => rw [hq] at hy; cases hy; rfl
  unfold loadH at hh ⊢
  cases x with
  | hp l off =>
    simp only at hh ⊢
    cases hT : T t with
    | none => rw [hT] at hh; cases hh
    | some ti =>
      rw [hT] at hh
      cases hl : h[l]? with
      | none => rw [hl] at hh; cases hh
      | some cs =>
        have hl' : (h ++ s)[l]? = some cs := by
          rw [List.getElem?_append]
          have := (List.getElem?_eq_some_iff.1 hl).1
          rw [if_pos this, hl]
        rw [hl] at hh
        rw [hl']
        simp only at hh ⊢
        cases hag : ti.agg with
        | true =>
          rw [hag] at hh
          simp only [cond_true] at hh ⊢
          split at hh
          · rename_i hc; cases hh; rw [if_pos hc]
          · cases hh
        | false =>
          rw [hag] at hh
          simp only [cond_false] at hh ⊢
          cases hq : cs[off]? with
          | none => rw [hq] at hh; cases hh
          | some u => rw [hq] at hh; cases hh; rfl
  | _ => exact hk _ hh

omit [Dr] in
theorem load_app (d : Option Tmp) (t : TypeId) (p : Nat) : ActM (fun m => AppM m ∧ ReadM m) (opLoad cx e d t p) := by
  unfold opLoad
  split
  · split
    · trivial
    · exact ActM.cond (fun _ => ActM.cond (fun _ => trivial) (fun _ => ActM.cond (fun _ => trivial) (fun _ => trivial))) (fun _ => trivial)
  · cases hm : memO cx.ann.hl d with
    | true => exact ⟨loadH_app _ _ _, loadH_read _ _ _⟩
    | false => exact ⟨(PureM.lft _).app, (PureM.lft _).read⟩

omit [Dr] in
theorem fzA_stay {A : Act1} (h : ActM StayM A) : ActM StayM (fzA A) := by
  cases A with
  | bad => trivial
  | stat u => intro h v h' hh; cases hh
  | dyn m sh =>
    intro x v h' hh
    simp only [Av.bnd, fzM] at hh
    cases hm : m x <;> rw [hm] at hh <;> simp at hh
    exact h _ _ _ hm
  | thr v => exact h.elim

omit [Dr] in
theorem field_pure (t p i : Nat) : ActM PureM (opField cx e t p i) := by
  unfold opField
  split
  · split
    · trivial
    · split
      · trivial
      · split
        · trivial
        · exact ActM.cond (fun _ => trivial) (fun _ => trivial)
  · exact PureM.lft _
omit [Dr] in
theorem index_pure (t p : Nat) (i : Operand) : ActM PureM (opIndexAddr cx e t p i) := by
  unfold opIndexAddr
  split
  · split
    · split
      · split
        · trivial
        · exact ActM.cond (p := PureM) (fun _ => trivial) (fun _ => trivial)
      · trivial
    · trivial
  · exact PureM.lft _

omit [Dr] in
theorem store_stay (t p : Nat) (y : Operand) : ActM StayM (opStore cx e gid t p y) := by
  have hl : ∀ o : Option AV, StayM (Av.lft o) := fun o => (PureM.lft o).read.stay
  unfold opStore
  split
  · split
    · trivial
    · refine ActM.cond (fun _ => ActM.cond (fun _ => ActM.cond (fun _ => hl _) (fun _ => trivial)) (fun _ => ActM.cond (fun _ => hl _) (fun _ => ActM.cond (fun _ => ?_) (fun _ => trivial)))) (fun _ => trivial)
      split
      · split
        · exact hl _
        · trivial
      · exact ActM.cond (fun _ => trivial) (fun _ => hl _)
  · exact storeH_stay _ _ _ _

omit [Dr] in
theorem store_pure (t p : Nat) (y : Operand) (hl : isLocE (e.get p) = true) : ActM PureM (opStore cx e gid t p y) := by
  have hl' : ∀ o : Option AV, PureM (Av.lft o) := fun o => PureM.lft o
  unfold opStore
  cases hv : (e.get p).v with
  | val a => simp [isLocE, hv] at hl
  | loc B off =>
    simp only
    split
    · trivial
    · refine ActM.cond (fun _ => ActM.cond (fun _ => ActM.cond (fun _ => hl' _) (fun _ => trivial)) (fun _ => ActM.cond (fun _ => hl' _) (fun _ => ActM.cond (fun _ => ?_) (fun _ => trivial)))) (fun _ => trivial)
      split
      · split
        · exact hl' _
        · trivial
      · exact ActM.cond (fun _ => trivial) (fun _ => hl' _)

omit [Dr] in
theorem alloc_class (s t : Nat) : ActM StayM (opAlloc cx e gid s t) ∧ (findK cx.ann.kinds s .L ≠ .H → ActM PureM (opAlloc cx e gid s t)) := by
  unfold opAlloc
  split
  · exact ⟨trivial, fun _ => trivial⟩
  · cases hk : findK cx.ann.kinds s .L with
    | F => exact ⟨trivial, fun _ => trivial⟩
    | H => exact ⟨newH_stay _, fun h => absurd rfl h⟩
    | L => exact ⟨ActM.cond (fun _ => trivial) (fun _ => trivial), fun _ => ActM.cond (fun _ => trivial) (fun _ => trivial)⟩
    | S => exact ⟨ActM.cond (fun _ => trivial) (fun _ => trivial), fun _ => ActM.cond (fun _ => trivial) (fun _ => trivial)⟩

omit [Dr] in
theorem box_class (s t : Nat) (x : Operand) : ActM StayM (opBox cx e s t x) ∧ (findK cx.ann.kinds s .F ≠ .H → ActM PureM (opBox cx e s t x)) := by
  have hl : ∀ o : Option AV, StayM (Av.lft o) := fun o => (PureM.lft o).read.stay
  unfold opBox
  cases hk : findK cx.ann.kinds s .F with
  | F => exact ⟨trivial, fun _ => trivial⟩
  | H => exact ⟨newH_stay _, fun h => absurd rfl h⟩
  | L =>
    simp only
    split
    · exact ⟨trivial, fun _ => trivial⟩
    · exact ⟨ActM.cond (fun _ => hl _) (fun _ => trivial), fun _ => ActM.cond (fun _ => PureM.lft _) (fun _ => trivial)⟩
  | S =>
    simp only
    split
    · exact ⟨trivial, fun _ => trivial⟩
    · exact ⟨ActM.cond (fun _ => hl _) (fun _ => trivial), fun _ => ActM.cond (fun _ => PureM.lft _) (fun _ => trivial)⟩

/-- What the footprint says of the heap. -/
structure Class (f : Foot) (A : Act1) : Prop where
  stay : f.piv = false → ActM StayM A
  read : f.wh = false → ActM ReadM A
  pure : f.wh = false → f.rh = false → ActM PureM A
  app : f.wh = false → ActM (fun m => AppM m ∧ ReadM m) A
  nw : f.nw = true → ActM NwM A
omit [Dr] in
theorem ActM.imp {p q : ∀ {α : Type}, M α → Prop} (hpq : ∀ {α : Type} (m : M α), p m → q m) {A : Act1} (h : ActM p A) : ActM q A := by
  cases A <;> first | trivial | exact hpq _ h | exact h
omit [Dr] in
theorem Class.of_pure {f : Foot} {A : Act1} (h : ActM PureM A) : Class f A :=
  ⟨fun _ => h.imp fun _ g => g.read.stay, fun _ => h.imp fun _ g => g.read, fun _ _ => h, fun _ => h.imp fun _ g => ⟨g.app, g.read⟩, fun _ => h.imp fun _ g => g.nw⟩
omit [Dr] in
theorem Class.of_stay {f : Foot} {A : Act1} (hw : f.wh = true) (hn : f.nw = false) (h : ActM StayM A) : Class f A :=
  ⟨fun _ => h, fun h => by (rw [hw] at h; cases h), fun h => by (rw [hw] at h; cases h), fun h => by (rw [hw] at h; cases h), fun h => by (rw [hn] at h; cases h)⟩
omit [Dr] in
theorem Class.of_piv {f : Foot} {A : Act1} (hw : f.wh = true) (h : f.piv = true) (hn : f.nw = true → ActM NwM A) : Class f A :=
  ⟨fun h' => by (rw [h] at h'; cases h'), fun h => by (rw [hw] at h; cases h), fun h => by (rw [hw] at h; cases h), fun h => by (rw [hw] at h; cases h), hn⟩

omit [Dr] in
theorem call_class (hI : IsoPure cx) {c : Call} (ho : o.op = .call c) : Class (footOf cx o) (opCall cx e gid o c) := by
  unfold opCall
  cases hc : c.callee with
  | invoke r m => exact .of_pure trivial
  | value x =>
    cases x with
    | func f =>
      simp only
      cases hfz : memO cx.ann.fz o.dst with
      | true =>
        simp only [cond_true]
        cases hq : !(cx.iso f) && !(cx.nw f) && (cx.own f).isNone with
        | false => exact .of_pure trivial
        | true =>
          simp only [Bool.and_eq_true, Bool.not_eq_true'] at hq
          exact .of_piv (by unfold footOf; rw [ho]; simp only [hc, hq.1.1, cond_false]) (by unfold footOf; rw [ho]; simp only [hc, hq.1.1, cond_false]) fun hn => by unfold footOf at hn; rw [ho] at hn; simp only [hc, hq.1.1, cond_false, hq.1.2] at hn; cases hn
      | false =>
      simp only [cond_false]
      cases hi : cx.iso f with
      | true => exact .of_pure (hI.iso f _ hi)
      | false => exact .of_piv (by unfold footOf; rw [ho]; simp only [hc, hi, cond_false]) (by unfold footOf; rw [ho]; simp only [hc, hi, cond_false]) fun hn => hI.nw f _ (by unfold footOf at hn; rw [ho] at hn; simpa only [hc, hi, cond_false] using hn)
    | _ => exact .of_piv (by unfold footOf; rw [ho]; simp only [hc]) (by unfold footOf; rw [ho]; simp only [hc]) fun hn => by unfold footOf at hn; rw [ho] at hn; simp [hc] at hn
  | builtin b =>
    cases b <;> simp only <;> (try exact .of_pure trivial)
    case clear =>
      have hw : (footOf cx o).wh = true ∧ (footOf cx o).nw = false := by unfold footOf; rw [ho]; simp only [hc]; exact ⟨trivial, trivial⟩
      split
      · exact .of_stay hw.1 hw.2 (clearH_stay _ _ _)
      · exact .of_pure trivial
    case append =>
      split
      · cases hu : isAppT cx.T _ with
        | false => exact .of_pure trivial
        | true =>
          simp only [Bool.not_true, cond_false]
          cases hha : memO cx.ann.ha o.dst with
          | true => exact .of_stay (by unfold footOf; rw [ho]; simp only [hc, hha, cond_true]) (by unfold footOf; rw [ho]; simp only [hc, hha, cond_true]) (appH_stay _ _ _ _ _)
          | false =>
            refine .of_pure ?_
            simp only [cond_false]
            refine ActM.cond (fun _ => PureM.lft _) (fun _ => ?_)
            split
            · split
              · trivial
              · split
                · trivial
                · exact ActM.cond (fun _ => PureM.lft _) (fun _ => trivial)
            · trivial
      · exact .of_pure trivial
    case len =>
      split
      · exact .of_pure (PureM.lft _)
      · exact .of_pure trivial
    case min => exact .of_pure (PureM.lft _)
    case max => exact .of_pure (PureM.lft _)

omit [Dr] in
theorem opD_class (hI : IsoPure cx) (e : Env) (gid : Nat) (o : Oper) : Class (footOf cx o) (opD cx e gid o) := by
  unfold opD
  cases ho : o.op <;> simp only <;> (try exact .of_pure (PureM.lft _)) <;> (try exact .of_pure trivial)
  case binOp => exact .of_pure (ActM.cond (fun _ => trivial) fun _ => PureM.lft _)
  case move x => exact .of_pure (move_pure _ x)
  case assign x => exact .of_pure (move_pure _ x)
  case box t x =>
    cases hd : o.dst with
    | none => exact .of_pure trivial
    | some s =>
      cases hk : findK cx.ann.kinds s .F with
      | H => exact .of_stay (by unfold footOf; rw [ho]; simp only [hd, hk]) (by unfold footOf; rw [ho]; simp only [hd, hk]) (box_class s t x).1
      | _ => exact .of_pure ((box_class s t x).2 (by rw [hk]; simp))
  case alloc t =>
    cases hd : o.dst with
    | none => exact .of_pure trivial
    | some s =>
      cases hk : findK cx.ann.kinds s .L with
      | H => exact .of_stay (by unfold footOf; rw [ho]; simp only [hd, hk]) (by unfold footOf; rw [ho]; simp only [hd, hk]) (alloc_class s t).1
      | _ => exact .of_pure ((alloc_class s t).2 (by rw [hk]; simp))
  case load t x =>
    cases x with
    | tmp p =>
      have h := load_class (cx := cx) (e := e) o.dst t p
      simp only
      cases hnl : memO cx.ann.nl o.dst && isLocE (e.get p) with
      | true => exact .of_pure trivial
      | false =>
      simp only [cond_false]
      cases hz : memO cx.ann.fz o.dst with
      | true => exact .of_stay (by unfold footOf; rw [ho]; exact hz) (by unfold footOf; rw [ho]) (fzA_stay (h.1.imp fun _ g => g.stay))
      | false => exact ⟨fun _ => h.1.imp fun _ g => g.stay, fun _ => h.1, fun _ hr => h.2 (by unfold footOf at hr; rw [ho] at hr; exact hr), fun _ => load_app o.dst t p, fun hn => by unfold footOf at hn; rw [ho] at hn; cases hn⟩
    | _ => exact .of_pure trivial
  case store t x y =>
    cases x with
    | tmp p =>
      cases hd : o.dst with
      | some d => exact .of_pure trivial
      | none =>
        simp only
        cases hlw : memN cx.ann.lw p with
        | false => exact .of_stay (by unfold footOf; rw [ho]; simp [hlw]) (by unfold footOf; rw [ho]) (by simp only [Bool.false_and, cond_false]; exact store_stay t p y)
        | true =>
          cases hlo : isLocE (e.get p) with
          | false => exact .of_pure trivial
          | true => exact .of_pure (by simp only [Bool.not_true, Bool.and_false, cond_false]; exact store_pure t p y hlo)
    | _ => exact .of_pure trivial
  case nilCheck x =>
    cases x with
    | tmp p =>
      simp only
      split
      · exact .of_pure trivial
      · exact .of_pure (PureM.lft _)
    | _ => exact .of_pure trivial
  case fieldAddr t x i => cases x <;> first | exact .of_pure (field_pure _ _ _) | exact .of_pure trivial
  case indexAddr t x i => cases x <;> first | exact .of_pure (index_pure _ _ _) | exact .of_pure trivial
  case panic x =>
    refine .of_piv ?_ ?_ ?_
    · unfold footOf; rw [ho]
    · unfold footOf; rw [ho]
    · intro hn; unfold footOf at hn; rw [ho] at hn; cases hn
  case call c => exact call_class hI ho
end
end Go.Av
