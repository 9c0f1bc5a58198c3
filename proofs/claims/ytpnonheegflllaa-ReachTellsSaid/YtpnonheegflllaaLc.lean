/- The abstract evaluator of the model and plain laws, part 3: its soundness holds for every program whose table of types is the evaluator's. No further condition. -/
import Derived.Test.YtpnonheegflllaaLb
import Derived.Test.YtpnonheegflllaaLa
import Derived.Orders

/- Append of bytes to a strings.Builder's buffer is right. Condition: the table of types is the program's. -/
namespace Go.Av
variable [Dr]
section
variable {P : Program} {cx : Cx} {c : Entry} {N : Nat} {U : Nat → Prop} {e : Env} {h : Hp} {a : Act} {w : World} {S : Stab} {β : List Blk} {γ : Nat → Value} {lam : Nat → Option Nat} {ω : Nat → Owner} {o : Oper} {gid : Nat}
omit [Dr] in
theorem bytM_inv {el : Nat} : ∀ {bs cs : List AV}, bytM el bs = some cs → ∃ ns : List Int, bs = ns.map (.int .u8) ∧ cs = ns.map (.byt el)
  | [], cs, h => by simp only [bytM, Option.some.injEq] at h; subst h; exact ⟨[], rfl, rfl⟩
  | x :: r, cs, h => by
    unfold bytM at h
    split at h
    · rename_i heq; cases heq
    · rename_i n r' heq
      obtain ⟨rfl, rfl⟩ := List.cons.inj heq
      cases hr : bytM el r with
      | none => rw [hr] at h; cases h
      | some cs' =>
        rw [hr] at h
        simp only [Option.map_some, Option.some.injEq] at h
        subst h
        obtain ⟨ns, h1, h2⟩ := bytM_inv hr
        exact ⟨n :: ns, by rw [h1]; rfl, by rw [h2]; rfl⟩
    · cases h
omit [Dr] in
theorem bytM_tag {el t : Nat} {ns : List Int} (h : InTag t (ns.map (.byt el))) : t = el := by
  obtain ⟨x, h1, h2⟩ := h
  obtain ⟨n, _, rfl⟩ := List.mem_map.1 h1
  simpa [tagOf] using h2.symm
omit [Dr] in
theorem isByt_tag {el t : Nat} {cs : List AV} (h : cs.all (isByt el) = true) (ht : InTag t cs) : t = el := by
  obtain ⟨x, h1, h2⟩ := ht
  have := List.all_eq_true.1 h x h1
  cases x <;> simp [isByt] at this
  simp [tagOf] at h2
  omega
omit [Dr] in
theorem isByt_in {el : Nat} {cs : List AV} (h : cs.all (isByt el) = true) (hn : 0 < cs.length) : InTag el cs := by
  cases cs with
  | nil => simp at hn
  | cons x cs =>
    have := List.all_eq_true.1 h x (by simp)
    cases x <;> simp [isByt] at this
    subst this
    exact ⟨_, List.mem_cons_self, rfl⟩
omit [Dr] in
theorem bytM_ok (ns : List Int) : okSz 1 (ns.map (.int .u8)) = true := by
  unfold okSz
  rw [List.all_eq_true]
  intro x hx
  obtain ⟨n, _, rfl⟩ := List.mem_map.1 hx
  rfl
omit [Dr] in
theorem bytM_flat : ∀ (ns : List Int), (ns.map (AV.int .u8)).flatMap acells = ns.map (.int .u8)
  | [] => rfl
  | n :: ns => by simp only [List.map_cons, List.flatMap_cons, bytM_flat ns]; rfl
omit [Dr] in
theorem bytM_vr {el : Nat} : ∀ {ns : List Int} {vs : List Value}, VRs S β (ns.map (.int .u8)) vs → VRs S β (ns.map (.byt el)) vs
  | [], vs, h => by simpa [VRs] using h
  | n :: ns, vs, h => by
    simp only [List.map_cons, VRs, VR] at h ⊢
    obtain ⟨y, ys, rfl, hy, h⟩ := h
    exact ⟨y, ys, rfl, hy, bytM_vr h⟩
theorem appB_op (hT : TOK P cx.T) (H : FR c N U e h a w S β γ lam ω) (hd : ∀ t, o.dst = some t → t < N) {t u : TypeId} {x y : Operand} {cc : Call} (ho : o.op = .call cc) (hb : cc.callee = .builtin .append)
    (hts : cc.argTypes.toList = [t, u]) (hxs : cc.args.toList = [x, y]) (hx : ∀ t, x = .tmp t → t < 1000) (hy : ∀ t, y = .tmp t → t < 1000) (hu : isAppT cx.T u = true)
    (hr : runAct e o.dst (.dyn (appB cx.T t (opnd e x) (opnd e y)) .ofV) h ≠ .fail) : After P c N (UG U gid) (runAct e o.dst (.dyn (appB cx.T t (opnd e x) (opnd e y)) .ofV) h) o a w := by
  have hvx := opnd_ok H x hx
  have hvy := opnd_ok H y hy
  simp only [runAct, bnd, M.pure] at hr ⊢
  generalize hX : opnd e x = X at hr hvx ⊢
  unfold appB at hr ⊢
  cases ht : cx.T t with
  | none => rw [ht] at hr; exact absurd rfl hr
  | some ti =>
    rw [ht] at hr
    simp only at hr ⊢
    cases hk : ti.kind <;> rw [hk] at hr <;> simp only at hr ⊢ <;> (try exact absurd rfl hr)
    rename_i el
    cases hei : cx.T el with
    | none => rw [hei] at hr; exact absurd rfl hr
    | some ei =>
      rw [hei] at hr
      simp only at hr ⊢
      cases hc : (Nat.beq ei.size 1 && Nat.beq ei.bytes 1 && !ei.agg) with
      | false => rw [hc] at hr; exact absurd rfl hr
      | true =>
        rw [hc] at hr
        simp only [cond_true] at hr ⊢
        simp only [Bool.and_eq_true, Bool.not_eq_true'] at hc
        obtain ⟨⟨h1, h2⟩, hag⟩ := hc
        have h1 := Nat.eq_of_beq_eq_true h1
        have h2 := Nat.eq_of_beq_eq_true h2
        cases hels : elsOf (opnd e y) with
        | none => rw [hels] at hr; exact absurd rfl hr
        | some bs =>
          rw [hels] at hr
          simp only at hr ⊢
          cases hbm : bytM el bs with
          | none => rw [hbm] at hr; exact absurd rfl hr
          | some cs' =>
            rw [hbm] at hr
            simp only at hr ⊢
            obtain ⟨ns, rfl, rfl⟩ := bytM_inv hbm
            have hok : okSz ei.size (ns.map (AV.int .u8)) = true := by rw [h1]; exact bytM_ok ns
            obtain ⟨hlen, news, hflat, hfirst⟩ := src_ok (P := P) H.wf hels hvy hok (fun _ _ => h1)
            obtain ⟨hfl, hfv⟩ := flat_of_FlatEls hflat hok
            rw [bytM_flat] at hfl hfv
            have hfb : VRs S β (ns.map (.byt el)) news := bytM_vr hfv
            have hnl : news.length = ns.length := by have := hfb.length; simpa using this
            have hfirst' : ∀ w' : World, (∀ a : Addr, w'.cell? a = w.cell? a) → (Builtin.firstCells ei.size (ns.map (AV.int .u8)).length (a.eval y)).run P w' = .ok news.toArray w' := fun w' hw' =>
              hfirst w' (fun b o x hx => by rw [hw']; exact H.wf b o x hx)
            have hb0 : 0 < ei.bytes := by omega
            by_cases hXn : X = .hn
            · subst hXn
              simp only at hr ⊢
              simp only [VR] at hvx
              cases hbe : (ns.map (AV.int .u8)).isEmpty with
              | true =>
                have hbs : ns = [] := by simpa using hbe
                subst hbs
                simp only [cond_true]
                obtain ⟨v, w', hrun, hA⟩ := append_raw (ty := o.type) hT ht hk hei hu (n0 := 0) (olds := []) ⟨none, 0, hvx⟩ hlen hfirst' (fun w' _ => by rw [hvx]; simp [Builtin.firstCells]) (by simp) hflat.1 hflat.2.2 (by simp) hb0
                  (by rw [hvx]; exact ⟨none, 0, 0, rfl, Nat.le_refl _, fun _ => rfl, .inl rfl⟩)
                cases hA with
                | same _ => exact After.val (append_exec ho hb hts hxs hrun) (Sat.up ⟨S, β, γ, lam, ω, H.setV hd (by simp only [VR]; exact hvx)⟩)
                | place _ _ _ _ _ _ _ _ hn => exact absurd rfl hn
                | fresh _ _ _ _ _ _ hn => exact absurd rfl hn
              | false =>
                rw [hbe] at hr
                simp only [cond_false] at hr ⊢
                cases hby : decide ((ns.map (AV.int .u8)).length ≤ 140737488355328) with
                | false => rw [hby] at hr; exact absurd rfl hr
                | true =>
                  simp only [cond_true]
                  have hne : (ns.map (AV.int .u8)).length ≠ 0 := by
                    intro h0
                    rw [List.eq_nil_of_length_eq_zero h0] at hbe
                    cases hbe
                  obtain ⟨v, w', hrun, hA⟩ := append_raw (ty := o.type) hT ht hk hei hu (n0 := 0) (olds := []) ⟨none, 0, hvx⟩ hlen hfirst' (fun w' _ => by rw [hvx]; simp [Builtin.firstCells]) (by simp) hflat.1 hflat.2.2 (by rw [h2]; simpa using of_decide_eq_true hby) hb0
                    (by rw [hvx]; exact ⟨none, 0, 0, rfl, Nat.le_refl _, fun _ => rfl, .inl rfl⟩)
                  cases hA with
                  | same h0 => exact absurd h0 hne
                  | place b off cap z hv _ _ _ _ => rw [hvx] at hv; cases hv
                  | fresh z te cap hlt hzc hzr hn hte =>
                    subst hte
                    rw [h1, Nat.mul_one] at hzc
                    obtain ⟨ω', F, hnew, hext⟩ := (H.drew).newH z te (cs := ns.map (.byt te)) (by
                      refine .of_get ?_ fun i q v hq hv => ?_
                      · rw [List.length_take]
                        apply Nat.min_eq_left
                        have hz' : z.toList.length = cap := by simpa using hzc
                        simp only [List.length_map] at hlt ⊢
                        omega
                      · obtain ⟨v', h1', h2'⟩ := hfb.get hq
                        have := hzr i v' (by simpa using h1')
                        rw [List.getElem?_take] at hv
                        split at hv
                        · rw [Array.getElem?_toList, this] at hv; cases hv; exact h2'
                        · simp at hv) (fun t ht => bytM_tag ht)
                    have hnew' : (β ++ [(w.drew.heap.size, z.size)])[h.length]? = some (w.heap.size, z.size) := hnew
                    refine After.val (append_exec ho hb hts hxs hrun) (Sat.up ⟨_, _, γ, lam, ω', F.setV hd ?_⟩)
                    simp only [VR]
                    have hz0 : z.size ≠ 0 := by omega
                    exact .inl ⟨(w.heap.size, z.size), cap, hnew', hz0, by simp, by omega, by simp [hzc]⟩
            · -- a row of the heap
              cases X with
              | hs l off len sz ag =>
                cases off with
                | succ k => exact absurd rfl hr
                | zero =>
                  by_cases hsa : sz = 1 ∧ ag = false
                  case neg =>
                    refine absurd ?_ hr
                    rcases sz with _ | _ | sz
                    · rfl
                    · cases ag
                      · exact absurd ⟨rfl, rfl⟩ hsa
                      · rfl
                    · rfl
                  obtain ⟨rfl, rfl⟩ := hsa
                  simp only at hr ⊢
                  cases hcs : h[l]? with
                  | none => rw [hcs] at hr; exact absurd rfl hr
                  | some cs =>
                    rw [hcs] at hr
                    simp only at hr ⊢
                    cases hc2 : (cs.all (isByt el) && decide (len ≤ cs.length) && decide (0 < len) && decide (len + (ns.map (AV.int .u8)).length ≤ 140737488355328)) with
                    | false => rw [hc2] at hr; exact absurd rfl hr
                    | true =>
                      simp only [cond_true]
                      simp only [Bool.and_eq_true, decide_eq_true_eq] at hc2
                      obtain ⟨⟨⟨k3, k4⟩, k5⟩, k6⟩ := hc2
                      have hvx0 := hvx
                      have hne : cs ≠ [] := by
                        rintro rfl
                        simp at k4
                        omega
                      have hl : l < h.length := by
                        rcases Nat.lt_or_ge l h.length with h' | h'
                        · exact h'
                        · rw [List.getElem?_eq_none h'] at hcs; simp at hcs
                      simp only [VR] at hvx
                      rcases hvx with ⟨⟨b, nb⟩, cap, hβ, hb0', hvx, hlc, hcn⟩ | ⟨h00, q, hvx⟩
                      · obtain ⟨z, j1, j2, j3, j4, j5⟩ := H.heap.cells hcs hne hβ hb0'
                        rw [hβ] at j1
                        simp only [Option.some.injEq, Prod.mk.injEq, true_and] at j1
                        subst j1
                        have hzs : cs.length ≤ z.size := by have := j4.length; simp at this; omega
                        have hol : (z.toList.take len).length = len := by simp; omega
                        have j6 : VRs S β (cs.take len) (z.toList.take len) := by
                          have := j4.take len
                          rw [List.take_take, Nat.min_eq_left k4] at this
                          exact this
                        have hcl : (cs.take len).length = len := by simp; omega
                        have hold : ∀ w' : World, (∀ a : Addr, w'.cell? a = w.cell? a) → (Builtin.firstCells ei.size len (a.eval x)).run P w' = .ok (z.toList.take len).toArray w' := fun w' hw' => by
                          rw [hvx, h1]
                          refine run_firstCells_some w' 1 len ⟨b, 0, none⟩ len cap _ (by rw [hol, Nat.mul_one]) fun j q hq => ?_
                          rw [addr_add, Nat.zero_add, hw', j2.cell]
                          rw [List.getElem?_take] at hq
                          split at hq
                          · simpa using hq
                          · simp at hq
                        have hroom : RoomOf w ei.size (a.eval x) := ⟨_, len, cap, hvx, hlc, (fun h => by cases h), .inr ⟨b, 0, z, rfl, j2, by rw [h1]; exact hcn⟩⟩
                        obtain ⟨v, w', hrun, hA⟩ := append_raw (ty := o.type) hT ht hk hei hu (n0 := len) (olds := z.toList.take len) ⟨_, cap, hvx⟩ hlen hfirst' hold (by rw [h1, Nat.mul_one]; exact hol) hflat.1 hflat.2.2 (by rw [h2, Nat.mul_one]; exact k6) hb0 hroom
                        have hexec := append_exec ho hb hts hxs hrun
                        have hnb : ∀ t, InTag t (cs.take len ++ ns.map (.byt el)) → t = el := fun t ht => by
                          rcases ht.append with ht | ht
                          · exact isByt_tag k3 (ht.mono fun a => List.mem_of_mem_take)
                          · exact bytM_tag ht
                        cases hA with
                        | same h0 =>
                          have hbs : ns = [] := by simpa using h0
                          subst hbs
                          exact After.val hexec (Sat.up ⟨S, β, γ, lam, ω, H.setV hd hvx0⟩)
                        | place b2 off2 cap2 z2 hv2 hr2 hlt2 hc2' hn2 =>
                          have hbe : (ns.map (AV.int .u8)).isEmpty = false := by cases ns <;> simp_all
                          rw [hbe]
                          simp only [cond_false]
                          rw [hvx] at hv2
                          simp only [Value.slice.injEq, Option.some.injEq, Addr.mk.injEq] at hv2
                          obtain ⟨⟨rfl, rfl, _⟩, _, rfl⟩ := hv2
                          cases j2.inj hr2
                          rw [h1, Nat.mul_one] at hexec
                          rw [Nat.mul_one] at hcn
                          have hlt3 : len + ns.length ≤ cap := by simpa using hlt2
                          have hysz : (z.toList.take (0 + len) ++ news ++ z.toList.drop (0 + len + news.length)).toArray.size = z.size := by simp; omega
                          have hyv : VRs S β (cs.take len ++ ns.map (.byt el)) ((z.toList.take (0 + len) ++ news ++ z.toList.drop (0 + len + news.length)).toArray.toList.take (cs.take len ++ ns.map (AV.byt el)).length) := by
                            have hl1 : (z.toList.take (0 + len) ++ news).length = (cs.take len ++ ns.map (AV.byt el)).length := by
                              rw [List.length_append, List.length_append, Nat.zero_add, hol, hcl, hnl, List.length_map]
                            show VRs S β _ (List.take _ (z.toList.take (0 + len) ++ news ++ z.toList.drop (0 + len + news.length)))
                            rw [List.take_left' hl1, Nat.zero_add]
                            exact j6.append hfb
                          have hne2 : cs.take len ++ ns.map (AV.byt el) ≠ [] := by
                            intro h0
                            have := congrArg List.length h0
                            rw [List.length_append, hcl] at this
                            simp at this
                            omega
                          have F1 := H.turnH hcs hne ⟨_, hβ⟩ j2 hysz hyv (fun t ht => by rw [hnb t ht]; exact isByt_in k3 (by omega))
                          have hcs1 : (h.set l (cs.take len ++ ns.map (.byt el)))[l]? = some (cs.take len ++ ns.map (.byt el)) := by simp [hl]
                          obtain ⟨ω', F2, hnew, hext⟩ := F1.moveH hcs1 hne2 ⟨_, hβ⟩ j2.setRow hyv (fun t ht => ht)
                          have hset : (h.set l (cs.take len ++ ns.map (.byt el))).set l [] = h.set l [] := by simp
                          rw [hset] at F2
                          rw [List.length_set] at hnew
                          refine After.val hexec (Sat.up ⟨_, _, γ, lam, ω', F2.setV hd ?_⟩)
                          simp only [VR]
                          exact .inl ⟨_, cap, hnew, by simp only; rw [hysz]; exact hb0', rfl, hlt2, by simp only; rw [hysz, Nat.mul_one]; exact hcn⟩
                        | fresh z2 te cap2 hlt2 hzc hzr hn2 hte =>
                          subst hte
                          have hbe : (ns.map (AV.int .u8)).isEmpty = false := by cases ns <;> simp_all
                          rw [hbe]
                          simp only [cond_false]
                          rw [h1, Nat.mul_one] at hzc
                          have F1 := (H.drew).killH l
                          obtain ⟨ω', F2, hnew, hext⟩ := F1.newH z2 te (cs := cs.take len ++ ns.map (.byt te)) (by
                            refine .of_get ?_ fun i q v hq hv => ?_
                            · rw [List.length_take, List.length_append, hcl]
                              apply Nat.min_eq_left
                              have hz' : z2.toList.length = cap2 := by simpa using hzc
                              simp only [List.length_map] at hlt2 ⊢
                              omega
                            · obtain ⟨v', h1', h2'⟩ := (j6.append hfb).get hq
                              have := hzr i v' h1'
                              rw [List.getElem?_take] at hv
                              split at hv
                              · rw [Array.getElem?_toList, this] at hv; cases hv; exact h2'
                              · simp at hv) (fun t ht => hnb t ht)
                          rw [List.length_set] at hnew
                          have hnew' : (β ++ [(w.drew.heap.size, z2.size)])[h.length]? = some (w.heap.size, z2.size) := hnew
                          refine After.val hexec (Sat.up ⟨_, _, γ, lam, ω', F2.setV hd ?_⟩)
                          simp only [VR]
                          have hz0 : z2.size ≠ 0 := by simp only [List.length_map] at hlt2; omega
                          exact .inl ⟨(w.heap.size, z2.size), cap2, hnew', hz0, rfl, hlt2, by simp [hzc]⟩
                      · omega
              | hn => exact absurd rfl hXn
              | _ => exact absurd rfl hr
end
end Go.Av

/- clear on a slice in the heap. Conditions: the table of types is the program's. -/
namespace Go.Av
variable [Dr]
section
variable {P : Program} {cx : Cx} {c : Entry} {N : Nat} {U : Nat → Prop} {e : Env} {h : Hp} {a : Act} {w : World} {S : Stab} {β : List Blk} {γ : Nat → Value} {lam : Nat → Option Nat} {ω : Nat → Owner} {o : Oper} {gid : Nat}
omit [Dr] in
theorem oneCells {cs : List AV} {vs : List Value} (h : VRs S β cs vs) (ho : cs.all okCell = true) : ∀ y ∈ vs, y.oneCell' = true := by
  induction cs generalizing vs with
  | nil => simp [VRs] at h; subst h; intro y hy; simp at hy
  | cons x cs ih =>
    simp only [VRs] at h
    obtain ⟨v, r, rfl, h1, h2⟩ := h
    simp only [List.all_cons, Bool.and_eq_true] at ho
    intro y hy
    rcases List.mem_cons.1 hy with rfl | hy
    · exact (okCell_ok ho.1 h1).2
    · exact ih h2 ho.2 y hy
theorem FR.putH (H : FR c N U e h a w S β γ lam ω) {l off b nb : Nat} {cs acs : List AV} {vs : List Value} (hcs : h[l]? = some cs) (hne : cs ≠ []) (hb : β[l]? = some (b, nb)) (hb0 : nb ≠ 0) (hvs : VRs S β acs vs) (hle : off + acs.length ≤ cs.length) (htag : ∀ t, ¬ InTag t acs) :
    ∃ z, Row w b z ∧ cs.length ≤ z.size ∧ FR c N U e (h.set l (setCells cs off acs)) a (w.setRow b (z.toList.take off ++ vs ++ z.toList.drop (off + vs.length)).toArray) S β γ lam ω := by
  obtain ⟨z, j1, j2, j3, j4, j5⟩ := H.heap.cells hcs hne hb hb0
  rw [hb] at j1; cases j1
  have hvl := hvs.length
  have hzs : cs.length ≤ z.size := by
    have := j4.length
    simp at this
    omega
  refine ⟨z, j2, hzs, H.turnH hcs hne ⟨_, hb⟩ j2 (by simp; omega) ?_ (fun t ht => ht.setCells.resolve_right (htag t))⟩
  rw [setCells_length _ _ _ (by omega)]
  have hsp : VRs S β (setCells cs off acs) (((z.toList.take cs.length).take off ++ vs ++ (z.toList.take cs.length).drop (off + vs.length))) := by
    unfold setCells
    rw [hvl]
    exact ((j4.take off).append hvs).append (j4.drop _)
  have heq : (z.toList.take off ++ vs ++ z.toList.drop (off + vs.length)).take cs.length =
      (z.toList.take cs.length).take off ++ vs ++ (z.toList.take cs.length).drop (off + vs.length) := by
    rw [List.take_append, List.take_append]
    have e1 : (z.toList.take off).length = off := by simp; omega
    rw [List.take_take, List.take_take]
    have e2 : min cs.length off = off := by omega
    have e3 : min off cs.length = off := by omega
    rw [e2, e3, e1]
    have e4 : vs.take (cs.length - off) = vs := List.take_of_length_le (by omega)
    rw [e4]
    congr 1
    rw [List.take_drop, List.length_append, e1]
    congr 2
    omega
  show VRs S β _ (List.take _ _)
  rw [show (z.toList.take off ++ vs ++ z.toList.drop (off + vs.length)).toArray.toList = (z.toList.take off ++ vs ++ z.toList.drop (off + vs.length)) from rfl, heq]
  exact hsp
omit [Dr] in
theorem zeroCells_list (z : Array Value) (n : Nat) : (Builtin.zeroCells z n).toList = (List.replicate n z.toList).flatten := by
  induction n with
  | zero => simp [Builtin.zeroCells]
  | succ n ih =>
    rw [List.replicate_succ', List.flatten_append, ← ih]
    unfold Builtin.zeroCells
    apply List.ext_getElem
    · simp [Nat.succ_mul]
    · intro i h1 h2
      simp only [Array.length_toList, Array.size_map, Array.size_range] at h1
      simp only [Array.toList_map, Array.toList_range, List.getElem_map, List.getElem_range, List.flatten_cons, List.flatten_nil, List.append_nil]
      by_cases hi : i < n * z.size
      · rw [List.getElem_append_left (by simpa using hi)]
        simp
      · rw [List.getElem_append_right (by simpa using hi)]
        rw [Nat.succ_mul] at h1
        have hm : i % z.size = i - n * z.size := by
          rw [show i = (i - n * z.size) + n * z.size by omega, Nat.add_mul_mod_self_right, Nat.mod_eq_of_lt (by omega)]
          omega
        simp [hm, getElem!_pos z (i - n * z.size) (by omega)]
omit [Dr] in
theorem VRs_rep {cs : List AV} {vs : List Value} (h : VRs S β cs vs) : ∀ n, VRs S β (List.replicate n cs).flatten (List.replicate n vs).flatten
  | 0 => by simp [VRs]
  | n + 1 => by
    simp only [List.replicate_succ, List.flatten_cons]
    exact h.append (VRs_rep h n)
theorem clear_op (hT : TOK P cx.T) (H : FR c N U e h a w S β γ lam ω) (hd : ∀ t, o.dst = some t → t < N) {cc : Call} (ho : o.op = .call cc) (hcal : cc.callee = .builtin .clear) {t : TypeId} {ts : List TypeId} {x : Operand} {xs : List Operand}
    (hts : cc.argTypes.toList = t :: ts) (hxs : cc.args.toList = x :: xs) (hx : ∀ t, x = .tmp t → t < 1000)
    (hr : runAct e o.dst (.dyn (clearH cx.T t (opnd e x)) .ofV) h ≠ .fail) : After P c N (UG U gid) (runAct e o.dst (.dyn (clearH cx.T t (opnd e x)) .ofV) h) o a w := by
  have hxv := opnd_ok H x hx
  have h1 : cc.argTypes = (t :: ts).toArray := by apply Array.ext'; simpa using hts
  have h2 : cc.args.map a.eval = (a.eval x :: xs.map a.eval).toArray := by
    apply Array.ext'
    simp [hxs]
  have hexec : ∀ w', (Builtin.clear_ cc.argTypes o.type (cc.args.map a.eval)).run P w = .ok (.tuple #[]) w' → (execOp a.eval o).run P w = .ok (.value (.tuple #[])) w' := fun w' hh => by
    simp only [execOp, ho, resolve, hcal, invoke, builtin, pure_bind, Sem.run_bind, hh, Result.andThen_ok, Sem.run_pure]
  simp only [runAct, bnd] at hr ⊢
  unfold clearH at hr ⊢
  cases ht : cx.T t with
  | none => rw [ht] at hr; exact absurd rfl hr
  | some ti =>
    rw [ht] at hr
    simp only at hr ⊢
    cases hk : ti.kind <;> rw [hk] at hr <;> (try exact absurd rfl hr)
    rename_i el
    simp only at hr ⊢
    cases hel : cx.T el with
    | none => rw [hel] at hr; exact absurd rfl hr
    | some ei =>
      rw [hel] at hr
      simp only at hr ⊢
      have hti := hT.get ht
      obtain ⟨ii, d, z, hii, hdd, hzz, _, _, _, hkd, _⟩ := hti.ex
      have hdsl : d = .slice el := by
        rw [hk] at hkd
        cases d <;> simp_all [kindOf]
      subst hdsl
      obtain ⟨ie, de, ze, hie, _, hze, hzs, hsz, _⟩ := (hT.get hel).ex
      have hzr : ∀ w : World, (zeroValue el).run P w = .ok ze w := fun w => by simp [zeroValue, typeInfo, hie, hze]
      have h0 := zerosOf_ok (S := S) (β := β) hT hel false hie hze
      have h0' : VRs S β ei.zero ze.cells.toList := h0
      have hupd : ∀ E : Env, ∀ d, Sat c N (UG U gid) (E.upd d (.ofV (.tup []))) h a w → True := fun _ _ _ => trivial
      have hbase : ∀ a' n cap, a.eval x = .slice a' n cap → (n = 0 ∨ a' = none) → (Builtin.clear_ cc.argTypes o.type (cc.args.map a.eval)).run P w = .ok (.tuple #[]) w := by
        intro a' n cap he h3
        rw [h1, h2, he]
        rcases h3 with rfl | rfl
        · cases a' <;> simp [Builtin.clear_, run_underlying hdd]
        · simp [Builtin.clear_, run_underlying hdd]
      generalize hq : opnd e x = q at hr hxv ⊢
      cases q <;> (try exact absurd rfl hr)
      case sl es =>
        cases es with
        | cons y ys => exact absurd rfl hr
        | nil =>
          simp only [VR] at hxv
          obtain ⟨a', cap, he, _⟩ := hxv
          have he' : a.eval x = .slice a' 0 cap := by simpa using he
          exact After.val (v := .tuple #[]) (hexec w (hbase a' 0 cap he' (.inl rfl))) (Sat.up ⟨_, _, _, _, _, H.setV hd (by simp [VR, VRs])⟩)
      case hs l off len sz ag =>
        simp only at hr ⊢
        cases hcs : h[l]? with
        | none => rw [hcs] at hr; exact absurd rfl hr
        | some cs =>
          rw [hcs] at hr
          simp only at hr ⊢
          cases hcond : (Nat.beq sz ei.size && decide (off + len * sz ≤ cs.length) && decide (0 < len) && decide (0 < sz) && ei.zero.all okCell) with
          | false => rw [hcond] at hr; exact absurd rfl hr
          | true =>
            rw [hcond] at hr
            simp only [cond_true] at hr ⊢
            simp only [Bool.and_eq_true, decide_eq_true_eq] at hcond
            obtain ⟨⟨⟨⟨k1, k2⟩, k3⟩, k4⟩, k5⟩ := hcond
            have k1' := Nat.eq_of_beq_eq_true k1
            obtain ⟨⟨b, nb⟩, cap, hb, hb0, he, hlc, hfit⟩ := hxv.hs_pos k3
            have hzl : ei.zero.length = sz := by
              have := h0'.length
              simp at this
              omega
            have hpos : 0 < len * sz := Nat.mul_pos k3 k4
            have hne : cs ≠ [] := by rintro rfl; simp at k2; omega
            have hrl : (List.replicate len ei.zero).flatten.length = len * sz := by simp [hzl]
            obtain ⟨z', j1, j2, F⟩ := H.putH (off := off) hcs hne hb hb0 (VRs_rep h0' len) (by rw [hrl]; omega) (fun t ht => by
              obtain ⟨a, ht, hta⟩ := ht
              simp only [List.mem_flatten] at ht
              obtain ⟨l', hl', ht⟩ := ht
              rw [List.eq_of_mem_replicate hl'] at ht
              exact nob_cells k5 t ⟨a, ht, hta⟩)
            have hone : ∀ y ∈ (List.replicate len ze.cells.toList).flatten, y.oneCell' = true := by
              intro y hy
              simp only [List.mem_flatten] at hy
              obtain ⟨l', hl', hy⟩ := hy
              rw [List.eq_of_mem_replicate hl'] at hy
              exact oneCells h0' k5 y hy
            obtain ⟨te, hrow⟩ := j1
            have hvl : (List.replicate len ze.cells.toList).flatten.length = len * sz := by
              have := (VRs_rep h0' len).length
              omega
            have hst := run_storeCells_at P b off te (List.replicate len ze.cells.toList).flatten 0 z' w hrow (by omega) hone
            simp only [Nat.add_zero] at hst
            refine After.val (v := .tuple #[]) (hexec _ ?_) (Sat.up ⟨_, _, _, _, _, F.setV hd (by simp [VR, VRs])⟩)
            rw [h1, h2, he]
            obtain ⟨m, rfl⟩ : ∃ m, len = m + 1 := ⟨len - 1, by omega⟩
            simp [Builtin.clear_, run_underlying hdd, hzr, zeroCells_list, hst]
end
end Go.Av

/- What the operations of the abstract evaluator read and write. No condition. -/
namespace Go.Av
variable [Dr]
def ActAll (p : Upd → Prop) : Act1 → Prop
  | .bad => True
  | .stat u => p u
  | .dyn _ sh => ∀ v, p (sh v)
  | .thr _ => True
omit [Dr] in
theorem ActAll.cond {p : Upd → Prop} {b : Bool} {x y : Act1} (h1 : b = true → ActAll p x) (h2 : b = false → ActAll p y) : ActAll p (bif b then x else y) := by
  cases b with
  | true => exact h1 rfl
  | false => exact h2 rfl
structure Shape (e : Env) (gid : Nat) (f : Foot) (ss : Option Nat) (u : Upd) : Prop where
  ls : f.wl = false → u.ls = []
  lb : f.wl = false → u.lb = none
  unlb : f.wl = false → u.unlb = none
  add : f.wl = false → ∀ x ∈ u.add, x.1 = gid
  noad : f.ad = false → u.add = []
  nodr : f.dr = false → u.drop = none
  loc : f.wl = false → ∀ C off, u.ent.v = .loc C off → ∃ t off', (e.get t).v = .loc C off'
  keys : ∀ x ∈ u.ls, 1000 ≤ x.1 ∨ ss = some x.1
omit [Dr] in
theorem Shape.ofV (e : Env) (gid : Nat) (f : Foot) (ss : Option Nat) (a : AV) : Shape e gid f ss (.ofV a) :=
  ⟨fun _ => rfl, fun _ => rfl, fun _ => rfl, fun _ x h => by simp [Upd.ofV] at h, fun _ => rfl, fun _ => rfl, fun _ C off h => by simp [Upd.ofV] at h, fun x h => by simp [Upd.ofV] at h⟩
omit [Dr] in
theorem Shape.own (e : Env) (gid : Nat) (f : Foot) (ss : Option Nat) (a : AV) (z : Option Nat) (h : f.ad = true) : Shape e gid f ss (.own a gid z) :=
  ⟨fun _ => rfl, fun _ => rfl, fun _ => rfl, fun _ x h => by simp [Upd.own] at h; rw [h], fun h' => by (rw [h] at h'; cases h'), fun _ => rfl, fun _ C off h => by simp [Upd.own] at h, fun x h => by simp [Upd.own] at h⟩
omit [Dr] in
theorem Shape.ent (e : Env) (gid : Nat) (f : Foot) (ss : Option Nat) (x : Ent) (h : ∀ C off, x.v = .loc C off → ∃ t off', (e.get t).v = .loc C off') : Shape e gid f ss { ent := x } :=
  ⟨fun _ => rfl, fun _ => rfl, fun _ => rfl, fun _ x h => by simp at h, fun _ => rfl, fun _ => rfl, fun _ C off h' => h C off h', fun x h => by simp at h⟩
omit [Dr] in
theorem Shape.get (e : Env) (gid : Nat) (f : Foot) (ss : Option Nat) (t : Nat) : Shape e gid f ss { ent := e.get t } := .ent _ _ _ _ _ fun _ off h => ⟨t, off, h⟩
omit [Dr] in
theorem keys_lsOf {B n gid : Nat} {cs : List AV} {offs : List Nat} (hB : 1000 ≤ B) : ∀ x ∈ lsOf B cs offs gid n, 1000 ≤ x.1 := by
  intro x hx
  unfold lsOf at hx
  simp only [List.mem_map] at hx
  obtain ⟨i, _, rfl⟩ := hx
  simp only
  omega
omit [Dr] in
theorem gsOf_nil {offs : List Nat} {gid : Nat} (h : offs.isEmpty = true) : gsOf offs gid = [] := by
  have : offs = [] := by simpa using h
  subst this; rfl
variable {cx : Cx} {e : Env} {gid : Nat} {o : Oper}
omit [Dr] in
theorem move_shape (told : Bool) (x : Operand) (f : Foot) (hf : f.ad = isNilConst x) : ActAll (Shape e gid f none) (opMove told e gid x) := by
  unfold opMove
  split
  · exact Shape.get ..
  · cases h : isNilConst x with
    | true =>
      cases told with
      | true => exact Shape.ofV ..
      | false => exact Shape.own _ _ _ _ _ _ (by rw [hf, h])
    | false => exact Shape.ofV ..
omit [Dr] in
theorem inLb_inv {e : Env} {B off n : Nat} (h : inLb e B off n = true) : ∃ m, lbSize e.lb B = some m ∧ off + n ≤ m ∧ 1000 ≤ B := by
  unfold inLb at h
  split at h
  · rename_i m hm; simp at h; exact ⟨m, hm, h.1, h.2⟩
  · simp at h
omit [Dr] in
theorem load_shape (d : Option Tmp) (t : TypeId) (p : Nat) (f : Foot) : ActAll (Shape e gid f none) (opLoad cx e d t p) := by
  unfold opLoad
  split
  · split
    · trivial
    · cases inLb e _ _ _ with
      | false => trivial
      | true =>
        simp only [cond_true]
        rename_i ti _
        cases ti.agg with
        | true => exact Shape.ofV ..
        | false =>
          simp only [cond_false]
          cases decide (ti.size = 1) with
          | true => exact Shape.get ..
          | false => trivial
  · cases memO cx.ann.hl d with
    | true => exact fun v => Shape.ofV ..
    | false => exact fun v => Shape.ofV ..
omit [Dr] in
theorem Shape.wl {e : Env} {gid : Nat} {f : Foot} {ss : Option Nat} {u : Upd} (hw : f.wl = true) (h1 : f.ad = false → u.add = []) (h2 : u.drop = none) (h3 : ∀ x ∈ u.ls, 1000 ≤ x.1 ∨ ss = some x.1) : Shape e gid f ss u :=
  ⟨fun h => by (rw [hw] at h; cases h), fun h => by (rw [hw] at h; cases h), fun h => by (rw [hw] at h; cases h), fun h => by (rw [hw] at h; cases h), h1, fun _ => h2, fun h => by (rw [hw] at h; cases h), h3⟩
omit [Dr] in
theorem store_shape (t p : Nat) (y : Operand) (f : Foot) (hw : f.wl = true) (ha : f.ad = (!(findN cx.ann.nils p).isEmpty || isNilConst y)) : ActAll (Shape e gid f (some p)) (opStore cx e gid t p y) := by
  unfold opStore
  split
  · rename_i B off _
    split
    · trivial
    · rename_i ti _
      cases hlb : inLb e B off ti.size with
      | false => trivial
      | true =>
        obtain ⟨m, _, _, hB⟩ := inLb_inv hlb
        simp only [cond_true]
        cases isS (findK cx.ann.kinds p .L) with
        | true =>
          simp only [cond_true]
          cases wholeB e B off p ti.size with
          | false => trivial
          | true =>
            simp only [cond_true]
            exact fun v => Shape.wl hw (fun _ => rfl) rfl (fun x hx => by simp at hx; exact .inr (by rw [hx]))
        | false =>
          simp only [cond_false]
          cases ti.agg with
          | true =>
            simp only [cond_true]
            refine fun v => Shape.wl hw (fun h => ?_) rfl (fun x hx => .inl (keys_lsOf (by omega) x hx))
            rw [ha] at h
            simp only [Bool.or_eq_false_iff, Bool.not_eq_false'] at h
            exact gsOf_nil h.1
          | false =>
            simp only [cond_false]
            cases decide (ti.size = 1) with
            | false => trivial
            | true =>
              simp only [cond_true]
              split
              · split
                · exact fun v => Shape.wl hw (fun _ => rfl) rfl (fun x hx => by simp at hx; rw [hx]; exact .inl (by simp only; omega))
                · trivial
              · cases hn : isNilConst y with
                | true =>
                  refine Shape.wl hw (fun h => ?_) rfl (fun x hx => by simp at hx; rw [hx]; exact .inl (by simp only; omega))
                  rw [ha, hn] at h
                  simp at h
                | false => exact fun v => Shape.wl hw (fun _ => rfl) rfl (fun x hx => by simp at hx; rw [hx]; exact .inl (by simp only; omega))
  · exact fun v => Shape.ofV ..
omit [Dr] in
theorem field_shape (t p i : Nat) (f : Foot) : ActAll (Shape e gid f none) (opField cx e t p i) := by
  unfold opField
  split
  · rename_i B off hv
    split
    · trivial
    · split
      · trivial
      · split
        · trivial
        · rename_i fi _
          cases decide (fi.size = 0) with
          | true => trivial
          | false => exact Shape.ent _ _ _ _ _ fun C o' h => ⟨p, off, by simp at h; rw [hv, h.1]⟩
  · exact fun v => Shape.ofV ..
omit [Dr] in
theorem index_shape (t p : Nat) (i : Operand) (f : Foot) : ActAll (Shape e gid f none) (opIndexAddr cx e t p i) := by
  unfold opIndexAddr
  split
  · rename_i B off hv
    split
    · split
      · split
        · trivial
        · refine ActAll.cond (p := Shape e gid f none) (y := .bad) (fun _ => ?_) (fun _ => trivial)
          exact Shape.ent _ _ _ _ _ fun C o' h => ⟨p, off, by simp at h; rw [hv, h.1]⟩
      · trivial
    · trivial
  · exact fun v => Shape.ofV ..
omit [Dr] in
theorem alloc_shape (s t : Nat) (f : Foot) (hf : f = (match findK cx.ann.kinds s .L with | .F => {} | .H => { wh := true } | .B => { wh := true } | _ => { wl := true, ad := !(findN cx.ann.nils s).isEmpty })) : ActAll (Shape e gid f none) (opAlloc cx e gid s t) := by
  unfold opAlloc
  split
  · trivial
  · rename_i ti _
    have key : f.wl = true → (f.ad = !(findN cx.ann.nils s).isEmpty) → ActAll (Shape e gid f none) (match findN cx.ann.nils s with
      | offs => bif decide (ti.size < 1000) && locFree e.sl (lbase s) && nilsAt (zerosOf true ti) offs ti.size then
          .stat { ent := ⟨.loc (lbase s) 0, none⟩, ls := lsOf (lbase s) (zerosOf (memN cx.ann.hb s) ti) offs gid ti.size, add := gsOf offs gid, lb := some (lbase s, ti.size) } else .bad) := by
      intro hw ha
      simp only
      cases decide (ti.size < 1000) && locFree e.sl (lbase s) && nilsAt (zerosOf true ti) (findN cx.ann.nils s) ti.size with
      | false => trivial
      | true => exact Shape.wl hw (fun h => gsOf_nil (by rw [ha] at h; simpa using h)) rfl (fun x hx => .inl (keys_lsOf (by unfold lbase; omega) x hx))
    cases hk : findK cx.ann.kinds s .L with
    | F => exact Shape.ofV ..
    | H => exact fun v => Shape.ofV ..
    | B => exact fun v => Shape.ofV ..
    | L => rw [hk] at hf; exact key (by rw [hf]) (by rw [hf])
    | S => rw [hk] at hf; exact key (by rw [hf]) (by rw [hf])
omit [Dr] in
theorem box_shape (s t : Nat) (x : Operand) (f : Foot) (hf : f = (match findK cx.ann.kinds s .F with | .F => {} | .H => { wh := true } | .B => { wh := true } | _ => { wl := true })) : ActAll (Shape e gid f none) (opBox cx e s t x) := by
  unfold opBox
  have key : f.wl = true → ActAll (Shape e gid f none) (match cx.T t with
    | none => .bad
    | some ti => bif decide (ti.size < 1000) && locFree e.sl (lbase s) then
        .dyn (cellsM ti.size (opnd e x)) fun v => { ent := ⟨.loc (lbase s) 0, none⟩, ls := lsOf (lbase s) (acells v) [] 0 ti.size, lb := some (lbase s, ti.size) }
      else .bad) := by
    intro hw
    split
    · trivial
    · rename_i ti _
      cases decide (ti.size < 1000) && locFree e.sl (lbase s) with
      | false => trivial
      | true => exact fun v => Shape.wl hw (fun _ => rfl) rfl (fun x hx => .inl (keys_lsOf (by unfold lbase; omega) x hx))
  cases hk : findK cx.ann.kinds s .F with
  | F => exact Shape.ofV ..
  | H => exact fun v => Shape.ofV ..
  | B => trivial
  | L => rw [hk] at hf; exact key (by rw [hf])
  | S => rw [hk] at hf; exact key (by rw [hf])
omit [Dr] in
theorem call_shape (c : Call) (f : Foot) (ho : o.op = .call c) (hf : f = footOf cx o) : ActAll (Shape e gid f none) (opCall cx e gid o c) := by
  unfold opCall
  cases hc : c.callee with
  | invoke r m => trivial
  | value x =>
    cases x with
    | func g =>
      simp only
      refine ActAll.cond (fun _ => ActAll.cond (fun _ v => Shape.ofV ..) (fun _ => trivial)) fun _ => ?_
      intro v
      cases ho' : cx.own g with
      | none => exact Shape.ofV ..
      | some z =>
        refine Shape.own _ _ _ _ _ _ ?_
        rw [hf]
        unfold footOf
        rw [ho]
        simp only [hc, ho']
        cases cx.iso g <;> rfl
    | tmp t => exact fun v => Shape.ofV ..
    | const t => exact fun v => Shape.ofV ..
    | global t => exact fun v => Shape.ofV ..
  | builtin b =>
    cases b <;> simp only <;> (try trivial)
    case clear =>
      split
      · exact fun v => Shape.ofV ..
      · trivial
    case append =>
      split
      · rename_i t u x y hts hxs
        cases isAppT cx.T u with
        | false => trivial
        | true =>
          simp only [Bool.not_true, cond_false]
          cases hha : memO cx.ann.ha o.dst with
          | true => exact fun v => Shape.ofV ..
          | false =>
            have hfa : f.ad = true ∧ f.wl = false ∧ f.dr = !isNilConst x := by
              rw [hf]; unfold footOf; rw [ho]; simp only [hc, hha, cond_false, hxs]; exact ⟨trivial, trivial, trivial⟩
            cases hn : isNilConst x with
            | true => exact fun v => Shape.own _ _ _ _ _ _ hfa.1
            | false =>
              simp only [cond_false]
              split
              · split
                · trivial
                · split
                  · trivial
                  · rename_i z _
                    cases szOk z (elemSize cx.T t) with
                    | false => trivial
                    | true =>
                      simp only [cond_true]
                      intro v
                      have hdr : f.dr = true := by rw [hfa.2.2, hn]; rfl
                      exact ⟨fun _ => rfl, fun _ => rfl, fun _ => rfl, fun _ x h => by simp [Upd.own] at h; rw [h], fun h' => by (rw [hfa.1] at h'; cases h'), fun h' => by (rw [hdr] at h'; cases h'), fun _ C off h => by simp [Upd.own] at h, fun x h => by simp [Upd.own] at h⟩
              · trivial
      · trivial
    case len =>
      split
      · exact fun v => Shape.ofV ..
      · trivial
    case min => exact fun v => Shape.ofV ..
    case max => exact fun v => Shape.ofV ..
omit [Dr] in
theorem fzA_shape (f : Foot) (ss : Option Nat) (A : Act1) : ActAll (Shape e gid f ss) (fzA A) := by
  cases A with
  | bad => trivial
  | stat u => exact fun v => Shape.ofV ..
  | dyn m sh => exact fun v => Shape.ofV ..
  | thr v => trivial
omit [Dr] in
theorem opD_shape (cx : Cx) (e : Env) (gid : Nat) (o : Oper) : ActAll (Shape e gid (footOf cx o) (storeSlot o)) (opD cx e gid o) := by
  have hss : (∀ t p y, o.op ≠ .store t (.tmp p) y) → storeSlot o = none := by
    intro h; unfold storeSlot; split
    · rename_i t p y hq; exact absurd hq (h t p y)
    · rfl
  unfold opD
  cases ho : o.op
  case store t x y =>
    simp only
    cases x <;> (try trivial)
    rename_i p
    cases hd : o.dst with
    | some d => trivial
    | none =>
      have h1 : storeSlot o = some p := by unfold storeSlot; rw [ho]
      rw [h1]
      exact ActAll.cond (fun _ => trivial) fun _ => store_shape t p y _ (by unfold footOf; rw [ho]) (by unfold footOf; rw [ho])
  all_goals
    have hs0 := hss (by rw [ho]; intros; simp)
    rw [hs0]
    simp only
  case move x => exact move_shape _ x _ (by unfold footOf; rw [ho])
  case assign x => exact move_shape _ x _ (by unfold footOf; rw [ho])
  case box t x =>
    cases hd : o.dst with
    | none => trivial
    | some s => exact box_shape s t x _ (by unfold footOf; rw [ho]; simp only [hd]; cases findK cx.ann.kinds s .F <;> rfl)
  case alloc t =>
    cases hd : o.dst with
    | none => trivial
    | some s => exact alloc_shape s t _ (by unfold footOf; rw [ho]; simp only [hd]; cases findK cx.ann.kinds s .L <;> rfl)
  case load t x => cases x <;> first | exact ActAll.cond (fun _ => trivial) (fun _ => ActAll.cond (fun _ => fzA_shape _ _ _) (fun _ => load_shape ..)) | trivial
  case buildSlice =>
    cases hha : memO cx.ann.ha o.dst with
    | true => exact fun v => Shape.ofV ..
    | false =>
      intro v
      cases hno : memO cx.ann.no o.dst with
      | true => exact Shape.ofV ..
      | false => exact Shape.own _ _ _ _ _ _ (by unfold footOf; rw [ho]; simp [hno, hha])
  case makeSlice => exact fun v => Shape.own _ _ _ _ _ _ (by unfold footOf; rw [ho])
  case slice t x lo hi mx =>
    cases hso : memO cx.ann.so o.dst with
    | true =>
      simp only [cond_true]
      unfold opCut
      have hf : footOf cx o = { ad := true, dr := true } := by unfold footOf; rw [ho]; simp only [hso, cond_true]
      rw [hf]
      split
      · split
        · trivial
        · split
          · exact ActAll.cond (fun _ v => ⟨fun _ => rfl, fun _ => rfl, fun _ => rfl, fun _ x h => by simp [Upd.own] at h; rw [h], fun h' => (by cases h'), fun h' => (by cases h'), fun _ C off h => by simp [Upd.own] at h, fun x h => by simp [Upd.own] at h⟩) fun _ => trivial
          · trivial
      · trivial
    | false =>
    simp only [cond_false]
    cases mx with
    | none => exact fun v => Shape.ofV ..
    | some m => exact fun v => Shape.own _ _ _ _ _ _ (by unfold footOf; rw [ho]; simp only [hso, cond_false]; rfl)
  case nilCheck x =>
    cases x <;> (try trivial)
    simp only
    split
    · exact Shape.get ..
    · exact fun v => Shape.ofV ..
  case fieldAddr t x i => cases x <;> first | exact field_shape .. | trivial
  case indexAddr t x i => cases x <;> first | exact index_shape .. | trivial
  case call c => exact call_shape c _ ho rfl
  case panic x => exact fun v => Shape.ofV ..
  case makeFunc => exact Shape.ofV ..
  case makeMap => exact ActAll.cond (fun _ => trivial) fun _ v => Shape.ofV ..
  case mapUpdate => unfold opPut; split; exact fun v => Shape.ofV ..; trivial
  case insert => unfold opPut; split; exact fun v => Shape.ofV ..; trivial
  case binOp => exact ActAll.cond (fun _ => trivial) fun _ v => Shape.ofV ..
  all_goals first | trivial | exact fun v => Shape.ofV ..
end Go.Av

/- Rows that become immutable. No condition. -/
namespace Go.Av
mutual
theorem cl_ok {S S' : Stab} {β β' : List Blk} {g : Nat → Nat → Nat → Nat → Bool → AV} (hS : S.le S') (hg : ∀ l off len sz ag v, VR S β (.hs l off len sz ag) v → VR S' β' (g l off len sz ag) v) : (a : AV) → (v : Value) → VR S β a v → VR S' β' (cl g a) v
  | .any, _, _ => by simp [cl, VR]
  | .bool _, _, x => by simpa [cl, VR] using x
  | .int _ _, _, x => by simpa [cl, VR] using x
  | .str _, _, x => by simpa [cl, VR] using x
  | .nilp, _, x => by simpa [cl, VR] using x
  | .nilf, _, x => by simpa [cl, VR] using x
  | .nili, _, x => by simpa [cl, VR] using x
  | .mp _, _, _ => by simp [cl, VR]
  | .it _, _, _ => by simp [cl, VR]
  | .nilm, _, x => by simpa [cl, VR] using x
  | .nilb _, _, x => by simpa [cl, VR] using x
  | .byt _ _, _, x => by simpa [cl, VR] using x
  | .agg cs, v, x => by
    simp only [cl, VR] at x ⊢
    obtain ⟨vs, rfl, y⟩ := x
    exact ⟨vs, rfl, cls_ok hS hg cs vs y⟩
  | .tup cs, v, x => by
    simp only [cl, VR] at x ⊢
    obtain ⟨vs, rfl, y⟩ := x
    exact ⟨vs, rfl, cls_ok hS hg cs vs y⟩
  | .sl es, v, x => by
    simp only [cl, VR] at x ⊢
    obtain ⟨a, cap, rfl, hc, hn, hq⟩ := x
    have hl : (cls g es).length = es.length := cls_length g es
    refine ⟨a, cap, by rw [hl], by rw [hl]; exact hc, hn, fun q e => ?_⟩
    obtain ⟨hs, sz, he⟩ := hq q e
    exact ⟨hs, sz, els_ok hS hg es _ _ _ he⟩
  | .ip cs, v, x => by
    simp only [cl, VR] at x ⊢
    obtain ⟨b, off, vs, rfl, y, z⟩ := x
    exact ⟨b, off, vs, rfl, cls_ok hS hg cs vs y, z.mono hS⟩
  | .hp l off, v, x => by simp [cl, VR]
  | .hn, v, x => by
    simp only [cl, VR] at x ⊢
    exact ⟨none, 0, x, Nat.le_refl _, fun _ => rfl, fun q hq => by cases hq⟩
  | .hs l off len sz ag, v, x => by
    simp only [cl]
    exact hg l off len sz ag v x
  | .fn f a c, v, x => by
    simp only [cl, VR] at x ⊢
    obtain ⟨x, y, rfl, hx, hy⟩ := x
    exact ⟨x, y, rfl, cls_ok hS hg a x hx, cls_ok hS hg c y hy⟩
  | .iface t a, v, x => by
    simp only [cl, VR] at x ⊢
    obtain ⟨y, rfl, hy⟩ := x
    exact ⟨y, rfl, cl_ok hS hg a y hy⟩
theorem cls_length (g : Nat → Nat → Nat → Nat → Bool → AV) : (cs : List AV) → (cls g cs).length = cs.length
  | [] => rfl
  | c :: cs => by simp [cls, cls_length g cs]
theorem cls_ok {S S' : Stab} {β β' : List Blk} {g : Nat → Nat → Nat → Nat → Bool → AV} (hS : S.le S') (hg : ∀ l off len sz ag v, VR S β (.hs l off len sz ag) v → VR S' β' (g l off len sz ag) v) : (cs : List AV) → (vs : List Value) → VRs S β cs vs → VRs S' β' (cls g cs) vs
  | [], _, x => by simpa [cls, VRs] using x
  | c :: cs, vs, x => by
    simp only [cls, VRs] at x ⊢
    obtain ⟨y, ys, rfl, hy, hys⟩ := x
    exact ⟨y, ys, rfl, cl_ok hS hg c y hy, cls_ok hS hg cs ys hys⟩
theorem els_ok {S S' : Stab} {β β' : List Blk} {g : Nat → Nat → Nat → Nat → Bool → AV} (hS : S.le S') (hg : ∀ l off len sz ag v, VR S β (.hs l off len sz ag) v → VR S' β' (g l off len sz ag) v) : (es : List AV) → (b off sz : Nat) → ElsAt S β es b off sz → ElsAt S' β' (cls g es) b off sz
  | [], _, _, _, _ => by simp [cls, ElsAt]
  | e :: es, b, off, sz, x => by
    simp only [cls, ElsAt] at x ⊢
    obtain ⟨⟨v, hv, hs, hc⟩, hes⟩ := x
    exact ⟨⟨v, cl_ok hS hg e v hv, hs, hc.mono hS⟩, els_ok hS hg es b (off + sz) sz hes⟩
end
variable [Dr]
omit [Dr] in
theorem clean_ok {S : Stab} {β : List Blk} {args : List AV} {vs : List Value} (h : VRs S β args vs) : VRs S [] (cls noHs args) vs :=
  cls_ok (Stab.le_refl S) (fun _ _ _ _ _ _ _ => by simp [noHs, VR]) args vs h
omit [Dr] in
theorem okCell_cells {S : Stab} {β : List Blk} {a : AV} {v : Value} (h : okCell a = true) (hv : VR S β a v) : v.cells = #[v] := by
  cases a <;> simp only [okCell, Bool.false_eq_true] at h <;> simp only [VR] at hv
  case bool => subst hv; rfl
  case int => subst hv; rfl
  case str => obtain ⟨x, rfl, _⟩ := hv; rfl
  case nilp => subst hv; rfl
  case nilf => subst hv; rfl
  case nili => subst hv; rfl
  case sl => obtain ⟨x, c, rfl, _⟩ := hv; rfl
  case ip => obtain ⟨b, o, vs, rfl, _⟩ := hv; rfl
  case hp => obtain ⟨b, _, _, rfl⟩ := hv; rfl
  case mp => obtain ⟨b, _, _, rfl⟩ := hv; rfl
  case nilm => subst hv; rfl
  case hs => rcases hv with ⟨b, c, _, _, rfl, _⟩ | ⟨_, _, rfl⟩ <;> rfl
  case hn => subst hv; rfl
  case fn => obtain ⟨x, y, rfl, _⟩ := hv; rfl
  case iface => obtain ⟨x, rfl, _⟩ := hv; rfl
omit [Dr] in
theorem frz_ok {S S2 : Stab} {β β2 : List Blk} {w : World} {ω : Nat → Owner} {h : Hp} (hH : HeapR S β w ω h) (hS : S.le S2) (h2 : ∀ (b o : Nat) (x : Array Value), HOwn β h b → Row w b x → S2 b o = x[o]?) : ∀ (d : Nat) (a : AV) (v : Value), VR S β a v → VR S2 β2 (frz d h a) v
  | 0, a, v, hv => cl_ok hS (fun _ _ _ _ _ _ _ => by simp [noHs, VR]) a v hv
  | d + 1, a, v, hv => by
    refine cl_ok hS (fun l off len sz ag u hu => ?_) a v hv
    cases hl : h[l]? with
    | none => simp [VR]
    | some cs =>
      simp only
      cases hc : (decide (off + len * sz ≤ cs.length) && decide (0 < sz) && (ag || (Nat.beq sz 1 && cs.all okCell))) with
      | false => simp [VR]
      | true =>
        simp only [Bool.and_eq_true, decide_eq_true_eq, Bool.or_eq_true] at hc
        obtain ⟨⟨hc1, hc2⟩, hc3⟩ := hc
        simp only [cond_true]
        simp only [VR] at hu ⊢
        rcases hu with ⟨⟨b, nb⟩, cap, hβ, hb0, rfl, hlc, hcn⟩ | ⟨h00, q0, rfl⟩
        rotate_left
        · subst h00
          exact ⟨some q0, 0, rfl, Nat.le_refl _, fun _ => rfl, fun q hq => ⟨fun h => absurd h (by omega), sz, trivial⟩⟩
        refine ⟨some ⟨b, off, none⟩, cap, by simp, by simpa using hlc, (fun hh => by cases hh), fun q hq => ?_⟩
        simp only [Option.some.injEq] at hq
        subst hq
        refine ⟨fun _ => rfl, sz, .of_get fun i e he => ?_⟩
        have hi : i < len := by
          rcases Nat.lt_or_ge i len with h' | h'
          · exact h'
          · rw [List.getElem?_eq_none (by simpa using h')] at he; cases he
        rw [List.getElem?_map, List.getElem?_range hi] at he
        simp only [Option.map_some, Option.some.injEq] at he
        have hile : off + i * sz + sz ≤ cs.length := by
          have : (i + 1) * sz ≤ len * sz := Nat.mul_le_mul_right _ hi
          rw [Nat.add_mul] at this
          omega
        have hne : cs ≠ [] := by rintro rfl; simp at hile; omega
        obtain ⟨x, k1, k2, k3, k4, k5⟩ := hH.cells hl hne hβ hb0
        rw [hβ] at k1
        simp only [Option.some.injEq, Prod.mk.injEq, true_and] at k1
        subst k1
        have hx := k4.length
        simp only [List.length_take, Array.length_toList] at hx
        have hS2 : ∀ o, S2 b o = x[o]? := fun o => h2 b o x ⟨l, cs, _, hl, hne, hβ⟩ k2
        subst he
        cases ag with
        | true =>
          simp only [cond_true]
          have hsub := (k4.drop (off + i * sz)).take sz
          refine ⟨.agg (((x.toList.take cs.length).drop (off + i * sz)).take sz).toArray, frz_ok hH hS h2 d _ _ (by simp only [VR]; exact ⟨_, rfl, hsub⟩), ?_, fun j y hy => ?_⟩
          · simp [Value.cells]; omega
          · simp only [Value.cells] at hy
            rw [List.getElem?_take] at hy
            split at hy
            · rw [List.getElem?_drop, List.getElem?_take] at hy
              split at hy
              · rw [hS2]; simpa using hy
              · cases hy
            · cases hy
        | false =>
          simp only [cond_false]
          simp only [Bool.false_eq_true, false_or] at hc3
          have hsz : sz = 1 := Nat.eq_of_beq_eq_true hc3.1
          subst hsz
          have hlt : off + i * 1 < cs.length := by omega
          have hcs : cs[off + i * 1]? = some (nth cs (off + i * 1)) := by unfold nth; rw [List.getD_eq_getElem?_getD, List.getElem?_eq_getElem hlt]; rfl
          obtain ⟨y, hy1, hy2⟩ := k4.get hcs
          have hok := List.all_eq_true.1 hc3.2 _ (List.mem_of_getElem? hcs)
          have hcells := okCell_cells hok hy2
          refine ⟨y, frz_ok hH hS h2 d _ _ hy2, by rw [hcells]; rfl, fun j z hz => ?_⟩
          rw [hcells] at hz
          cases j with
          | zero =>
            simp only [List.getElem?_cons_zero, Option.some.injEq] at hz
            subst hz
            rw [hS2, Nat.add_zero]
            rw [List.getElem?_take, if_pos hlt] at hy1
            rw [← hy1]
            simp
          | succ j => simp at hz
theorem FR.weak {c : Entry} {N : Nat} {U : Nat → Prop} {e e2 : Env} {h : Hp} {a : Act} {w : World} {S : Stab} {β : List Blk} {γ : Nat → Value} {lam : Nat → Option Nat} {ω : Nat → Owner} (H : FR c N U e h a w S β γ lam ω)
    (hv : ∀ t, (e2.get t).v = (e.get t).v ∨ (e2.get t).v = .val .any ∧ t < 1000) (hg : ∀ t g, (e2.get t).g = some g → (e.get t).g = some g)
    (hal : ∀ g z, aliveG e2.al g = some z → aliveG e.al g = some z) (hlb : ∀ B n, lbSize e2.lb B = some n → lbSize e.lb B = some n) : FR c N U e2 h a w S β γ lam ω := by
  refine ⟨H.wf, H.gro, H.keep, H.le, H.ext, H.hlen, H.heap, H.tsz, fun t ht => ?_, fun t g z ht hgg hz => H.grps t g z ht (hg t g hgg) (hal g z hz), fun B n hB => ?_, fun g z hz => H.free g z (hal g z hz), H.mine, ⟨fun t g hgg => H.used.1 t g (hg t g hgg), fun g z hz => H.used.2 g z (hal g z hz)⟩⟩
  · rcases hv t with h1 | ⟨h1, _⟩
    · rw [h1]; exact H.slots t ht
    · rw [h1]; simp [SlotR, VR]
  · obtain ⟨h1, h2, h3, b, x, h4, h5, h6, h7, h8⟩ := H.lblk B n (hlb B n hB)
    refine ⟨h1, h2, h3, b, x, h4, h5, h6, h7, fun i hi => ?_⟩
    obtain ⟨v, a', g1, g2, g3, g4⟩ := h8 i hi
    refine ⟨v, a', g1, ?_, g3, fun g z hgg hz => g4 g z (hg _ g hgg) (hal g z hz)⟩
    rcases hv (B + i) with k1 | ⟨_, k1⟩
    · rw [k1]; exact g2
    · omega
theorem FR.acts {c : Entry} {N : Nat} {U : Nat → Prop} {e : Env} {h : Hp} {a a2 : Act} {w : World} {S : Stab} {β : List Blk} {γ : Nat → Value} {lam : Nat → Option Nat} {ω : Nat → Owner} (H : FR c N U e h a w S β γ lam ω) (ht : a2.tmps = a.tmps) : FR c N U e h a2 w S β γ lam ω :=
  ⟨H.wf, H.gro, H.keep, H.le, H.ext, H.hlen, H.heap, by rw [ht]; exact H.tsz, fun t h => by rw [ht]; exact H.slots t h, fun t g z h => by rw [ht]; exact H.grps t g z h, H.lblk, H.free, H.mine, H.used⟩
open Classical in
theorem FR.freeze {c : Entry} {N : Nat} {U : Nat → Prop} {e : Env} {h : Hp} {a : Act} {w : World} {S : Stab} {β : List Blk} {γ : Nat → Value} {lam : Nat → Option Nat} {ω : Nat → Owner} (H : FR c N U e h a w S β γ lam ω) :
    ∃ S2 ω2, FR c N U e (h.map fun _ => []) a w S2 β γ lam ω2 ∧ ∀ v u, VR S β v u → VR S2 β (frz 6 h v) u := by
  let S2 : Stab := fun b o => if HOwn β h b then w.cell? ⟨b, o, none⟩ else S b o
  let ω2 : Nat → Owner := fun b => if HOwn β h b then .no else ω b
  have hn : ∀ b, ¬ HOwn β h b → ∀ o, S2 b o = S b o := fun b hb o => if_neg hb
  have hy : ∀ b, HOwn β h b → ∀ o, S2 b o = w.cell? ⟨b, o, none⟩ := fun b hb o => if_pos hb
  have hωn : ∀ b, ¬ HOwn β h b → ω2 b = ω b := fun b hb => if_neg hb
  have hωy : ∀ b, HOwn β h b → ω2 b = .no := fun b hb => if_pos hb
  have hho : ∀ b, HOwn β h b → ∃ l, ω b = .heap l := fun b hb => by obtain ⟨l, _, h1, _⟩ := H.hown hb; exact ⟨l, h1⟩
  have hno : ∀ b, (∀ l, ω b ≠ .heap l) → ¬ HOwn β h b := fun b hb ho => by obtain ⟨l, hl⟩ := hho b ho; exact hb l hl
  have hle : S.le S2 := by
    intro b o v hv
    by_cases hb : HOwn β h b
    · obtain ⟨l, x, _, _, _, h5⟩ := H.hown hb
      rw [h5] at hv; cases hv
    · rw [hn b hb]; exact hv
  have hwf : Wf S2 w := by
    intro b o v hv
    by_cases hb : HOwn β h b
    · rw [hy b hb] at hv; exact hv
    · rw [hn b hb] at hv; exact H.wf b o v hv
  refine ⟨S2, ω2, ⟨hwf, H.gro, fun b hb hE => ⟨(H.keep b hb hE).1, fun o => ?_⟩, Stab.le_trans H.le hle, H.ext, by simp [H.hlen], fun l cs hl hcs => ?_, H.tsz, fun t ht => ?_, H.grps, fun B n hB => ?_, fun g z hg => ?_, fun b hb => ?_, H.used⟩, fun v u hv => ?_⟩
  · have : ¬ HOwn β h b := fun ho => by
      obtain ⟨l, hl⟩ := hho b ho
      rcases (H.mine b (by rw [hl]; simp)).1.low with h1 | h1
      · exact hE h1
      · omega
    rw [hn b this]
    exact (H.keep b hb hE).2 o
  · rw [List.getElem?_map] at hl
    cases hq : h[l]? with
    | none => rw [hq] at hl; cases hl
    | some x => rw [hq] at hl; simp at hl; exact absurd hl (fun hh => hcs hh)
  · have := H.slots t ht
    cases hv : (e.get t).v with
    | val av => rw [hv] at this; exact VR.mono hle (Ext.refl β) _ _ this
    | loc B off => rw [hv] at this; exact this
  · obtain ⟨h1, h2, h3, b, x, h4, h5, h6, h7, h8⟩ := H.lblk B n hB
    have hb := hno b (fun l hl => by rw [h6] at hl; cases hl)
    refine ⟨h1, h2, h3, b, x, h4, h5, by rw [hωn b hb]; exact h6, fun o => by rw [hn b hb]; exact h7 o, fun i hi => ?_⟩
    obtain ⟨v, a', g1, g2, g3, g4⟩ := h8 i hi
    exact ⟨v, a', g1, g2, VR.mono hle (Ext.refl β) _ _ g3, g4⟩
  · obtain ⟨a', len, cap, h1, h2, h3, h4⟩ := H.free g z hg
    refine ⟨a', len, cap, h1, h2, h3, h4.imp id ?_⟩
    rintro ⟨sz, b, off, x, g1, g2, g3, g4, g5, g6⟩
    have hb := hno b (fun l hl => by rw [g5] at hl; cases hl)
    exact ⟨sz, b, off, x, g1, g2, g3, g4, by rw [hωn b hb]; exact g5, fun o ho => by rw [hn b hb]; exact g6 o ho⟩
  · by_cases ho : HOwn β h b
    · exact absurd (hωy b ho) hb
    · have hb' : ω b ≠ .no := by rw [← hωn b ho]; exact hb
      exact ⟨(H.mine b hb').1.of_eq (hωn b ho), (H.mine b hb').2⟩
  · exact frz_ok H.heap hle (fun b o x hb hr => by rw [hy b hb, hr.cell]) 6 v u hv
theorem freeze_sat {c : Entry} {N : Nat} {U : Nat → Prop} {e : Env} {h : Hp} {a : Act} {w : World} {gid : Nat} {d : Option Tmp} {u : Upd} (hd : ∀ t, d = some t → t < N) (hs : Shape e gid {} none u)
    (H : Sat c N U (e.upd d u) h a w) : Sat c N U (e.upd d (.ofV (frz 6 h u.ent.av))) (h.map fun _ => []) a w := by
  obtain ⟨S, β, γ, lam, ω, F⟩ := H
  obtain ⟨S2, ω2, F2, hf⟩ := F.freeze
  have h1 := hs.ls rfl
  have h2 := hs.lb rfl
  have h3 := hs.unlb rfl
  have h4 := hs.noad rfl
  have h5 := hs.nodr rfl
  have hget : ∀ t, (e.upd d u).get t = if d = some t then u.ent else e.get t := fun t => by rw [get_upd, h1]; rfl
  have hget' : ∀ x t, (e.upd d (.ofV x)).get t = if d = some t then ⟨.val x, none⟩ else e.get t := fun x t => by rw [get_upd]; rfl
  have hal : (e.upd d u).al = e.al := by show u.add ++ dropO e.al u.drop = e.al; rw [h4, h5]; rfl
  have hlb : (e.upd d u).lb = e.lb := by show addO (dropLb e.lb u.unlb) u.lb = e.lb; rw [h2, h3]; rfl
  -- first forget the slot, then tell it anew
  have F3 : FR c N U (e.upd d (.ofV .any)) (h.map fun _ => []) a w S2 β γ lam ω2 := by
    refine F2.weak (fun t => ?_) (fun t g hg => ?_) (fun g z hz => by rw [hal]; exact hz) (fun B n hB => by rw [hlb]; exact hB)
    · rw [hget, hget']
      split
      · rename_i hdt
        exact .inr ⟨rfl, by have h1 := hd t hdt; have h2 := F.tsz.2; exact Nat.lt_of_lt_of_le h1 h2⟩
      · exact .inl rfl
    · rw [hget'] at hg
      rw [hget]
      split at hg
      · cases hg
      · rename_i hdt; rw [if_neg hdt]; exact hg
  cases d with
  | none => exact ⟨S2, β, γ, lam, ω2, F3⟩
  | some s =>
    have hsl := F.slots s (Nat.lt_of_lt_of_le (hd s rfl) F.tsz.2)
    rw [hget, if_pos rfl] at hsl
    generalize hv0 : a.tmps.getD s undef = v0 at hsl
    have hvr : VR S β u.ent.av v0 := by
      unfold Ent.av
      cases hv : u.ent.v with
      | val x => rw [hv] at hsl; exact hsl
      | loc B off => simp [VR]
    have F4 := F3.setV (d := some s) hd (hf _ _ hvr)
    refine ⟨S2, β, γ, lam, ω2, (F4.weak (e2 := e.upd (some s) (.ofV (frz 6 h u.ent.av))) (fun t => .inl ?_) (fun t g hg => ?_) (fun g z hz => hz) (fun B n hB => hB)).acts ?_⟩
    · rw [hget', get_upd]
      split
      · rfl
      · rename_i hdt
        show (e.get t).v = (lookE ((s, ⟨.val .any, none⟩) :: e.sl) t).v
        rw [lookE_cons, if_neg (fun hh => hdt (by rw [hh]))]
        rfl
    · rw [hget'] at hg
      rw [get_upd]
      split at hg
      · cases hg
      · rename_i hdt
        rw [if_neg hdt]
        show (lookE ((s, ⟨.val .any, none⟩) :: e.sl) t).g = some g
        rw [lookE_cons, if_neg (fun hh => hdt (by rw [hh]))]
        exact hg
    · have hlt : s < a.tmps.size := Nat.lt_of_lt_of_le (hd s rfl) F.tsz.1
      simp only [Act.put]
      rw [← hv0, Array.getD_eq_getD_getElem?, Array.getElem?_eq_getElem hlt]
      apply Array.ext_getElem?
      intro i
      rw [Array.getElem?_setIfInBounds]
      split
      · rename_i hi
        subst hi
        rw [Array.getElem?_eq_getElem hlt]
        rfl
      · rfl
end Go.Av

/- s[k:] of an owned slice, which is owned in its stead. Condition: the table of types is the program's. -/
namespace Go.Av
variable [Dr]
section
variable {P : Program} {cx : Cx} {c : Entry} {N : Nat} {U : Nat → Prop} {e : Env} {h : Hp} {a : Act} {w : World} {S : Stab} {β : List Blk} {γ : Nat → Value} {lam : Nat → Option Nat} {ω : Nat → Owner} {o : Oper} {gid : Nat}
open Classical in
theorem cut_op (hT : TOK P cx.T) (H : FR c N U e h a w S β γ lam ω) (hd : ∀ t, o.dst = some t → t < N) (hU : ∀ g, gid ≤ g → g < gid + 1000 → ¬ U g) {t : Nat} {x : Operand} {lo hi mx : Option Operand} (ho : o.op = .slice t x lo hi mx)
    (hx : ∀ t, x = .tmp t → t < 1000) (hlo : ∀ y, lo = some y → ∀ t, y = .tmp t → t < 1000)
    (hr : runAct e o.dst (opCut cx e gid t x lo hi mx) h ≠ .fail) : After P c N (UG U gid) (runAct e o.dst (opCut cx e gid t x lo hi mx) h) o a w := by
  unfold opCut at hr ⊢
  cases x with
  | tmp s =>
    have hs := hx s rfl
    simp only at hr ⊢
    cases hg : (e.get s).g with
    | none => rw [hg] at hr; exact absurd rfl hr
    | some g =>
      rw [hg] at hr
      simp only at hr ⊢
      cases hal : aliveG e.al g with
      | none => rw [hal] at hr; exact absurd rfl hr
      | some z0 =>
        rw [hal] at hr
        cases z0 with
        | none => exact absurd rfl hr
        | some z =>
          simp only at hr ⊢
          cases hck : elemIs cx.T t z && hi.isNone && mx.isNone with
          | false => rw [hck] at hr; exact absurd rfl hr
          | true =>
            rw [hck] at hr
            simp only [cond_true] at hr ⊢
            simp only [Bool.and_eq_true, Option.isNone_iff_eq_none] at hck
            obtain ⟨⟨hz, rfl⟩, rfl⟩ := hck
            have hvx := opnd_ok H (.tmp s) (fun t ht => by cases ht; exact hs)
            cases hc : cutA cx.T t (opnd e (.tmp s)) (lo.map (opnd e)) with
            | none => rw [hc] at hr; exact absurd rfl hr
            | some r =>
              unfold cutA at hc
              split at hc
              · rename_i es hq
                rw [hq] at hvx
                have hvx0 := hvx
                simp only [VR] at hvx
                obtain ⟨ad, cap, hv, hle, hnn, hqq⟩ := hvx
                rw [hv] at hvx0
                obtain ⟨l, ei, ti, el, ht, hk, hei, hl, hrun, hvr⟩ := cut_ok (P := P) (w := w) hT hc hvx0 (optR_ok H lo hlo)
                have hzz : z = ei.size := by
                  unfold elemIs elemSize at hz
                  rw [ht] at hz
                  simp only [hk, hei, Option.map_some] at hz
                  exact Nat.eq_of_beq_eq_true hz
                subst hzz
                have hrun' : (execOp a.eval o).run P w = .ok (.value (.slice (if cap = l then ad else ad.map (·.add (l * ei.size))) (es.length - l) (cap - l))) w := by
                  simp only [execOp, ho, Option.map_none, Sem.run_bind]
                  rw [hv, hrun]
                  simp only [Result.andThen_ok, Sem.run_pure]
                have hval : a.tmps.getD s undef = γ g := H.grps s g (some ei.size) hs hg hal
                have hfree := H.free g (some ei.size) hal
                have hav : a.eval (.tmp s) = a.tmps.getD s undef := rfl
                rw [← hval, ← hav, hv] at hfree
                obtain ⟨a', len, cap', he, f1, f2, f3⟩ := hfree
                simp only [Value.slice.injEq] at he
                obtain ⟨rfl, rfl, rfl⟩ := he
                let ω' : Nat → Owner := fun k => if ω k = .grp g then .grp gid else ω k
                have F := H.regrp (r := r) (v := .slice (if cap = l then ad else ad.map (·.add (l * ei.size))) (es.length - l) (cap - l)) (gid := gid) (z := some ei.size) (g0 := some g) (w' := w) (S' := S) (ω' := ω') hd hU H.wf (Gro.refl w) (Stab.le_refl S)
                  (fun k _ _ => ⟨rfl, fun _ => rfl⟩) (fun k _ hk => if_neg (hk g rfl)) (fun b hb => by
                    by_cases hbg : ω b = .grp g
                    · have := H.mine b (by rw [hbg]; simp)
                      exact ⟨.inr (this.1.grp hbg), this.2⟩
                    · have hb' : ω b ≠ .no := by
                        have e1 : ω' b = ω b := if_neg hbg
                        rw [← e1]; exact hb
                      have := H.mine b hb'
                      exact ⟨this.1.of_eq (if_neg hbg), this.2⟩) hvr (by
                    refine ⟨_, _, _, rfl, by omega, fun hn => ?_, ?_⟩
                    · split at hn
                      · omega
                      · simp only [Option.map_eq_none_iff] at hn
                        have := f2 hn
                        omega
                    · rcases f3 with f3 | ⟨sz, b, off, x, g1, g2, g3, g4, g5, g6⟩
                      · left; omega
                      · by_cases hcl : cap = l
                        · left; omega
                        · right
                          simp only [Option.some.injEq] at g1
                          subst g1 g2
                          refine ⟨ei.size, b, off + l * ei.size, x, rfl, by rw [if_neg hcl, Option.map_some, addr_add], g3, ?_, by show (if ω b = .grp g then Owner.grp gid else ω b) = _; rw [if_pos g5], fun o ho => g6 o ?_⟩
                          · rw [Nat.sub_mul]
                            have : l * ei.size ≤ cap * ei.size := Nat.mul_le_mul_right _ (by omega)
                            omega
                          · rw [Nat.sub_mul] at ho
                            have : l * ei.size ≤ es.length * ei.size := Nat.mul_le_mul_right _ hl
                            omega)
                simp only [runAct, bnd, lft, cutA, hq, hc, M.pure]
                exact After.val hrun' ⟨_, _, _, _, ω', F⟩
              · cases hc
  | _ => exact absurd rfl hr
end
end Go.Av

/- One operation of any kind. Conditions: the table of types is the program's; the calls are right. -/
namespace Go.Av
variable [Dr]
section
variable {P : Program} {cx : Cx} {c : Entry} {N : Nat} {U : Nat → Prop} {e : Env} {h : Hp} {a : Act} {w : World} {S : Stab} {β : List Blk} {γ : Nat → Value} {lam : Nat → Option Nat} {ω : Nat → Owner} {o : Oper} {gid : Nat}
omit [Dr] in
theorem isNilConst_inv {x : Operand} (h : isNilConst x = true) : x = .const (.slice none 0 0) := by
  unfold isNilConst at h
  split at h
  · rfl
  · simp at h
theorem fz_after {m : M AV} (hd : ∀ t, o.dst = some t → t < N) (hl : runAct e o.dst (.dyn m .ofV) h ≠ .fail → After P c N (UG U gid) (runAct e o.dst (.dyn m .ofV) h) o a w)
    (hr : runAct e o.dst (.dyn (bnd m fzM) .ofV) h ≠ .fail) : After P c N (UG U gid) (runAct e o.dst (.dyn (bnd m fzM) .ofV) h) o a w := by
  intro next Q hn hp
  simp only [runAct, bnd, fzM, M.pure] at hr hn hp hl
  cases hm : m h with
  | fail => rw [hm] at hr; exact absurd rfl hr
  | pan pv h1 =>
    rw [hm] at hp hl
    exact hl (by simp) next Q (fun e' h' a' w' h1 => by cases h1) hp
  | ok v h1 =>
    rw [hm] at hn hl
    refine hl (by simp) next Q (fun e' h' a' w' k1 k2 k3 => ?_) (fun pv h' v w' k1 => by cases k1)
    cases k1
    exact hn _ _ a' w' rfl (freeze_sat (gid := gid) hd (Shape.ofV ..) k2) k3
omit [Dr] in
theorem opndN_ok {x : Operand} (h : VR S β (opnd e x) (a.eval x)) : VR S β (opndN e x) (a.eval x) := by
  unfold opndN
  cases hn : isNilConst x with
  | false => exact h
  | true =>
    unfold isNilConst at hn
    split at hn
    · simp [Act.eval, VR]
    · cases hn
omit [Dr] in
theorem mapT {f g : Operand → AV} {v : Operand → Value} {l : List Operand} (_ : VRs S β (l.map f) (l.map v)) (h : ∀ x ∈ l, VR S β (g x) (v x)) : VRs S β (l.map g) (l.map v) := by
  induction l with
  | nil => simp [VRs]
  | cons x l ih =>
    rename_i hh
    simp only [List.map_cons, VRs] at hh ⊢
    obtain ⟨y, ys, hy, _, h2⟩ := hh
    cases hy
    exact ⟨_, _, rfl, h x (by simp), ih h2 fun y hy => h y (by simp [hy])⟩
theorem call_op (hT : TOK P cx.T) (hC : CallsOK P cx.own cx.call) (H : FR c N U e h a w S β γ lam ω) (hd : ∀ t, o.dst = some t → t < N) (hU : ∀ g, gid ≤ g → g < gid + 1000 → ¬ U g) {cc : Call} (ho : o.op = .call cc)
    (ht : ∀ x ∈ o.op.operands.toList, ∀ t, x = .tmp t → t < 1000) (hr : runAct e o.dst (opCall cx e gid o cc) h ≠ .fail) : After P c N (UG U gid) (runAct e o.dst (opCall cx e gid o cc) h) o a w := by
  have hargs : ∀ x ∈ cc.args.toList, ∀ t, x = .tmp t → t < 1000 := fun x hx t hxt => ht x (by rw [ho]; simp [Op.operands, Call.operands]; exact .inr (by simpa using hx)) t hxt
  have hvs := opnds_ok H cc.args.toList hargs
  have hmap : cc.args.map a.eval = (cc.args.toList.map a.eval).toArray := by apply Array.ext'; simp
  unfold opCall at hr ⊢
  cases hcal : cc.callee with
  | invoke r m => rw [hcal] at hr; exact absurd rfl hr
  | value f =>
    rw [hcal] at hr
    have hfv : ∀ t, f = .tmp t → t < 1000 := fun t hft => ht f (by rw [ho]; simp [Op.operands, Call.operands, hcal]) t hft
    have hclos : ∀ (hr : runAct e o.dst (.dyn (callV cx.call (opnd e f) (cc.args.toList.map (opnd e))) .ofV) h ≠ .fail), After P c N (UG U gid) (runAct e o.dst (.dyn (callV cx.call (opnd e f) (cc.args.toList.map (opnd e))) .ofV) h) o a w := by
      intro hr
      have hf := opnd_ok H f hfv
      simp only [runAct] at hr ⊢
      generalize hq : opnd e f = q at hr hf ⊢
      unfold callV at hr ⊢
      split at hr
      · rename_i g fi cap
        simp only [VR] at hf
        obtain ⟨xs, ys, hav, hx, hy⟩ := hf
        refine call_after hC H hd hU ((hx.append hvs).append hy) (fun hfn => ?_) (.inl fun v => rfl) hr
        have hargs' : (xs ++ cc.args.toList.map a.eval ++ ys).toArray = xs.toArray ++ cc.args.map a.eval ++ ys.toArray := by rw [hmap]; simp
        simp only [execOp, ho, resolve, hcal, hav, Deferred.ofValue, Sem.run_bind, Sem.run_pure, Result.andThen_ok, invoke]
        rw [hargs']
        exact callFunc_run (w := w) hfn
      · exact absurd rfl hr
    cases f with
    | func f =>
      simp only at hr ⊢
      have hrunc : ∀ hfn, (execOp a.eval o).run P w = .ok (.enter f (cc.args.toList.map a.eval).toArray) w := fun hfn => by
        simp only [execOp, ho, resolve, hcal, Act.eval, Deferred.ofValue, Sem.run_bind, Sem.run_pure, Result.andThen_ok, invoke]
        rw [hmap]
        simpa using callFunc_run (w := w) (args := (cc.args.toList.map a.eval).toArray) hfn
      cases hfz : memO cx.ann.fz o.dst with
      | true =>
        rw [hfz] at hr
        simp only [cond_true] at hr ⊢
        cases hq : !(cx.iso f) && !(cx.nw f) && (cx.own f).isNone with
        | false => rw [hq] at hr; exact absurd rfl hr
        | true =>
          rw [hq] at hr
          simp only [cond_true] at hr ⊢
          exact fz_after (m := cx.call f (cc.args.toList.map (opnd e))) hd (fun hr => call_after hC H hd hU hvs hrunc (.inl fun v => rfl) hr) hr
      | false =>
      rw [hfz] at hr
      simp only [cond_false] at hr ⊢
      have hvt : VRs S β (cc.args.toList.map (opndT (memO cx.ann.hb o.dst) e)) (cc.args.toList.map a.eval) := by
        refine mapT hvs fun x hx => ?_
        unfold opndT
        cases memO cx.ann.hb o.dst with
        | false => exact opnd_ok H x (hargs x hx)
        | true => exact opndN_ok (opnd_ok H x (hargs x hx))
      refine call_after hC H hd hU hvt (fun hfn => ?_) ?_ hr
      rotate_left
      · cases hof : cx.own f with
        | none => exact .inl fun v => rfl
        | some sz => exact .inr ⟨sz, rfl, fun v => rfl⟩
      simp only [execOp, ho, resolve, hcal, Act.eval, Deferred.ofValue, Sem.run_bind, Sem.run_pure, Result.andThen_ok, invoke]
      rw [hmap]
      simpa using callFunc_run (w := w) (args := (cc.args.toList.map a.eval).toArray) hfn
    | tmp t => exact hclos hr
    | const v => exact hclos hr
    | global g => exact hclos hr
  | builtin b =>
    rw [hcal] at hr
    cases b <;> simp only at hr ⊢ <;> (try exact absurd rfl hr)
    case append =>
      split at hr
      · rename_i t u x y hts hxs
        cases hu : isAppT cx.T u with
        | false => rw [hu] at hr; exact absurd rfl hr
        | true =>
          rw [hu] at hr
          simp only [Bool.not_true, cond_false] at hr ⊢
          have hx : ∀ t, x = .tmp t → t < 1000 := hargs x (by rw [hxs]; simp)
          have hy : ∀ t, y = .tmp t → t < 1000 := hargs y (by rw [hxs]; simp)
          cases hha : memO cx.ann.ha o.dst with
          | true =>
            rw [hha] at hr
            simp only [cond_true] at hr ⊢
            cases hhb : memO cx.ann.hb o.dst with
            | true =>
              rw [hhb] at hr
              exact appB_op hT H hd ho hcal hts hxs hx hy hu hr
            | false =>
              rw [hhb] at hr
              exact appH_op hT H hd ho hcal hts hxs hx hy hu hr
          | false =>
            rw [hha] at hr
            simp only [cond_false] at hr ⊢
            cases hnc : isNilConst x with
            | true =>
              rw [hnc] at hr
              simp only [cond_true] at hr ⊢
              have hxc := isNilConst_inv hnc
              subst hxc
              have key : ∀ Y r, appA cx.T t (.sl []) Y = some r → SrcOK P S β w (a.eval y) Y → After P c N (UG U gid) (.ok (e.upd o.dst (Upd.own r gid (elemSize cx.T t))) h) o a w := fun Y r happ hsrc =>
                append_op hT H hd hU ho hcal hts hxs hu (as := []) (g0 := none) rfl (by simp only [VR]; exact ⟨none, 0, rfl, Nat.le_refl _, fun _ => rfl, fun q hq => by cases hq⟩) (.inl ⟨rfl, rfl⟩) happ hsrc
              cases hhl : memO cx.ann.hl o.dst with
              | true =>
                rw [hhl] at hr
                simp only [cond_true, runAct, Av.bnd, appR] at hr ⊢
                cases hsa : srcA h (opnd e y) with
                | none => rw [hsa] at hr; exact absurd rfl hr
                | some es =>
                  rw [hsa] at hr
                  simp only at hr ⊢
                  cases happ : appA cx.T t (.sl []) (.sl es) with
                  | none => rw [happ] at hr; exact absurd rfl hr
                  | some r => exact key _ r happ (srcOK_heap H (opnd_ok H y hy) hsa)
              | false =>
                rw [hhl] at hr
                simp only [cond_false] at hr ⊢
                cases happ : appA cx.T t (.sl []) (opnd e y) with
                | none => rw [happ] at hr; exact absurd rfl hr
                | some r => exact key _ r happ (srcOK_vr H.wf (opnd_ok H y hy))
            | false =>
              rw [hnc] at hr
              simp only [cond_false] at hr ⊢
              cases x <;> simp only at hr ⊢ <;> (try exact absurd rfl hr)
              rename_i s
              cases hg : (e.get s).g with
              | none => rw [hg] at hr; exact absurd rfl hr
              | some g =>
                rw [hg] at hr
                simp only at hr ⊢
                cases hal : aliveG e.al g with
                | none => rw [hal] at hr; exact absurd rfl hr
                | some z =>
                  rw [hal] at hr
                  simp only at hr ⊢
                  cases hz : szOk z (elemSize cx.T t) with
                  | false => rw [hz] at hr; exact absurd rfl hr
                  | true =>
                    rw [hz] at hr
                    simp only [cond_true] at hr ⊢
                    have key : ∀ Y r, appA cx.T t (opnd e (.tmp s)) Y = some r → SrcOK P S β w (a.eval y) Y → After P c N (UG U gid) (.ok (e.upd o.dst { Upd.own r gid (elemSize cx.T t) with drop := some g }) h) o a w := fun Y r happ hsrc => by
                      obtain ⟨as, has⟩ := appA_sl happ
                      have hvx := opnd_ok H (.tmp s) hx
                      rw [has] at hvx happ
                      have hγ := H.grps s g z (hx s rfl) hg hal
                      exact append_op hT H hd hU ho hcal hts hxs hu (as := as) (g0 := some g) rfl hvx (.inr ⟨g, z, rfl, by
                        have : a.eval (.tmp s) = γ g := hγ
                        rw [this]; exact H.free g z hal, hz⟩) happ hsrc
                    cases hhl : memO cx.ann.hl o.dst with
                    | true =>
                      rw [hhl] at hr
                      simp only [cond_true, runAct, Av.bnd, appR] at hr ⊢
                      cases hsa : srcA h (opnd e y) with
                      | none => rw [hsa] at hr; exact absurd rfl hr
                      | some es =>
                        rw [hsa] at hr
                        simp only at hr ⊢
                        cases happ : appA cx.T t (opnd e (.tmp s)) (.sl es) with
                        | none => rw [happ] at hr; exact absurd rfl hr
                        | some r => exact key _ r happ (srcOK_heap H (opnd_ok H y hy) hsa)
                    | false =>
                      rw [hhl] at hr
                      simp only [cond_false] at hr ⊢
                      cases happ : appA cx.T t (opnd e (.tmp s)) (opnd e y) with
                      | none => rw [happ] at hr; exact absurd rfl hr
                      | some r => exact key _ r happ (srcOK_vr H.wf (opnd_ok H y hy))
      · exact absurd rfl hr
    case clear =>
      split at hr
      · rename_i t ts x xs hts hxs
        exact clear_op hT H hd ho hcal hts hxs (hargs x (by rw [hxs]; simp)) hr
      · exact absurd rfl hr
    case len =>
      split at hr
      · rename_i t ts x xs hts hxs
        refine pure_op H hd (m := Builtin.len_ cc.argTypes o.type (cc.args.map a.eval)) ?_ (fun r hr' => ?_) hr
        · simp only [execOp, ho, resolve, hcal, invoke, builtin, pure_bind]
        · have h1 : cc.argTypes = (t :: ts).toArray := by apply Array.ext'; simpa using hts
          have h2 : cc.args.map a.eval = (a.eval x :: xs.map a.eval).toArray := by rw [hmap, hxs]; simp
          rw [h1, h2]
          exact len_ok hT ts (xs.map a.eval) hr' (opnd_ok H x (hargs x (by rw [hxs]; simp)))
      · exact absurd rfl hr
    case min =>
      refine pure_op H hd (m := Builtin.min_ cc.argTypes o.type (cc.args.map a.eval)) ?_ (fun r hr' => ?_) hr
      · simp only [execOp, ho, resolve, hcal, invoke, builtin, pure_bind]
      · obtain ⟨v, rest, he, hp⟩ := mins_ok (P := P) (w := w) _ _ (Nat.le_refl _) r _ hr' hvs
        obtain ⟨u, hu, hur⟩ := hp
        exact ⟨u, by rw [hmap]; simp only [Builtin.min_]; rw [he]; simpa using hu, hur⟩
    case max =>
      refine pure_op H hd (m := Builtin.max_ cc.argTypes o.type (cc.args.map a.eval)) ?_ (fun r hr' => ?_) hr
      · simp only [execOp, ho, resolve, hcal, invoke, builtin, pure_bind]
      · obtain ⟨v, rest, he, hp⟩ := mins_ok (P := P) (w := w) _ _ (Nat.le_refl _) r _ hr' hvs
        obtain ⟨u, hu, hur⟩ := hp
        exact ⟨u, by rw [hmap]; simp only [Builtin.max_]; rw [he]; simpa using hu, hur⟩
theorem fz_op (hT : TOK P cx.T) (H : FR c N U e h a w S β γ lam ω) (hd : ∀ t, o.dst = some t → t < N) {t p : Nat} (ho : o.op = .load t (.tmp p)) (hx : p < 1000) (hr : runAct e o.dst (fzA (opLoad cx e o.dst t p)) h ≠ .fail) :
    After P c N (UG U gid) (runAct e o.dst (fzA (opLoad cx e o.dst t p)) h) o a w := by
  have hsh : ActAll (Shape e gid {} none) (opLoad cx e o.dst t p) := load_shape o.dst t p {}
  have hl := fun hr => load_op (gid := gid) hT H hd ho hx hr
  revert hr
  generalize opLoad cx e o.dst t p = A at hsh hl
  intro hr
  cases A with
  | bad => exact absurd rfl hr
  | stat u =>
    intro next Q hn hp
    exact hl (by simp [runAct, M.pure]) next Q (fun e' h' a' w' h1 h2 h3 => by
      cases h1
      exact hn _ _ a' w' rfl (freeze_sat hd hsh h2) h3) (fun pv h' v w' h1 => by cases h1)
  | thr v => exact hl hr
  | dyn m sh =>
    intro next Q hn hp
    simp only [runAct, fzA, bnd, fzM, M.pure] at hr hn hp hl
    cases hm : m h with
    | fail => rw [hm] at hr; exact absurd rfl hr
    | pan pv h1 =>
      rw [hm] at hp hl
      exact hl (by simp) next Q (fun e' h' a' w' h1 => by cases h1) hp
    | ok v h1 =>
      rw [hm] at hn hl
      refine hl (by simp) next Q (fun e' h' a' w' k1 k2 k3 => ?_) (fun pv h' v w' k1 => by cases k1)
      cases k1
      exact hn _ _ a' w' rfl (freeze_sat hd (hsh v) k2) k3
theorem op_sound (hT : TOK P cx.T) (hC : CallsOK P cx.own cx.call) (H : FR c N U e h a w S β γ lam ω) (hd : ∀ t, o.dst = some t → t < N) (hU : ∀ g, gid ≤ g → g < gid + 1000 → ¬ U g)
    (ht : ∀ x ∈ o.op.operands.toList, ∀ t, x = .tmp t → t < 1000) (hpN : ∀ p, isS (findK cx.ann.kinds p .L) = true → p < N) (hr : runOp cx e gid o h ≠ .fail) : After P c N (UG U gid) (runOp cx e gid o h) o a w := by
  cases ho : o.op with
  | move x => exact move_op H hd hU (.inl ho) (fun t hx => ht x (by rw [ho]; simp [Op.operands]) t hx)
  | assign x => exact move_op H hd hU (.inr ho) (fun t hx => ht x (by rw [ho]; simp [Op.operands]) t hx)
  | pick k x y =>
    have h1 := fun t hx => ht k (by rw [ho]; simp [Op.operands]) t hx
    have h2 := fun t hx => ht x (by rw [ho]; simp [Op.operands]) t hx
    have h3 := fun t hx => ht y (by rw [ho]; simp [Op.operands]) t hx
    unfold runOp opD at hr ⊢
    rw [ho] at hr ⊢
    simp only at hr ⊢
    refine pure_op H hd (m := do pure (if ← asBool (a.eval k) then a.eval x else a.eval y)) ?_ (fun r hr' => pick_ok hr' (opnd_ok H k h1) (opnd_ok H x h2) (opnd_ok H y h3)) hr
    simp only [execOp, ho, bind_assoc, pure_bind]
  | alloc t => exact alloc_op hT H hd hU ho hr
  | box t x => exact box_op H hd hU ho (fun t hx => ht x (by rw [ho]; simp [Op.operands]) t hx) hr
  | build t ps =>
    have hps : ∀ p ∈ ps.toList, ∀ t, p.2 = .tmp t → t < 1000 := fun p hp t hx => ht p.2 (by rw [ho]; simp [Op.operands]; exact ⟨p.1, by simpa using hp⟩) t hx
    unfold runOp opD at hr ⊢
    rw [ho] at hr ⊢
    simp only at hr ⊢
    exact pure_op H hd (m := Instr.build t (ps.map fun p => (p.1, a.eval p.2))) (by simp only [execOp, ho]) (fun r hr' => build_ok hT hr' (by simpa using partsR_ok H ps.toList hps)) hr
  | buildSlice t n ps =>
    have hps : ∀ p ∈ ps.toList, ∀ t, p.2 = .tmp t → t < 1000 := fun p hp t hx => ht p.2 (by rw [ho]; simp [Op.operands]; exact ⟨p.1, by simpa using hp⟩) t hx
    cases hha : memO cx.ann.ha o.dst with
    | false => exact buildSlice_op hT H hd hU ho hps hha hr
    | true =>
      unfold runOp opD at hr ⊢
      rw [ho] at hr ⊢
      simp only [hha, cond_true] at hr ⊢
      exact buildH_op hT H hd ho hps hr
  | load t x =>
    unfold runOp opD at hr ⊢
    rw [ho] at hr ⊢
    cases x with
    | tmp p =>
      have hp := ht (.tmp p) (by rw [ho]; simp [Op.operands]) p rfl
      simp only at hr ⊢
      cases hnl : memO cx.ann.nl o.dst && isLocE (e.get p) with
      | true => rw [hnl] at hr; exact absurd rfl hr
      | false =>
      rw [hnl] at hr
      simp only [cond_false] at hr ⊢
      cases hz : memO cx.ann.fz o.dst with
      | false => rw [hz] at hr; exact load_op hT H hd ho hp hr
      | true =>
        rw [hz] at hr
        simp only [cond_true] at hr ⊢
        exact fz_op hT H hd ho hp hr
    | _ => exact absurd rfl hr
  | store t x y =>
    exact store_op hT H (fun _ _ => trivial) hU ho (fun t hx => ht x (by rw [ho]; simp [Op.operands]) t hx) (fun t hx => ht y (by rw [ho]; simp [Op.operands]) t hx) (fun p _ hp => hpN p hp) hr
  | nilCheck x => exact nilCheck_op H hd ho (fun t hx => ht x (by rw [ho]; simp [Op.operands]) t hx) hr
  | binOp op t x y u =>
    have h1 := fun t hx => ht x (by rw [ho]; simp [Op.operands]) t hx
    have h2 := fun t hx => ht y (by rw [ho]; simp [Op.operands]) t hx
    unfold runOp opD at hr ⊢
    rw [ho] at hr ⊢
    simp only at hr ⊢
    cases hlit : ifcCmp cx.T op t x y with
    | true => rw [hlit] at hr; exact absurd rfl hr
    | false =>
    rw [hlit] at hr
    simp only [cond_false] at hr ⊢
    exact pure_op H hd (m := do eqGuard op t x y (a.eval x) (a.eval y); Go.binOp op t (a.eval x) (a.eval y)) (by simp only [execOp, ho]) (fun r hr' => bin_ok hT x y hlit hr' (opndN_ok (opnd_ok H x h1)) (opndN_ok (opnd_ok H y h2))) hr
  | unOp op t x =>
    have h1 := fun t hx => ht x (by rw [ho]; simp [Op.operands]) t hx
    unfold runOp opD at hr ⊢
    rw [ho] at hr ⊢
    simp only at hr ⊢
    exact pure_op H hd (m := Op.unary op (a.eval x)) (by simp only [execOp, ho]) (fun r hr' => un_ok hr' (opnd_ok H x h1)) hr
  | convert s t x =>
    have h1 := fun t hx => ht x (by rw [ho]; simp [Op.operands]) t hx
    unfold runOp opD at hr ⊢
    rw [ho] at hr ⊢
    simp only at hr ⊢
    exact pure_op H hd (m := convert s t (a.eval x)) (by simp only [execOp, ho]) (fun r hr' => conv_ok hT hr' (opnd_ok H x h1)) hr
  | makeInterface t x =>
    have h1 := fun t hx => ht x (by rw [ho]; simp [Op.operands]) t hx
    unfold runOp opD at hr ⊢
    rw [ho] at hr ⊢
    simp only at hr ⊢
    exact pure_op H hd (m := Instr.makeInterface t (a.eval x)) (by simp only [execOp, ho]) (fun r hr' => mkIface_ok hT hr' (opnd_ok H x h1)) hr
  | makeFunc f x y =>
    have h1 := opnds_ok H x.toList (fun z hz t hx => ht z (by rw [ho]; simp [Op.operands]; exact .inl (by simpa using hz)) t hx)
    have h2 := opnds_ok H y.toList (fun z hz t hx => ht z (by rw [ho]; simp [Op.operands]; exact .inr (by simpa using hz)) t hx)
    unfold runOp opD at hr ⊢
    rw [ho] at hr ⊢
    simp only at hr ⊢
    refine After.val (v := .func f (x.map a.eval) (y.map a.eval)) (w' := w) (by simp [execOp, ho, Instr.makeFunc]) (Sat.up ⟨S, β, γ, lam, ω, H.setV hd ?_⟩)
    simp only [VR]
    have hm : ∀ z : Array Operand, z.map a.eval = (z.toList.map a.eval).toArray := fun z => by apply Array.ext'; simp
    exact ⟨_, _, by rw [hm x, hm y], h1, h2⟩
  | makeSlice t x y => exact makeSlice_op hT H hd hU ho (fun t hx => ht x (by rw [ho]; simp [Op.operands]) t hx) (fun t hx => ht y (by rw [ho]; simp [Op.operands]) t hx) hr
  | slice t x lo hi mx =>
    cases hso : memO cx.ann.so o.dst with
    | true =>
      unfold runOp opD at hr ⊢
      rw [ho] at hr ⊢
      simp only [hso, cond_true] at hr ⊢
      exact cut_op hT H hd hU ho (fun t hx => ht x (by rw [ho]; simp [Op.operands]) t hx) (fun y hy t hx => ht y (by rw [ho]; simp [Op.operands, hy]) t hx) hr
    | false =>
      exact slice_op hT H hd hU ho (fun t hx => ht x (by rw [ho]; simp [Op.operands]) t hx) (fun y hy t hx => ht y (by rw [ho]; simp [Op.operands, hy]) t hx) (fun y hy t hx => ht y (by rw [ho]; simp [Op.operands, hy]) t hx) (fun y hy t hx => ht y (by rw [ho]; simp [Op.operands, hy]) t hx) hso hr
  | fieldAddr t x f => exact fieldAddr_op hT H hd ho (fun t hx => ht x (by rw [ho]; simp [Op.operands]) t hx) hr
  | field t x f =>
    have h1 := fun t hx => ht x (by rw [ho]; simp [Op.operands]) t hx
    unfold runOp opD at hr ⊢
    rw [ho] at hr ⊢
    simp only at hr ⊢
    exact pure_op H hd (m := Instr.field t (a.eval x) f) (by simp only [execOp, ho]) (fun r hr' => field_ok hT hr' (opnd_ok H x h1)) hr
  | indexAddr t x i => exact indexAddr_op hT H hd ho (fun t hx => ht x (by rw [ho]; simp [Op.operands]) t hx) (fun t hx => ht i (by rw [ho]; simp [Op.operands]) t hx) hr
  | index t x i =>
    have h1 := fun t hx => ht x (by rw [ho]; simp [Op.operands]) t hx
    have h2 := fun t hx => ht i (by rw [ho]; simp [Op.operands]) t hx
    unfold runOp opD at hr ⊢
    rw [ho] at hr ⊢
    simp only at hr ⊢
    exact pure_op H hd (m := Instr.index t (a.eval x) (a.eval i)) (by simp only [execOp, ho]) (fun r hr' => indexStr_ok hT hr' (opnd_ok H x h1) (opnd_ok H i h2)) hr
  | extract x i =>
    have h1 := fun t hx => ht x (by rw [ho]; simp [Op.operands]) t hx
    unfold runOp opD at hr ⊢
    rw [ho] at hr ⊢
    simp only at hr ⊢
    exact pure_op H hd (m := Instr.extract (a.eval x) i) (by simp only [execOp, ho]) (fun r hr' => extract_ok hr' (opnd_ok H x h1)) hr
  | panic x =>
    have h1 := fun t hx => ht x (by rw [ho]; simp [Op.operands]) t hx
    have hv := opnd_ok H x h1
    unfold runOp opD at hr ⊢
    rw [ho] at hr ⊢
    simp only at hr ⊢
    cases hq : opnd e x <;> rw [hq] at hr hv <;> (try exact absurd rfl hr)
    rename_i t v
    intro next Q hn hp
    simp only [VR] at hv
    obtain ⟨y, hav, hy⟩ := hv
    unfold Oper.wp
    have hrun : (execOp a.eval o).run P w = .halt (.panic (.iface t y)) w := by simp [execOp, ho, hav, Instr.panic]
    rw [hrun]
    exact hp (.iface t v) h (.iface t y) w rfl ⟨S, β, H.out, by simp only [VR]; exact ⟨y, rfl, hy⟩⟩
  | call cc =>
    unfold runOp opD at hr ⊢
    rw [ho] at hr ⊢
    simp only at hr ⊢
    exact call_op hT hC H hd hU ho ht hr
  | makeMap t r =>
    unfold runOp opD at hr ⊢
    rw [ho] at hr ⊢
    simp only at hr ⊢
    cases r with
    | some r => exact absurd rfl hr
    | none =>
      simp only [Option.isSome_none, cond_false]
      exact makeMap_op H hd ho
  | lookup t x i ok =>
    have h1 := fun t hx => ht x (by rw [ho]; simp [Op.operands]) t hx
    have h2 := fun t hx => ht i (by rw [ho]; simp [Op.operands]) t hx
    unfold runOp opD at hr ⊢
    rw [ho] at hr ⊢
    simp only at hr ⊢
    exact lookup_op hT H hd ho h1 h2 hr
  | range t x =>
    have h1 := fun t hx => ht x (by rw [ho]; simp [Op.operands]) t hx
    unfold runOp opD at hr ⊢
    rw [ho] at hr ⊢
    simp only at hr ⊢
    exact range_op hT H hd ho h1 hr
  | entry x =>
    have h1 := fun t hx => ht x (by rw [ho]; simp [Op.operands]) t hx
    unfold runOp opD at hr ⊢
    rw [ho] at hr ⊢
    simp only at hr ⊢
    exact entry_op H hd ho h1 hr
  | mapUpdate t m k x =>
    have h1 := fun t hx => ht m (by rw [ho]; simp [Op.operands]) t hx
    have h2 := fun t hx => ht k (by rw [ho]; simp [Op.operands]) t hx
    have h3 := fun t hx => ht x (by rw [ho]; simp [Op.operands]) t hx
    unfold runOp opD at hr ⊢
    rw [ho] at hr ⊢
    simp only at hr ⊢
    exact put_op hT H (.inl ho) h1 h2 h3 hr
  | insert t m k x =>
    have h1 := fun t hx => ht m (by rw [ho]; simp [Op.operands]) t hx
    have h2 := fun t hx => ht k (by rw [ho]; simp [Op.operands]) t hx
    have h3 := fun t hx => ht x (by rw [ho]; simp [Op.operands]) t hx
    unfold runOp opD at hr ⊢
    rw [ho] at hr ⊢
    simp only at hr ⊢
    exact put_op hT H (.inr ho) h1 h2 h3 hr
  | _ => unfold runOp opD at hr; rw [ho] at hr; exact absurd rfl hr
end
end Go.Av

/- What the operations of the abstract evaluator hang on. No condition. -/
namespace Go.Av
variable [Dr]
structure Agree (cx : Cx) (o : Oper) (e e' : Env) : Prop where
  ops : ∀ t ∈ opTmps o, e'.get t = e.get t
  loc : ((footOf cx o).rl || (footOf cx o).wl) = true → (∀ t, 1000 ≤ t → e'.get t = e.get t) ∧ ∀ B, lbSize e'.lb B = lbSize e.lb B
  al : (footOf cx o).dr = true → ∀ g, aliveG e'.al g = aliveG e.al g
  lf : (footOf cx o).wl = true → ∀ s, o.dst = some s → locFree e.sl (lbase s) = true → locFree e'.sl (lbase s) = true
section
variable {cx : Cx} {e e' : Env} {gid : Nat} {o : Oper}
omit [Dr] in
theorem Agree.get (A : Agree cx o e e') {t : Nat} (h : Operand.tmp t ∈ o.op.operands.toList) : e'.get t = e.get t :=
  A.ops t (List.mem_filterMap.2 ⟨.tmp t, h, rfl⟩)
omit [Dr] in
theorem Agree.opnd (A : Agree cx o e e') {x : Operand} (h : x ∈ o.op.operands.toList) : opnd e' x = opnd e x := by
  cases x with
  | tmp t => simp only [Av.opnd, Env.av]; rw [A.get h]
  | const v => rfl
  | func f => rfl
  | global g => rfl
omit [Dr] in
theorem Agree.opnds (A : Agree cx o e e') {l : List Operand} (h : ∀ x ∈ l, x ∈ o.op.operands.toList) : l.map (Av.opnd e') = l.map (Av.opnd e) :=
  List.map_congr_left fun x hx => A.opnd (h x hx)
omit [Dr] in
theorem Agree.parts (A : Agree cx o e e') {l : List (Nat × Operand)} (h : ∀ x ∈ l, x.2 ∈ o.op.operands.toList) : l.map (fun p => (p.1, Av.opnd e' p.2)) = l.map (fun p => (p.1, Av.opnd e p.2)) :=
  List.map_congr_left fun x hx => by rw [A.opnd (h x hx)]
omit [Dr] in
theorem getLs_congr (h : ∀ t, 1000 ≤ t → e'.get t = e.get t) {B : Nat} (hB : 1000 ≤ B) : ∀ n, getLs e' B n = getLs e B n
  | 0 => rfl
  | n + 1 => by
    simp only [getLs, Env.av]
    rw [getLs_congr h hB n, h (B + n) (by omega)]
omit [Dr] in
theorem inLb_congr (h : ∀ B, lbSize e'.lb B = lbSize e.lb B) (B off n : Nat) : inLb e' B off n = inLb e B off n := by
  unfold inLb; rw [h]
omit [Dr] in
theorem wholeB_congr (h : ∀ B, lbSize e'.lb B = lbSize e.lb B) (B off p n : Nat) : wholeB e' B off p n = wholeB e B off p n := by
  unfold wholeB; rw [h]
omit [Dr] in
theorem move_agree {told : Bool} {x : Operand} (A : Agree cx o e e') (h : x ∈ o.op.operands.toList) : opMove told e' gid x = opMove told e gid x := by
  unfold opMove
  cases x with
  | tmp t => simp only; rw [A.get h]
  | _ => rfl
omit [Dr] in
theorem load_agree {d : Option Tmp} {t : TypeId} {p : Nat} (A : Agree cx o e e') (hp : Operand.tmp p ∈ o.op.operands.toList) (hf : (footOf cx o).rl = true ∨ isLocE (e.get p) = false) : opLoad cx e' d t p = opLoad cx e d t p := by
  unfold opLoad
  rw [A.get hp]
  cases hv : (e.get p).v with
  | val a => rfl
  | loc B off =>
    replace hf : (footOf cx o).rl = true := hf.elim id fun h => by simp [isLocE, hv] at h
    simp only
    cases cx.T t with
    | none => rfl
    | some ti =>
      obtain ⟨h1, h2⟩ := A.loc (by rw [hf]; rfl)
      simp only
      rw [inLb_congr h2]
      cases hlb : inLb e B off ti.size with
      | false => rfl
      | true =>
        obtain ⟨m, _, _, hB⟩ := inLb_inv hlb
        rw [getLs_congr h1 (by omega), h1 (B + off) (by omega)]
omit [Dr] in
theorem store_agree {t : TypeId} {p : Nat} {y : Operand} (A : Agree cx o e e') (hp : Operand.tmp p ∈ o.op.operands.toList) (hy : y ∈ o.op.operands.toList) (hf : (footOf cx o).wl = true) : opStore cx e' gid t p y = opStore cx e gid t p y := by
  unfold opStore
  rw [A.get hp, A.opnd hy]
  obtain ⟨h1, h2⟩ := A.loc (by rw [hf]; simp)
  cases hv : (e.get p).v with
  | val a => rfl
  | loc B off =>
    simp only
    cases cx.T t with
    | none => rfl
    | some ti =>
      simp only
      rw [inLb_congr h2, wholeB_congr h2]
      cases y with
      | tmp s => simp only; rw [A.get hy]
      | _ => rfl
omit [Dr] in
theorem field_agree {t : TypeId} {p i : Nat} (A : Agree cx o e e') (hp : Operand.tmp p ∈ o.op.operands.toList) : opField cx e' t p i = opField cx e t p i := by
  unfold opField
  rw [A.get hp]
omit [Dr] in
theorem index_agree {t : TypeId} {p : Nat} {i : Operand} (A : Agree cx o e e') (hp : Operand.tmp p ∈ o.op.operands.toList) (hi : i ∈ o.op.operands.toList) : opIndexAddr cx e' t p i = opIndexAddr cx e t p i := by
  unfold opIndexAddr
  rw [A.get hp, A.opnd hi]
omit [Dr] in
theorem alloc_agree {s : Nat} {t : TypeId} (A : Agree cx o e e') (hs : o.dst = some s) (hf : findK cx.ann.kinds s .L ≠ .F → findK cx.ann.kinds s .L ≠ .H → findK cx.ann.kinds s .L ≠ .B → (footOf cx o).wl = true) (hb : opAlloc cx e gid s t ≠ .bad) : opAlloc cx e' gid s t = opAlloc cx e gid s t := by
  unfold opAlloc at hb ⊢
  cases ht : cx.T t with
  | none => rfl
  | some ti =>
    rw [ht] at hb
    simp only at hb ⊢
    cases hk : findK cx.ann.kinds s .L <;> rw [hk] at hb hf <;> simp only at hb ⊢
    all_goals
      have hw := hf (by simp) (by simp) (by simp)
      cases hl : locFree e.sl (lbase s) with
      | false => exact absurd (by rw [hl]; simp) hb
      | true => rw [A.lf hw s hs hl]
omit [Dr] in
theorem box_agree {s : Nat} {t : TypeId} {x : Operand} (A : Agree cx o e e') (hs : o.dst = some s) (hx : x ∈ o.op.operands.toList) (hf : findK cx.ann.kinds s .F ≠ .F → findK cx.ann.kinds s .F ≠ .H → findK cx.ann.kinds s .F ≠ .B → (footOf cx o).wl = true) (hb : opBox cx e s t x ≠ .bad) : opBox cx e' s t x = opBox cx e s t x := by
  unfold opBox at hb ⊢
  rw [A.opnd hx]
  cases hk : findK cx.ann.kinds s .F <;> rw [hk] at hb hf <;> simp only at hb ⊢
  all_goals
    cases ht : cx.T t with
    | none => rfl
    | some ti =>
      rw [ht] at hb
      simp only at hb ⊢
      have hw := hf (by simp) (by simp) (by simp)
      cases hl : locFree e.sl (lbase s) with
      | false => exact absurd (by rw [hl]; simp) hb
      | true => rw [A.lf hw s hs hl]
omit [Dr] in
theorem call_agree {c : Call} (A : Agree cx o e e') (ho : o.op = .call c) : opCall cx e' gid o c = opCall cx e gid o c := by
  have hargs : ∀ x ∈ c.args.toList, x ∈ o.op.operands.toList := fun x hx => by
    rw [ho]; simp [Op.operands, Call.operands]; exact .inr (by simpa using hx)
  have hT : ∀ b : Bool, c.args.toList.map (opndT b e') = c.args.toList.map (opndT b e) := fun b => by
    refine List.map_congr_left fun x hx => ?_
    unfold opndT opndN
    rw [A.opnd (hargs x hx)]
  unfold opCall
  rw [A.opnds hargs, hT]
  cases hc : c.callee with
  | invoke r m => rfl
  | value f =>
    have hf : f ∈ o.op.operands.toList := by rw [ho]; simp [Op.operands, Call.operands, hc]
    cases f with
    | func g => rfl
    | _ => simp only; rw [A.opnd hf]
  | builtin b =>
    cases b <;> simp only
    case clear =>
      split
      · rename_i t ts x xs hts hxs
        rw [A.opnd (hargs x (by rw [hxs]; simp))]
      · rfl
    case len =>
      split
      · rename_i t ts x xs hts hxs
        rw [A.opnd (hargs x (by rw [hxs]; simp))]
      · rfl
    case append =>
      split
      · rename_i t u x y hts hxs
        have hx := hargs x (by rw [hxs]; simp)
        rw [A.opnd hx, A.opnd (hargs y (by rw [hxs]; simp))]
        cases isAppT cx.T u with
        | false => rfl
        | true =>
          simp only [Bool.not_true, cond_false]
          cases hha : memO cx.ann.ha o.dst with
          | true =>
            have hns : noSpare e' x = noSpare e x := by
              cases x with
              | tmp s =>
                have hdr : (footOf cx o).dr = true := by
                  unfold footOf; rw [ho]; simp only [hc, hha, cond_true]
                unfold noSpare
                simp only
                rw [A.get hx]
                cases (e.get s).g with
                | none => rfl
                | some g => simp only; rw [A.al hdr]
              | _ => rfl
            rw [hns]
            rfl
          | false =>
            simp only [cond_false]
            cases hn : isNilConst x with
            | true => rfl
            | false =>
              simp only [cond_false]
              cases x with
              | tmp s =>
                simp only
                rw [A.get hx]
                have hdr : (footOf cx o).dr = true := by
                  unfold footOf; rw [ho]; simp only [hc, hha, cond_false, hxs, hn]; rfl
                cases (e.get s).g with
                | none => rfl
                | some g => simp only; rw [A.al hdr]
              | _ => rfl
      · rfl
omit [Dr] in
theorem kind_wl {k : Kind} {f g b h : Foot} (hh : h.wl = true) (h1 : k ≠ .F) (h2 : k ≠ .H) (h3 : k ≠ .B) : (match k with | .F => f | .H => g | .B => b | _ => h).wl = true := by
  cases k <;> first | exact absurd rfl h1 | exact absurd rfl h2 | exact absurd rfl h3 | exact hh
omit [Dr] in
theorem opD_agree (A : Agree cx o e e') (hb : opD cx e gid o ≠ .bad) : opD cx e' gid o = opD cx e gid o := by
  have hm : ∀ {x : Operand}, x ∈ o.op.operands.toList → opnd e' x = opnd e x := fun h => A.opnd h
  unfold opD at hb ⊢
  cases ho : o.op <;> rw [ho] at hb hm <;> simp only [Op.operands] at hm hb ⊢
  case move x => exact move_agree A (by rw [ho]; simp [Op.operands])
  case assign x => exact move_agree A (by rw [ho]; simp [Op.operands])
  case pick k x y => rw [hm (x := k) (by simp), hm (x := x) (by simp), hm (x := y) (by simp)]
  case box t x =>
    cases hd : o.dst with
    | none => rfl
    | some s =>
      rw [hd] at hb
      exact box_agree A hd (by rw [ho]; simp [Op.operands]) (fun h1 h2 h3 => by unfold footOf; rw [ho, hd]; exact kind_wl rfl h1 h2 h3) hb
  case alloc t =>
    cases hd : o.dst with
    | none => rfl
    | some s =>
      rw [hd] at hb
      exact alloc_agree A hd (fun h1 h2 h3 => by unfold footOf; rw [ho, hd]; exact kind_wl rfl h1 h2 h3) hb
  case load t x =>
    cases x with
    | tmp p =>
      simp only
      rw [A.get (t := p) (by rw [ho]; simp [Op.operands])]
      cases hnl : memO cx.ann.nl o.dst && isLocE (e.get p) with
      | true => rfl
      | false =>
        rw [load_agree A (by rw [ho]; simp [Op.operands]) (by
          rw [Bool.and_eq_false_iff] at hnl
          rcases hnl with h | h
          · exact .inl (by unfold footOf; rw [ho]; simp [h])
          · exact .inr h)]
    | _ => rfl
  case store t x y =>
    cases x with
    | tmp p =>
      cases hd : o.dst with
      | some d => rfl
      | none =>
        simp only
        rw [A.get (t := p) (by rw [ho]; simp [Op.operands]), store_agree A (by rw [ho]; simp [Op.operands]) (by rw [ho]; simp [Op.operands]) (by unfold footOf; rw [ho])]
    | _ => rfl
  case build t ps => rw [A.parts (l := ps.toList) (fun p hp => by rw [ho]; simp [Op.operands]; exact ⟨p.1, by simpa using hp⟩)]
  case buildSlice t n ps => rw [A.parts (l := ps.toList) (fun p hp => by rw [ho]; simp [Op.operands]; exact ⟨p.1, by simpa using hp⟩)]
  case nilCheck x =>
    cases x with
    | tmp p => simp only; rw [A.get (by rw [ho]; simp [Op.operands])]
    | _ => rfl
  case binOp op t x y u =>
    have hn : ∀ {x : Operand}, x ∈ o.op.operands.toList → opndN e' x = opndN e x := fun h => by unfold opndN; rw [A.opnd h]
    rw [hn (x := x) (by rw [ho]; simp [Op.operands]), hn (x := y) (by rw [ho]; simp [Op.operands])]
  case unOp op t x => rw [hm (x := x) (by simp)]
  case convert s t x => rw [hm (x := x) (by simp)]
  case makeInterface t x => rw [hm (x := x) (by simp)]
  case makeFunc f x y =>
    rw [A.opnds (l := x.toList) (fun z hz => by rw [ho]; simp [Op.operands]; exact .inl (by simpa using hz)), A.opnds (l := y.toList) (fun z hz => by rw [ho]; simp [Op.operands]; exact .inr (by simpa using hz))]
  case makeSlice t x y => rw [hm (x := x) (by simp), hm (x := y) (by simp)]
  case slice t x lo hi mx =>
    have h1 : ∀ z : Option Operand, (∀ y, z = some y → y ∈ o.op.operands.toList) → z.map (opnd e') = z.map (opnd e) := by
      intro z hz
      cases z with
      | none => rfl
      | some y => simp only [Option.map_some]; rw [A.opnd (hz y rfl)]
    have hcut : opCut cx e' gid t x lo hi mx = opCut cx e gid t x lo hi mx ∨ memO cx.ann.so o.dst = false := by
      cases hso : memO cx.ann.so o.dst with
      | false => exact .inr rfl
      | true =>
        refine .inl ?_
        unfold opCut
        cases x with
        | tmp s =>
          have hdr : (footOf cx o).dr = true := by unfold footOf; rw [ho]; simp only [hso, cond_true]
          simp only [A.get (t := s) (by rw [ho]; simp [Op.operands]), A.al hdr, hm (x := .tmp s) (by simp), h1 lo (fun y hy => by rw [ho]; simp [Op.operands, hy])]
        | _ => rfl
    rcases hcut with hcut | hcut
    · rw [hcut, hm (x := x) (by simp), h1 lo (fun y hy => by rw [ho]; simp [Op.operands, hy]), h1 hi (fun y hy => by rw [ho]; simp [Op.operands, hy]), h1 mx (fun y hy => by rw [ho]; simp [Op.operands, hy])]
    rw [hcut]
    simp only [cond_false]
    rw [hm (x := x) (by simp), h1 lo (fun y hy => by rw [ho]; simp [Op.operands, hy]), h1 hi (fun y hy => by rw [ho]; simp [Op.operands, hy]), h1 mx (fun y hy => by rw [ho]; simp [Op.operands, hy])]
  case fieldAddr t x i =>
    cases x with
    | tmp p => exact field_agree A (by rw [ho]; simp [Op.operands])
    | _ => rfl
  case indexAddr t x i =>
    cases x with
    | tmp p => exact index_agree A (by rw [ho]; simp [Op.operands]) (by rw [ho]; simp [Op.operands])
    | _ => rfl
  case field t x f => rw [hm (x := x) (by simp)]
  case index t x i => rw [hm (x := x) (by simp), hm (x := i) (by simp)]
  case extract x i => rw [hm (x := x) (by simp)]
  case lookup t x i ok => rw [hm (x := x) (by simp), hm (x := i) (by simp)]
  case mapUpdate t m k x => unfold opPut; rw [hm (x := m) (by simp), hm (x := k) (by simp), hm (x := x) (by simp)]
  case insert t m k x => unfold opPut; rw [hm (x := m) (by simp), hm (x := k) (by simp), hm (x := x) (by simp)]
  case panic x => rw [hm (x := x) (by simp)]
  case range t x => rw [hm (x := x) (by simp)]
  case entry x => rw [hm (x := x) (by simp)]
  case call c => exact call_agree A ho
end
end Go.Av

/- A region's operations one after another. Conditions: the table of types is the program's; the calls are right. -/
namespace Go.Av
variable [Dr]
def actOf : Act1 → M Upd
  | .bad => M.fail
  | .stat u => M.pure u
  | .dyn m sh => bnd m fun v => M.pure (sh v)
  | .thr v => throwM v
def gLook (c : AV) (want : Bool) (m : M Upd) : M Upd := match c with
  | .bool b => bif b == want then m else M.pure (.ofV (.tup []))
  | .tup [] => M.pure (.ofV (.tup []))
  | _ => M.fail
def actG (cx : Cx) (base : Nat) (ops : Array Oper) (i : Nat) (e : Env) : M Upd := match ops[i]? with
  | none => M.fail
  | some o => match o.guard with
    | none => actOf (opD cx e ((base + i) * 1000) o)
    | some (j, want) => match dstOf ops j with
      | none => M.fail
      | some t => bif plainOp cx o then gLook (e.av t) want (actOf (stripA (opD cx e ((base + i) * 1000) o))) else M.fail
def stepG (cx : Cx) (base : Nat) (ops : Array Oper) (i : Nat) (e : Env) : M Env := bnd (actG cx base ops i e) fun u => M.pure (e.upd (dstOf ops i) u)
def runSeq (cx : Cx) (base : Nat) (ops : Array Oper) : List Nat → Env → M Env
  | [], e => M.pure e
  | i :: is, e => bnd (stepG cx base ops i e) (runSeq cx base ops is)
omit [Dr] in
theorem runAct_eq (e : Env) (d : Option Tmp) (A : Act1) : runAct e d A = bnd (actOf A) fun u => M.pure (e.upd d u) := by
  cases A with
  | bad => rfl
  | stat u => rfl
  | dyn m sh => simp only [runAct, actOf, bnd_bnd, bnd_pure]
  | thr v => rfl
omit [Dr] in
theorem actOf_all {p : Upd → Prop} {A : Act1} (h : ActAll p A) {x y : Hp} {u : Upd} (hr : actOf A x = .ok u y) : p u := by
  cases A with
  | bad => cases hr
  | stat v => cases hr; exact h
  | dyn m sh =>
    simp only [actOf, bnd, M.pure] at hr
    cases hm : m x <;> rw [hm] at hr <;> simp at hr
    rw [← hr.1]; exact h _
  | thr v => cases hr
omit [Dr] in
theorem actOf_strip (A : Act1) (x : Hp) : actOf (stripA A) x = (match actOf A x with | .ok u y => .ok (stripU u) y | .pan v y => .pan v y | .fail => .fail) := by
  cases A with
  | bad => rfl
  | stat v => rfl
  | dyn m sh =>
    simp only [actOf, stripA, bnd, M.pure]
    cases m x <;> rfl
  | thr v => rfl
section
variable {P : Program} {cx : Cx} {c : Entry} {N : Nat} {e : Env} {h : Hp} {a : Act} {w : World} {ops : Array Oper} {base : Nat}
def UD (base : Nat) (D : List Nat) : Nat → Prop := fun g => g < base * 1000 ∨ ∃ i ∈ D, (base + i) * 1000 ≤ g ∧ g < (base + i) * 1000 + 1000
omit [Dr] in
theorem UD_fresh {D : List Nat} {i : Nat} (hi : i ∉ D) : ∀ g, (base + i) * 1000 ≤ g → g < (base + i) * 1000 + 1000 → ¬ UD base D g := by
  rintro g h1 h2 (h3 | ⟨j, hj, h4, h5⟩)
  · have : base * 1000 ≤ (base + i) * 1000 := Nat.mul_le_mul_right _ (by omega)
    omega
  · have : i = j := by omega
    exact hi (this ▸ hj)
omit [Dr] in
theorem UD_step {D : List Nat} {i : Nat} : ∀ g, UG (UD base D) ((base + i) * 1000) g → UD base (i :: D) g := by
  rintro g ((h1 | ⟨j, hj, h2⟩) | h1)
  · exact .inl h1
  · exact .inr ⟨j, by simp [hj], h2⟩
  · exact .inr ⟨i, by simp, h1⟩
structure OpsOk (N : Nat) (cx : Cx) (ops : Array Oper) : Prop where
  dst : ∀ (i : Nat) (o : Oper), ops[i]? = some o → ∀ t, o.dst = some t → t < N
  src : ∀ (i : Nat) (o : Oper), ops[i]? = some o → ∀ x ∈ o.op.operands.toList, ∀ t, x = .tmp t → t < 1000
  kin : ∀ p, isS (findK cx.ann.kinds p .L) = true → p < N
omit [Dr] in
theorem getD_bool {x : Array Value} {t : Nat} {b : Bool} (h : x.getD t undef = .bool b) : x[t]? = some (.bool b) := by
  rw [Array.getD_eq_getD_getElem?] at h
  cases hx : x[t]? with
  | none => rw [hx] at h; cases h
  | some v => rw [hx] at h; simp at h; rw [h]
theorem strip_sat {U : Nat → Prop} {gid : Nat} {f : Foot} {ss : Option Nat} {d : Option Tmp} {u : Upd} (hs : Shape e gid f ss u) (hw : f.wl = false) (hdr : f.dr = false) (hU : ∀ g z, aliveG e.al g = some z → g ≠ gid) {a' : Act} {w' : World} {h' : Hp}
    (H : Sat c N U (e.upd d u) h' a' w') : Sat c N U (e.upd d (stripU u)) h' a' w' := by
  obtain ⟨S, β, γ, lam, ω, F⟩ := H
  have h1 := hs.ls hw
  have h2 := hs.lb hw
  have h3 := hs.unlb hw
  have h4 := hs.nodr hdr
  have hget : ∀ t, (e.upd d (stripU u)).get t = if d = some t then ⟨u.ent.v, none⟩ else e.get t := fun t => by rw [get_upd]; rfl
  have hget' : ∀ t, (e.upd d u).get t = if d = some t then u.ent else e.get t := fun t => by rw [get_upd, h1]; rfl
  refine ⟨S, β, γ, lam, ω, F.weak (fun t => .inl ?_) (fun t g hg => ?_) (fun g z hz => ?_) (fun B n hB => ?_)⟩
  · rw [hget, hget']; split <;> rfl
  · rw [hget] at hg
    rw [hget']
    split at hg
    · cases hg
    · rename_i hd; rw [if_neg hd]; exact hg
  · have hz' : aliveG e.al g = some z := hz
    show aliveG (u.add ++ dropO e.al u.drop) g = some z
    rw [h4]
    have hne := hU g z hz'
    have : ∀ l : List (Nat × Option Nat), (∀ x ∈ l, x.1 = gid) → aliveG (l ++ dropO e.al none) g = some z := by
      intro l
      induction l with
      | nil => intro _; exact hz'
      | cons x l ih =>
        intro hl
        obtain ⟨k, y⟩ := x
        rw [List.cons_append, aliveG_cons, if_neg]
        · exact ih fun x hx => hl x (by simp [hx])
        · have := hl (k, y) (by simp)
          simp at this
          omega
    exact this u.add (hs.add hw)
  · show lbSize (addO (dropLb e.lb u.unlb) u.lb) B = some n
    rw [h2, h3]
    exact hB
theorem step_sound (hT : TOK P cx.T) (hC : CallsOK P cx.own cx.call) (hO : OpsOk N cx ops) {D : List Nat} {i : Nat} (hi : i ∉ D) (H : Sat c N (UD base D) e h a w) (hr : stepG cx base ops i e h ≠ .fail)
    {K : Act → World → Prop} {Q : Exit → Act → World → Prop} (hn : ∀ e' h' a' w', stepG cx base ops i e h = .ok e' h' → Sat c N (UD base (i :: D)) e' h' a' w' → a'.defers = a.defers → K a' w')
    (hp : ∀ pv h' v w', stepG cx base ops i e h = .pan pv h' → PanSat c pv h' v w' → Q (.panic [{ v, recovered := false }]) a w') : wpOp P ops Q i K a w := by
  obtain ⟨S, β, γ, lam, ω, F⟩ := H
  unfold stepG actG at hr hn hp
  simp only [wpOp]
  cases ho : ops[i]? with
  | none => rw [ho] at hr; exact absurd rfl hr
  | some o =>
    have hdst : dstOf ops i = o.dst := by simp [dstOf, ho]
    rw [hdst, ho] at hr hn hp
    simp only at hr hn hp ⊢
    have hop := fun (hr : runOp cx e ((base + i) * 1000) o h ≠ .fail) => op_sound hT hC F (hO.dst i o ho) (UD_fresh hi) (hO.src i o ho) hO.kin hr
    cases hg : o.guard with
    | none =>
      rw [hg] at hr hn hp
      simp only at hr hn hp
      rw [← runAct_eq] at hr hn hp
      have hw : Region.wanted o (yielded ops a.tmps) = true := by unfold Region.wanted; rw [hg]
      rw [if_pos hw]
      exact .inl (hop hr K Q (fun e' h' a' w' h1 h2 h3 => hn e' h' a' w' h1 (h2.wider UD_step) h3) hp)
    | some g =>
      obtain ⟨j, want⟩ := g
      rw [hg] at hr hn hp
      simp only at hr hn hp
      have hwant : Region.wanted o (yielded ops a.tmps) = (yielded ops a.tmps j == some want) := by unfold Region.wanted; rw [hg]
      cases hdj : dstOf ops j with
      | none => rw [hdj] at hr; exact absurd rfl hr
      | some t =>
        rw [hdj] at hr hn hp
        simp only at hr hn hp
        cases hpl : plainOp cx o with
        | false => rw [hpl] at hr; exact absurd rfl hr
        | true =>
        rw [hpl] at hr hn hp
        simp only [cond_true] at hr hn hp
        have hdj' : (ops[j]?).bind (·.dst) = some t := hdj
        have htN : t < N := by
          cases hoj : ops[j]? with
          | none => rw [hoj] at hdj'; simp at hdj'
          | some oj => rw [hoj] at hdj'; exact hO.dst j oj hoj t hdj'
        have hs := F.slots t (by have := F.tsz.2; omega)
        have hav : VR S β (e.av t) (a.tmps.getD t undef) := by
          simp only [Env.av, Ent.av]
          cases hv : (e.get t).v with
          | val av => rw [hv] at hs; exact hs
          | loc B off => simp [VR]
        have hskip : (∀ e' h' a' w', (R.ok (e.upd o.dst (.ofV (.tup []))) h : R Env) = .ok e' h' → Sat c N (UD base (i :: D)) e' h' a' w' → a'.defers = a.defers → K a' w') → K (a.put o.dst undef) w := by
          intro hn
          exact hn _ _ _ _ rfl ⟨S, β, γ, lam, ω, (F.setV (v := undef) (hO.dst i o ho) (by simp only [VR]; exact ⟨[], rfl, by simp [VRs]⟩)).wider (fun g hg => UD_step g (.inl hg))⟩ (put_defers a o.dst undef)
        cases hq : e.av t with
        | bool b =>
          rw [hq] at hr hn hp hav
          simp only [VR] at hav
          have hy : yielded ops a.tmps j = some b := by
            unfold yielded
            rw [hdj']
            simp only [Option.bind_some, getD_bool hav]
          rw [hwant, hy]
          cases hbw : (b == want) with
          | true =>
            simp only [gLook, hbw, cond_true] at hr hn hp
            have : b = want := by simpa using hbw
            subst this
            rw [if_pos (by simp)]
            simp only [plainOp, Bool.and_eq_true, Bool.not_eq_true'] at hpl
            simp only [bnd, actOf_strip, M.pure] at hr hn hp
            have hact : actOf (opD cx e ((base + i) * 1000) o) h ≠ .fail := by
              intro hf; rw [hf] at hr; exact hr rfl
            refine .inl (hop ?_ K Q (fun e' h' a' w' h1 h2 h3 => ?_) (fun pv h' v w' h1 h2 => ?_))
            · unfold runOp
              rw [runAct_eq]
              simp only [bnd, M.pure]
              cases hx : actOf (opD cx e ((base + i) * 1000) o) h with
              | fail => exact absurd hx hact
              | _ => simp
            · unfold runOp at h1
              rw [runAct_eq] at h1
              simp only [bnd, M.pure] at h1
              cases hx : actOf (opD cx e ((base + i) * 1000) o) h with
              | fail => exact absurd hx hact
              | pan pv hh => rw [hx] at h1; cases h1
              | ok u hh =>
                rw [hx] at h1 hn
                simp only [R.ok.injEq] at h1
                obtain ⟨rfl, rfl⟩ := h1
                have hsh := actOf_all (opD_shape cx e ((base + i) * 1000) o) hx
                exact hn _ _ a' w' rfl ((strip_sat hsh hpl.1 hpl.2 (fun g z hz hgg => UD_fresh hi g (by omega) (by omega) (F.used.2 g z hz)) h2).wider UD_step) h3
            · unfold runOp at h1
              rw [runAct_eq] at h1
              simp only [bnd, M.pure] at h1
              cases hx : actOf (opD cx e ((base + i) * 1000) o) h with
              | fail => exact absurd hx hact
              | ok u hh => rw [hx] at h1; cases h1
              | pan pv2 hh =>
                rw [hx] at h1 hp
                simp only [R.pan.injEq] at h1
                obtain ⟨rfl, rfl⟩ := h1
                exact hp _ _ v w' rfl h2
          | false =>
            simp only [gLook, hbw, cond_false, bnd_pure] at hn
            have : (some b == some want) = false := by simpa using hbw
            rw [if_neg (by rw [this]; simp)]
            exact hskip hn
        | tup vs =>
          rw [hq] at hr hn hp hav
          cases vs with
          | nil =>
            simp only [gLook, bnd_pure] at hn
            simp only [VR, VRs] at hav
            obtain ⟨vs, hav, rfl⟩ := hav
            have hy : yielded ops a.tmps j = none := by
              unfold yielded
              rw [hdj']
              simp only [Option.bind_some]
              rw [Array.getD_eq_getD_getElem?] at hav
              cases hx : a.tmps[t]? with
              | none => rfl
              | some v => rw [hx] at hav; simp at hav; rw [hav]
            rw [hwant, hy, if_neg (by simp)]
            exact hskip hn
          | cons v vs => exact absurd rfl hr
        | _ => rw [hq] at hr; exact absurd rfl hr
def UR (base n : Nat) : Nat → Prop := fun g => g < (base + n) * 1000
omit [Dr] in
theorem UD_UR {D : List Nat} {n : Nat} (h : ∀ i ∈ D, i < n) : ∀ g, UD base D g → UR base n g := by
  rintro g (h1 | ⟨i, hi, h2, h3⟩)
  · exact Nat.lt_of_lt_of_le h1 (Nat.mul_le_mul_right _ (by omega))
  · have h4 : (base + i) * 1000 + 1000 ≤ (base + n) * 1000 := by
      have := h i hi
      rw [show (base + i) * 1000 + 1000 = (base + i + 1) * 1000 by rw [Nat.add_mul _ 1]]
      exact Nat.mul_le_mul_right _ (by omega)
    exact Nat.lt_of_lt_of_le h3 h4
theorem seq_sound (hT : TOK P cx.T) (hC : CallsOK P cx.own cx.call) (hO : OpsOk N cx ops) {Q : Exit → Act → World → Prop} : ∀ (l : List Nat) (D : List Nat) (e : Env) (h : Hp) (a : Act) (w : World), l.Nodup → (∀ i ∈ l, i ∉ D) →
    Sat c N (UD base D) e h a w → runSeq cx base ops l e h ≠ .fail →
    (∀ e' h' a' w', runSeq cx base ops l e h = .ok e' h' → Sat c N (UD base (l.reverse ++ D)) e' h' a' w' → a'.defers = a.defers → Q .normal a' w') →
    (∀ pv h' v w' a', runSeq cx base ops l e h = .pan pv h' → PanSat c pv h' v w' → a'.defers = a.defers → Q (.panic [{ v, recovered := false }]) a' w') → wpOps P ops Q l a w
  | [], D, e, h, a, w, _, _, H, _, hn, _ => by
    simp only [wpOps]
    exact hn e h a w rfl (by simpa using H) rfl
  | i :: l, D, e, h, a, w, hnd, hdis, H, hr, hn, hp => by
    simp only [runSeq, bnd] at hr hn hp
    have hnd' := List.nodup_cons.1 hnd
    rw [wpOps_cons]
    refine step_sound hT hC hO (hdis i (by simp)) H (fun hf => by rw [hf] at hr; exact hr rfl) (fun e' h' a' w' hst hs hdf => ?_) (fun pv h' v w' hst hps => ?_)
    · rw [hst] at hr hn hp
      simp only at hr hn hp
      refine seq_sound hT hC hO l (i :: D) e' h' a' w' hnd'.2 (fun j hj => ?_) hs hr (fun e2 h2 a2 w2 h1 h3 h4 => hn e2 h2 a2 w2 h1 (by simpa using h3) (h4.trans hdf)) (fun pv h2 v w2 a2 h1 h3 h4 => hp pv h2 v w2 a2 h1 h3 (h4.trans hdf))
      simp only [List.mem_cons, not_or]
      exact ⟨fun hji => hnd'.1 (hji ▸ hj), hdis j (by simp [hj])⟩
    · rw [hst] at hp
      exact hp pv h' v w' a rfl hps rfl
end
end Go.Av

/- Operations that may be exchanged. Condition: the isolated calls see nothing of the heap and do not panic. -/
namespace Go.Av
variable [Dr]
def PureM {α : Type} (m : M α) : Prop := ∃ o, m = lft o
def ReadM {α : Type} (m : M α) : Prop := ∀ h, m h = .fail ∨ ∃ v, m h = .ok v h
def StayM {α : Type} (m : M α) : Prop := ∀ h v h', m h ≠ .pan v h'
omit [Dr] in
theorem PureM.read {α : Type} {m : M α} (h : PureM m) : ReadM m := by
  obtain ⟨o, rfl⟩ := h
  intro h
  cases o with
  | none => exact .inl rfl
  | some v => exact .inr ⟨v, rfl⟩
omit [Dr] in
theorem ReadM.stay {α : Type} {m : M α} (g : ReadM m) : StayM m := by
  intro h v h' hh
  rcases g h with g | ⟨x, g⟩ <;> rw [g] at hh <;> cases hh
omit [Dr] in
theorem PureM.bnd {α β : Type} {m : M α} (h : PureM m) (f : α → β) : PureM (bnd m fun v => M.pure (f v)) := by
  obtain ⟨o, rfl⟩ := h
  cases o with
  | none => exact ⟨none, rfl⟩
  | some v => exact ⟨some (f v), rfl⟩
omit [Dr] in
theorem ReadM.bnd {α β : Type} {m : M α} (g : ReadM m) (f : α → β) : ReadM (bnd m fun v => M.pure (f v)) := by
  intro h
  simp only [Av.bnd, M.pure]
  rcases g h with g | ⟨x, g⟩ <;> rw [g]
  · exact .inl rfl
  · exact .inr ⟨_, rfl⟩
omit [Dr] in
theorem StayM.bnd {α β : Type} {m : M α} (g : StayM m) (f : α → β) : StayM (bnd m fun v => M.pure (f v)) := by
  intro h v h' hh
  simp only [Av.bnd, M.pure] at hh
  cases hm : m h <;> rw [hm] at hh <;> simp at hh
  exact g _ _ _ hm
omit [Dr] in
theorem PureM.lft {α : Type} (o : Option α) : PureM (lft o) := ⟨o, rfl⟩
omit [Dr] in
theorem PureM.pure {α : Type} (a : α) : PureM (M.pure a) := ⟨some a, rfl⟩
omit [Dr] in
theorem PureM.fail {α : Type} : PureM (M.fail : M α) := ⟨none, rfl⟩
def AppM {α : Type} (m : M α) : Prop := ∀ h t v, m h = .ok v h → m (h ++ t) = .ok v (h ++ t)
def NwM {α : Type} (m : M α) : Prop := ∀ h v h', m h = .ok v h' → ∃ t, h' = h ++ t
omit [Dr] in
theorem PureM.app {α : Type} {m : M α} (h : PureM m) : AppM m := by
  obtain ⟨o, rfl⟩ := h
  intro h t v hh
  cases o with
  | none => cases hh
  | some x => cases hh; rfl
omit [Dr] in
theorem PureM.nw {α : Type} {m : M α} (h : PureM m) : NwM m := by
  obtain ⟨o, rfl⟩ := h
  intro h v h' hh
  cases o with
  | none => cases hh
  | some x => cases hh; exact ⟨[], by simp⟩
omit [Dr] in
theorem AppM.bnd {α β : Type} {m : M α} (g : AppM m ∧ ReadM m) (f : α → β) : AppM (bnd m fun v => M.pure (f v)) ∧ ReadM (bnd m fun v => M.pure (f v)) := by
  refine ⟨fun h t v hh => ?_, g.2.bnd f⟩
  simp only [Av.bnd, M.pure] at hh ⊢
  rcases g.2 h with k | ⟨x, k⟩
  · rw [k] at hh; cases hh
  · rw [k] at hh; cases hh
    rw [g.1 h t x k]
omit [Dr] in
theorem NwM.bnd {α β : Type} {m : M α} (g : NwM m) (f : α → β) : NwM (bnd m fun v => M.pure (f v)) := by
  intro h v h' hh
  simp only [Av.bnd, M.pure] at hh
  cases hm : m h <;> rw [hm] at hh <;> simp at hh
  obtain ⟨t, ht⟩ := g _ _ _ hm
  exact ⟨t, by rw [← hh.2, ht]⟩
def ActM (p : ∀ {α : Type}, M α → Prop) : Act1 → Prop
  | .dyn m _ => p m
  | .thr _ => False
  | _ => True
structure IsoPure (cx : Cx) : Prop where
  iso : ∀ f args, cx.iso f = true → PureM (cx.call f args)
  nw : ∀ f args, cx.nw f = true → NwM (cx.call f args)
section
variable {cx : Cx} {e : Env} {gid : Nat} {o : Oper}
omit [Dr] in
theorem ActM.cond {p : ∀ {α : Type}, M α → Prop} {b : Bool} {x y : Act1} (h1 : b = true → ActM p x) (h2 : b = false → ActM p y) : ActM p (bif b then x else y) := by
  cases b with
  | true => exact h1 rfl
  | false => exact h2 rfl
omit [Dr] in
theorem ActM.lft (o : Option AV) (sh : AV → Upd) : ActM PureM (.dyn (lft o) sh) := PureM.lft o
omit [Dr] in
theorem loadH_read (T : TT) (t : TypeId) (x : AV) : ReadM (loadH T t x) := by
  have key : ∀ x, ReadM (fun h : Hp => (match loadA T t x with | some v => R.ok v h | none => .fail)) := by
    intro x h
    cases hq : loadA T t x with
    | none => exact .inl rfl
    | some v => exact .inr ⟨v, rfl⟩
  cases x with
  | hp l off =>
    intro h
    simp only [loadH]
    cases T t with
    | none => exact .inl rfl
    | some ti =>
      cases h[l]? with
      | none => exact .inl rfl
      | some cs =>
        simp only
        cases ti.agg with
        | true =>
          simp only [cond_true]
          split
          · exact .inr ⟨_, rfl⟩
          · exact .inl rfl
        | false =>
          simp only [cond_false]
          cases cs[off]? with
          | none => exact .inl rfl
          | some v => exact .inr ⟨v, rfl⟩
  | _ => exact key _
omit [Dr] in
theorem storeH_stay (T : TT) (t : TypeId) (x y : AV) : StayM (storeH T t x y) := by
  intro h v h' hh
  unfold storeH at hh
  split at hh
  · split at hh
    · revert hh
      generalize (_ && _ : Bool) = b1; cases b1 <;> simp
    · cases hh
  · cases hh
omit [Dr] in
theorem clearH_stay (T : TT) (t : TypeId) (x : AV) : StayM (clearH T t x) := by
  intro h v h' hh
  unfold clearH at hh
  split at hh
  · cases hh
  · split at hh
    · split at hh
      · cases hh
      · split at hh
        · cases hh
        · split at hh
          · cases hh
          · revert hh
            generalize (_ && _ : Bool) = b1; cases b1 <;> simp
        · cases hh
    · cases hh
omit [Dr] in
theorem newH_stay (cs : List AV) : StayM (newH cs) := by
  intro h v h' hh
  unfold newH at hh
  revert hh
  generalize (_ || _ : Bool) = b1
  cases b1 <;> simp
omit [Dr] in
theorem newB_stay (t : Nat) (cs : List AV) : StayM (newB t cs) := by
  intro h v h' hh
  unfold newB at hh
  split at hh
  · revert hh
    generalize List.any _ _ = b1
    cases b1 <;> simp
  · cases hh
omit [Dr] in
theorem newMapH_stay : StayM newMapH := by
  intro h v h' hh
  cases hh
omit [Dr] in
theorem lookH_read (T : TT) (t : TypeId) (x k : AV) (ok : Bool) : ReadM (lookH T t x k ok) := by
  intro h
  unfold lookH
  cases entsA h x with
  | none => exact .inl rfl
  | some es =>
    simp only
    cases lookA T t es k ok with
    | none => exact .inl rfl
    | some v => exact .inr ⟨v, rfl⟩
omit [Dr] in
theorem entsA_app {h s : Hp} {x : AV} {es : List AV} (hh : entsA h x = some es) : entsA (h ++ s) x = some es := by
  unfold entsA at hh ⊢
  cases x with
  | mp l =>
    simp only at hh ⊢
    cases hl : h[l]? with
    | none => rw [hl] at hh; cases hh
    | some cs =>
      rw [hl] at hh
      have hl' : (h ++ s)[l]? = some cs := by
        rw [List.getElem?_append, if_pos (List.getElem?_eq_some_iff.1 hl).1, hl]
      rw [hl']
      exact hh
  | _ => exact hh
omit [Dr] in
theorem lookH_app (T : TT) (t : TypeId) (x k : AV) (ok : Bool) : AppM (lookH T t x k ok) := by
  intro h s v hh
  unfold lookH at hh ⊢
  cases hs : entsA h x with
  | none => rw [hs] at hh; cases hh
  | some es =>
    rw [hs] at hh
    rw [entsA_app hs]
    simp only at hh ⊢
    cases ha : lookA T t es k ok with
    | none => rw [ha] at hh; cases hh
    | some u => rw [ha] at hh; cases hh; rfl
omit [Dr] in
theorem rangeH_stay (T : TT) (t : TypeId) (x : AV) : StayM (rangeH T t x) := by
  intro h v h' hh
  unfold rangeH at hh
  repeat' split at hh
  all_goals cases hh
omit [Dr] in
theorem entryH_read (x : AV) : ReadM (entryH x) := by
  intro h
  by_cases hf : entryH x h = .fail
  · exact .inl hf
  · obtain ⟨_, _, _, _, _, _, k, u, _, _, _, _, _, h1⟩ := entryH_inv hf
    exact .inr ⟨_, h1⟩
omit [Dr] in
theorem entryH_app (x : AV) : AppM (entryH x) := by
  intro h s v hh
  obtain ⟨l, m, n, p, cu, es, k, u, rfl, h1, h2, h3, h4, h5⟩ := entryH_inv (x := x) (h := h) (by rw [hh]; simp)
  rw [h5] at hh
  cases hh
  unfold entryH
  simp only [List.getElem?_append_left (List.getElem?_eq_some_iff.1 h1).1, List.getElem?_append_left (List.getElem?_eq_some_iff.1 h2).1, h1, h2, if_pos h3, h4]
omit [Dr] in
theorem putH_stay (T : TT) (t : TypeId) (x k y : AV) : StayM (putH T t x k y) := by
  intro h v h' hh
  unfold putH at hh
  split at hh
  · cases hh
  · revert hh
    cases ckV T 20 _ k with
    | false => intro hh; cases hh
    | true =>
      simp only [cond_true]
      intro hh
      split at hh
      · split at hh
        · split at hh
          · cases hh
          · cases hh
        · cases hh
      · cases hh
omit [Dr] in
theorem appH_stay (T : TT) (t : TypeId) (z : Bool) (x y : AV) : StayM (appH T t z x y) := by
  intro h v h' hh
  unfold appH at hh
  have hc : ∀ {b : Bool} {r s : R AV}, (∀ v h', r ≠ .pan v h') → (∀ v h', s ≠ .pan v h') → (bif b then r else s) ≠ .pan v h' := by
    intro b r s h1 h2
    cases b
    · exact h2 _ _
    · exact h1 _ _
  split at hh
  · cases hh
  · split at hh
    · split at hh
      · cases hh
      · split at hh
        · cases hh
        · refine hc (fun v h' hh => ?_) (fun v h' hh => by cases hh) hh
          split at hh
          · revert hh
            generalize List.isEmpty _ = b1
            generalize decide (_ ≤ 140737488355328) = b2
            cases b1 <;> cases b2 <;> simp
          · revert hh
            generalize List.isEmpty _ = b1
            generalize decide (_ ≤ 140737488355328) = b2
            cases z <;> cases b1 <;> cases b2 <;> simp
          · split at hh
            · cases hh
            · revert hh
              generalize (_ && _ : Bool) = b1
              generalize List.isEmpty _ = b2
              cases b1 <;> cases b2 <;> simp
          · cases hh
    · cases hh
omit [Dr] in
theorem appB_stay (T : TT) (t : TypeId) (x y : AV) : StayM (appB T t x y) := by
  intro h v h' hh
  unfold appB at hh
  have hc : ∀ {b : Bool} {r s : R AV}, (∀ v h', r ≠ .pan v h') → (∀ v h', s ≠ .pan v h') → (bif b then r else s) ≠ .pan v h' := by
    intro b r s h1 h2
    cases b
    · exact h2 _ _
    · exact h1 _ _
  split at hh
  · cases hh
  · split at hh
    · split at hh
      · cases hh
      · refine hc (fun v h' hh => ?_) (fun v h' hh => by cases hh) hh
        split at hh
        · cases hh
        · split at hh
          · cases hh
          · split at hh
            · revert hh
              generalize List.isEmpty _ = b1
              generalize decide (_ ≤ 140737488355328) = b2
              cases b1 <;> cases b2 <;> simp
            · split at hh
              · cases hh
              · revert hh
                generalize (_ && _ : Bool) = b1
                generalize List.isEmpty _ = b2
                cases b1 <;> cases b2 <;> simp
            · cases hh
    · cases hh
omit [Dr] in
theorem buildH_stay (T : TT) (t n : Nat) (ps : List (Nat × AV)) : StayM (buildH T t n ps) := by
  intro h v h' hh
  unfold buildH at hh
  split at hh
  · split at hh
    · cases hh
    · split at hh
      · split at hh
        · cases hh
        · revert hh
          generalize (_ && _ : Bool) = b1
          cases b1 <;> simp
      · cases hh
  · cases hh
omit [Dr] in
theorem move_pure (told : Bool) (x : Operand) : ActM PureM (opMove told e gid x) := by
  unfold opMove
  split
  · trivial
  · exact ActM.cond (fun _ => ActM.cond (fun _ => trivial) (fun _ => trivial)) (fun _ => trivial)
omit [Dr] in
theorem load_class (d : Option Tmp) (t : TypeId) (p : Nat) : ActM ReadM (opLoad cx e d t p) ∧ (memO cx.ann.hl d = false → ActM PureM (opLoad cx e d t p)) := by
  unfold opLoad
  split
  · split
    · exact ⟨trivial, fun _ => trivial⟩
    · constructor
      · exact ActM.cond (fun _ => ActM.cond (fun _ => trivial) (fun _ => ActM.cond (fun _ => trivial) (fun _ => trivial))) (fun _ => trivial)
      · exact fun _ => ActM.cond (fun _ => ActM.cond (fun _ => trivial) (fun _ => ActM.cond (fun _ => trivial) (fun _ => trivial))) (fun _ => trivial)
  · cases hm : memO cx.ann.hl d with
    | true => exact ⟨loadH_read _ _ _, fun h => by cases h⟩
    | false => exact ⟨(PureM.lft _).read, fun _ => PureM.lft _⟩
omit [Dr] in
theorem loadH_app (T : TT) (t : TypeId) (x : AV) : AppM (loadH T t x) := by
  intro h s v hh
  have hk : ∀ y, (match loadA T t y with | some v => R.ok v h | none => .fail) = R.ok v h → (match loadA T t y with | some v => R.ok v (h ++ s) | none => .fail) = R.ok v (h ++ s) := by
    intro y hy
    cases hq : loadA T t y with
    | none => rw [hq] at hy; cases hy
    | some u => rw [hq] at hy; cases hy; rfl
  unfold loadH at hh ⊢
  cases x with
  | hp l off =>
    simp only at hh ⊢
    cases hT : T t with
    | none => rw [hT] at hh; cases hh
    | some ti =>
      rw [hT] at hh
      cases hl : h[l]? with
      | none => rw [hl] at hh; cases hh
      | some cs =>
        have hl' : (h ++ s)[l]? = some cs := by
          rw [List.getElem?_append]
          have := (List.getElem?_eq_some_iff.1 hl).1
          rw [if_pos this, hl]
        rw [hl] at hh
        rw [hl']
        simp only at hh ⊢
        cases hag : ti.agg with
        | true =>
          rw [hag] at hh
          simp only [cond_true] at hh ⊢
          split at hh
          · rename_i hc; cases hh; rw [if_pos hc]
          · cases hh
        | false =>
          rw [hag] at hh
          simp only [cond_false] at hh ⊢
          cases hq : cs[off]? with
          | none => rw [hq] at hh; cases hh
          | some u => rw [hq] at hh; cases hh; rfl
  | _ => exact hk _ hh
omit [Dr] in
theorem load_app (d : Option Tmp) (t : TypeId) (p : Nat) : ActM (fun m => AppM m ∧ ReadM m) (opLoad cx e d t p) := by
  unfold opLoad
  split
  · split
    · trivial
    · exact ActM.cond (fun _ => ActM.cond (fun _ => trivial) (fun _ => ActM.cond (fun _ => trivial) (fun _ => trivial))) (fun _ => trivial)
  · cases hm : memO cx.ann.hl d with
    | true => exact ⟨loadH_app _ _ _, loadH_read _ _ _⟩
    | false => exact ⟨(PureM.lft _).app, (PureM.lft _).read⟩
omit [Dr] in
theorem fzA_stay {A : Act1} (h : ActM StayM A) : ActM StayM (fzA A) := by
  cases A with
  | bad => trivial
  | stat u => intro h v h' hh; cases hh
  | dyn m sh =>
    intro x v h' hh
    simp only [Av.bnd, fzM] at hh
    cases hm : m x <;> rw [hm] at hh <;> simp at hh
    exact h _ _ _ hm
  | thr v => exact h.elim
omit [Dr] in
theorem field_pure (t p i : Nat) : ActM PureM (opField cx e t p i) := by
  unfold opField
  split
  · split
    · trivial
    · split
      · trivial
      · split
        · trivial
        · exact ActM.cond (fun _ => trivial) (fun _ => trivial)
  · exact PureM.lft _
omit [Dr] in
theorem index_pure (t p : Nat) (i : Operand) : ActM PureM (opIndexAddr cx e t p i) := by
  unfold opIndexAddr
  split
  · split
    · split
      · split
        · trivial
        · exact ActM.cond (p := PureM) (fun _ => trivial) (fun _ => trivial)
      · trivial
    · trivial
  · exact PureM.lft _
omit [Dr] in
theorem store_stay (t p : Nat) (y : Operand) : ActM StayM (opStore cx e gid t p y) := by
  have hl : ∀ o : Option AV, StayM (Av.lft o) := fun o => (PureM.lft o).read.stay
  unfold opStore
  split
  · split
    · trivial
    · refine ActM.cond (fun _ => ActM.cond (fun _ => ActM.cond (fun _ => hl _) (fun _ => trivial)) (fun _ => ActM.cond (fun _ => hl _) (fun _ => ActM.cond (fun _ => ?_) (fun _ => trivial)))) (fun _ => trivial)
      split
      · split
        · exact hl _
        · trivial
      · exact ActM.cond (fun _ => trivial) (fun _ => hl _)
  · exact storeH_stay _ _ _ _
omit [Dr] in
theorem store_pure (t p : Nat) (y : Operand) (hl : isLocE (e.get p) = true) : ActM PureM (opStore cx e gid t p y) := by
  have hl' : ∀ o : Option AV, PureM (Av.lft o) := fun o => PureM.lft o
  unfold opStore
  cases hv : (e.get p).v with
  | val a => simp [isLocE, hv] at hl
  | loc B off =>
    simp only
    split
    · trivial
    · refine ActM.cond (fun _ => ActM.cond (fun _ => ActM.cond (fun _ => hl' _) (fun _ => trivial)) (fun _ => ActM.cond (fun _ => hl' _) (fun _ => ActM.cond (fun _ => ?_) (fun _ => trivial)))) (fun _ => trivial)
      split
      · split
        · exact hl' _
        · trivial
      · exact ActM.cond (fun _ => trivial) (fun _ => hl' _)
omit [Dr] in
theorem alloc_class (s t : Nat) : ActM StayM (opAlloc cx e gid s t) ∧ (findK cx.ann.kinds s .L ≠ .H → findK cx.ann.kinds s .L ≠ .B → ActM PureM (opAlloc cx e gid s t)) := by
  unfold opAlloc
  split
  · exact ⟨trivial, fun _ _ => trivial⟩
  · cases hk : findK cx.ann.kinds s .L with
    | F => exact ⟨trivial, fun _ _ => trivial⟩
    | H => exact ⟨newH_stay _, fun h => absurd rfl h⟩
    | B => exact ⟨newB_stay _ _, fun _ h => absurd rfl h⟩
    | L => exact ⟨ActM.cond (fun _ => trivial) (fun _ => trivial), fun _ _ => ActM.cond (fun _ => trivial) (fun _ => trivial)⟩
    | S => exact ⟨ActM.cond (fun _ => trivial) (fun _ => trivial), fun _ _ => ActM.cond (fun _ => trivial) (fun _ => trivial)⟩
omit [Dr] in
theorem box_class (s t : Nat) (x : Operand) : ActM StayM (opBox cx e s t x) ∧ (findK cx.ann.kinds s .F ≠ .H → ActM PureM (opBox cx e s t x)) := by
  have hl : ∀ o : Option AV, StayM (Av.lft o) := fun o => (PureM.lft o).read.stay
  unfold opBox
  cases hk : findK cx.ann.kinds s .F with
  | F => exact ⟨trivial, fun _ => trivial⟩
  | H => exact ⟨newH_stay _, fun h => absurd rfl h⟩
  | B => exact ⟨trivial, fun _ => trivial⟩
  | L =>
    simp only
    split
    · exact ⟨trivial, fun _ => trivial⟩
    · exact ⟨ActM.cond (fun _ => hl _) (fun _ => trivial), fun _ => ActM.cond (fun _ => PureM.lft _) (fun _ => trivial)⟩
  | S =>
    simp only
    split
    · exact ⟨trivial, fun _ => trivial⟩
    · exact ⟨ActM.cond (fun _ => hl _) (fun _ => trivial), fun _ => ActM.cond (fun _ => PureM.lft _) (fun _ => trivial)⟩
structure Class (f : Foot) (A : Act1) : Prop where
  stay : f.piv = false → ActM StayM A
  read : f.wh = false → ActM ReadM A
  pure : f.wh = false → f.rh = false → ActM PureM A
  app : f.wh = false → ActM (fun m => AppM m ∧ ReadM m) A
  nw : f.nw = true → ActM NwM A
omit [Dr] in
theorem ActM.imp {p q : ∀ {α : Type}, M α → Prop} (hpq : ∀ {α : Type} (m : M α), p m → q m) {A : Act1} (h : ActM p A) : ActM q A := by
  cases A <;> first | trivial | exact hpq _ h | exact h
omit [Dr] in
theorem Class.of_pure {f : Foot} {A : Act1} (h : ActM PureM A) : Class f A :=
  ⟨fun _ => h.imp fun _ g => g.read.stay, fun _ => h.imp fun _ g => g.read, fun _ _ => h, fun _ => h.imp fun _ g => ⟨g.app, g.read⟩, fun _ => h.imp fun _ g => g.nw⟩
omit [Dr] in
theorem AppM.nw {α : Type} {m : M α} (h : ReadM m) : NwM m := fun x v h' hh => by
  rcases h x with g | ⟨u, g⟩
  · rw [g] at hh; cases hh
  · rw [g] at hh; cases hh; exact ⟨[], by simp⟩
omit [Dr] in
theorem Class.of_app {f : Foot} {A : Act1} (_hw : f.wh = false) (hr : f.rh = true) (h : ActM (fun m => AppM m ∧ ReadM m) A) : Class f A :=
  ⟨fun _ => h.imp fun _ g => g.2.stay, fun _ => h.imp fun _ g => g.2, fun _ h => by (rw [hr] at h; cases h), fun _ => h, fun _ => h.imp fun _ g => AppM.nw g.2⟩
omit [Dr] in
theorem appR_read (T : TT) (t : TypeId) (x y : AV) : ReadM (appR T t x y) := by
  intro h
  unfold appR
  cases srcA h y with
  | none => exact .inl rfl
  | some es =>
    simp only
    cases appA T t x (.sl es) with
    | none => exact .inl rfl
    | some v => exact .inr ⟨v, rfl⟩
omit [Dr] in
theorem srcA_app {h s : Hp} {y : AV} {es : List AV} (hh : srcA h y = some es) : srcA (h ++ s) y = some es := by
  unfold srcA at hh ⊢
  split at hh
  · rename_i l off len sz ag
    cases hl : h[l]? with
    | none => rw [hl] at hh; cases hh
    | some cs =>
      rw [hl] at hh
      have hl' : (h ++ s)[l]? = some cs := by
        rw [List.getElem?_append]
        have := (List.getElem?_eq_some_iff.1 hl).1
        rw [if_pos this, hl]
      simp only [hl']
      exact hh
  · exact hh
  · exact hh
  · cases hh
omit [Dr] in
theorem appR_app (T : TT) (t : TypeId) (x y : AV) : AppM (appR T t x y) := by
  intro h s v hh
  unfold appR at hh ⊢
  cases hs : srcA h y with
  | none => rw [hs] at hh; cases hh
  | some es =>
    rw [hs] at hh
    rw [srcA_app hs]
    simp only at hh ⊢
    cases ha : appA T t x (.sl es) with
    | none => rw [ha] at hh; cases hh
    | some u => rw [ha] at hh; cases hh; rfl
omit [Dr] in
theorem Class.of_stay {f : Foot} {A : Act1} (hw : f.wh = true) (hn : f.nw = false) (h : ActM StayM A) : Class f A :=
  ⟨fun _ => h, fun h => by (rw [hw] at h; cases h), fun h => by (rw [hw] at h; cases h), fun h => by (rw [hw] at h; cases h), fun h => by (rw [hn] at h; cases h)⟩
omit [Dr] in
theorem Class.of_piv {f : Foot} {A : Act1} (hw : f.wh = true) (h : f.piv = true) (hn : f.nw = true → ActM NwM A) : Class f A :=
  ⟨fun h' => by (rw [h] at h'; cases h'), fun h => by (rw [hw] at h; cases h), fun h => by (rw [hw] at h; cases h), fun h => by (rw [hw] at h; cases h), hn⟩
omit [Dr] in
theorem call_class (hI : IsoPure cx) {c : Call} (ho : o.op = .call c) : Class (footOf cx o) (opCall cx e gid o c) := by
  unfold opCall
  cases hc : c.callee with
  | invoke r m => exact .of_pure trivial
  | value x =>
    cases x with
    | func f =>
      simp only
      cases hfz : memO cx.ann.fz o.dst with
      | true =>
        simp only [cond_true]
        cases hq : !(cx.iso f) && !(cx.nw f) && (cx.own f).isNone with
        | false => exact .of_pure trivial
        | true =>
          simp only [Bool.and_eq_true, Bool.not_eq_true'] at hq
          exact .of_piv (by unfold footOf; rw [ho]; simp only [hc, hq.1.1, cond_false]) (by unfold footOf; rw [ho]; simp only [hc, hq.1.1, cond_false]) fun hn => by unfold footOf at hn; rw [ho] at hn; simp only [hc, hq.1.1, cond_false, hq.1.2] at hn; cases hn
      | false =>
      simp only [cond_false]
      cases hi : cx.iso f with
      | true => exact .of_pure (hI.iso f _ hi)
      | false => exact .of_piv (by unfold footOf; rw [ho]; simp only [hc, hi, cond_false]) (by unfold footOf; rw [ho]; simp only [hc, hi, cond_false]) fun hn => hI.nw f _ (by unfold footOf at hn; rw [ho] at hn; simpa only [hc, hi, cond_false] using hn)
    | _ => exact .of_piv (by unfold footOf; rw [ho]; simp only [hc]) (by unfold footOf; rw [ho]; simp only [hc]) fun hn => by unfold footOf at hn; rw [ho] at hn; simp [hc] at hn
  | builtin b =>
    cases b <;> simp only <;> (try exact .of_pure trivial)
    case clear =>
      have hw : (footOf cx o).wh = true ∧ (footOf cx o).nw = false := by unfold footOf; rw [ho]; simp only [hc]; exact ⟨trivial, trivial⟩
      split
      · exact .of_stay hw.1 hw.2 (clearH_stay _ _ _)
      · exact .of_pure trivial
    case append =>
      split
      · cases hu : isAppT cx.T _ with
        | false => exact .of_pure trivial
        | true =>
          simp only [Bool.not_true, cond_false]
          cases hha : memO cx.ann.ha o.dst with
          | true => exact .of_stay (by unfold footOf; rw [ho]; simp only [hc, hha, cond_true]) (by unfold footOf; rw [ho]; simp only [hc, hha, cond_true]) (by
              cases memO cx.ann.hb o.dst with
              | true => exact appB_stay _ _ _ _
              | false => exact appH_stay _ _ _ _ _)
          | false =>
            simp only [cond_false]
            cases hhl : memO cx.ann.hl o.dst with
            | true =>
              refine .of_app (by unfold footOf; rw [ho]; simp only [hc, hha, cond_false]) (by unfold footOf; rw [ho]; simp only [hc, hha, hhl, cond_false]) ?_
              simp only [cond_true]
              refine ActM.cond (fun _ => ⟨appR_app _ _ _ _, appR_read _ _ _ _⟩) (fun _ => ?_)
              split
              · split
                · trivial
                · split
                  · trivial
                  · exact ActM.cond (fun _ => ⟨appR_app _ _ _ _, appR_read _ _ _ _⟩) (fun _ => trivial)
              · trivial
            | false =>
              refine .of_pure ?_
              simp only [cond_false]
              refine ActM.cond (fun _ => PureM.lft _) (fun _ => ?_)
              split
              · split
                · trivial
                · split
                  · trivial
                  · exact ActM.cond (fun _ => PureM.lft _) (fun _ => trivial)
              · trivial
      · exact .of_pure trivial
    case len =>
      split
      · exact .of_pure (PureM.lft _)
      · exact .of_pure trivial
    case min => exact .of_pure (PureM.lft _)
    case max => exact .of_pure (PureM.lft _)
omit [Dr] in
theorem opD_class (hI : IsoPure cx) (e : Env) (gid : Nat) (o : Oper) : Class (footOf cx o) (opD cx e gid o) := by
  unfold opD
  cases ho : o.op <;> simp only <;> (try exact .of_pure (PureM.lft _)) <;> (try exact .of_pure trivial)
  case binOp => exact .of_pure (ActM.cond (fun _ => trivial) fun _ => PureM.lft _)
  case buildSlice t n ps =>
    cases hha : memO cx.ann.ha o.dst with
    | true => exact .of_stay (by unfold footOf; rw [ho]; simp only [hha, cond_true]) (by unfold footOf; rw [ho]; simp only [hha, cond_true]) (buildH_stay _ _ _ _)
    | false => exact .of_pure (PureM.lft _)
  case move x => exact .of_pure (move_pure _ x)
  case assign x => exact .of_pure (move_pure _ x)
  case box t x =>
    cases hd : o.dst with
    | none => exact .of_pure trivial
    | some s =>
      cases hk : findK cx.ann.kinds s .F with
      | H => exact .of_stay (by unfold footOf; rw [ho]; simp only [hd, hk]) (by unfold footOf; rw [ho]; simp only [hd, hk]) (box_class s t x).1
      | _ => exact .of_pure ((box_class s t x).2 (by rw [hk]; simp))
  case alloc t =>
    cases hd : o.dst with
    | none => exact .of_pure trivial
    | some s =>
      cases hk : findK cx.ann.kinds s .L with
      | H => exact .of_stay (by unfold footOf; rw [ho]; simp only [hd, hk]) (by unfold footOf; rw [ho]; simp only [hd, hk]) (alloc_class s t).1
      | B => exact .of_stay (by unfold footOf; rw [ho]; simp only [hd, hk]) (by unfold footOf; rw [ho]; simp only [hd, hk]) (alloc_class s t).1
      | _ => exact .of_pure ((alloc_class s t).2 (by rw [hk]; simp) (by rw [hk]; simp))
  case load t x =>
    cases x with
    | tmp p =>
      have h := load_class (cx := cx) (e := e) o.dst t p
      simp only
      cases hnl : memO cx.ann.nl o.dst && isLocE (e.get p) with
      | true => exact .of_pure trivial
      | false =>
      simp only [cond_false]
      cases hz : memO cx.ann.fz o.dst with
      | true => exact .of_stay (by unfold footOf; rw [ho]; exact hz) (by unfold footOf; rw [ho]) (fzA_stay (h.1.imp fun _ g => g.stay))
      | false => exact ⟨fun _ => h.1.imp fun _ g => g.stay, fun _ => h.1, fun _ hr => h.2 (by unfold footOf at hr; rw [ho] at hr; exact hr), fun _ => load_app o.dst t p, fun hn => by unfold footOf at hn; rw [ho] at hn; cases hn⟩
    | _ => exact .of_pure trivial
  case store t x y =>
    cases x with
    | tmp p =>
      cases hd : o.dst with
      | some d => exact .of_pure trivial
      | none =>
        simp only
        cases hlw : memN cx.ann.lw p with
        | false => exact .of_stay (by unfold footOf; rw [ho]; simp [hlw]) (by unfold footOf; rw [ho]) (by simp only [Bool.false_and, cond_false]; exact store_stay t p y)
        | true =>
          cases hlo : isLocE (e.get p) with
          | false => exact .of_pure trivial
          | true => exact .of_pure (by simp only [Bool.not_true, Bool.and_false, cond_false]; exact store_pure t p y hlo)
    | _ => exact .of_pure trivial
  case nilCheck x =>
    cases x with
    | tmp p =>
      simp only
      split
      · exact .of_pure trivial
      · exact .of_pure (PureM.lft _)
    | _ => exact .of_pure trivial
  case fieldAddr t x i => cases x <;> first | exact .of_pure (field_pure _ _ _) | exact .of_pure trivial
  case indexAddr t x i => cases x <;> first | exact .of_pure (index_pure _ _ _) | exact .of_pure trivial
  case slice t x lo hi mx =>
    refine .of_pure (ActM.cond (fun _ => ?_) fun _ => PureM.lft _)
    unfold opCut
    split
    · split
      · trivial
      · split
        · exact ActM.cond (fun _ => PureM.lft _) fun _ => trivial
        · trivial
    · trivial
  case makeMap t r => exact .of_stay (by unfold footOf; rw [ho]) (by unfold footOf; rw [ho]) (ActM.cond (fun _ => trivial) fun _ => newMapH_stay)
  case lookup t x i ok => exact .of_app (by unfold footOf; rw [ho]) (by unfold footOf; rw [ho]) ⟨lookH_app _ _ _ _ _, lookH_read _ _ _ _ _⟩
  case mapUpdate t m k x => exact .of_stay (by unfold footOf; rw [ho]) (by unfold footOf; rw [ho]) (by unfold opPut; split; exact putH_stay _ _ _ _ _; trivial)
  case insert t m k x => exact .of_stay (by unfold footOf; rw [ho]) (by unfold footOf; rw [ho]) (by unfold opPut; split; exact putH_stay _ _ _ _ _; trivial)
  case range t x => exact .of_stay (by unfold footOf; rw [ho]) (by unfold footOf; rw [ho]) (rangeH_stay _ _ _)
  case entry x => exact .of_app (by unfold footOf; rw [ho]) (by unfold footOf; rw [ho]) ⟨entryH_app _, entryH_read _⟩
  case panic x =>
    refine .of_piv ?_ ?_ ?_
    · unfold footOf; rw [ho]
    · unfold footOf; rw [ho]
    · intro hn; unfold footOf at hn; rw [ho] at hn; cases hn
  case call c => exact call_class hI ho
end
end Go.Av

/- Exchange of two operations. Condition: the isolated calls see nothing of the heap and do not panic. -/
namespace Go.Av
variable [Dr]
structure EqE (e e' : Env) : Prop where
  get : ∀ t, e'.get t = e.get t
  al : ∀ g, aliveG e'.al g = aliveG e.al g
  lb : ∀ B, lbSize e'.lb B = lbSize e.lb B
  lf : ∀ B, locFree e'.sl B = locFree e.sl B
omit [Dr] in
theorem EqE.refl (e : Env) : EqE e e := ⟨fun _ => rfl, fun _ => rfl, fun _ => rfl, fun _ => rfl⟩
omit [Dr] in
theorem EqE.symm {e e' : Env} (h : EqE e e') : EqE e' e := ⟨fun t => (h.get t).symm, fun t => (h.al t).symm, fun t => (h.lb t).symm, fun t => (h.lf t).symm⟩
omit [Dr] in
theorem EqE.trans {a b c : Env} (h : EqE a b) (g : EqE b c) : EqE a c :=
  ⟨fun t => (g.get t).trans (h.get t), fun t => (g.al t).trans (h.al t), fun t => (g.lb t).trans (h.lb t), fun t => (g.lf t).trans (h.lf t)⟩
def RE : R Env → R Env → Prop
  | .fail, _ => True
  | .ok e h, r => ∃ e', r = .ok e' h ∧ EqE e e'
  | .pan v h, r => r = .pan v h
omit [Dr] in
theorem RE.refl (r : R Env) : RE r r := by
  cases r with
  | ok e h => exact ⟨e, rfl, .refl e⟩
  | pan v h => exact rfl
  | fail => trivial
omit [Dr] in
theorem RE.trans {a b c : R Env} (h : RE a b) (g : RE b c) : RE a c := by
  cases a with
  | ok e x =>
    obtain ⟨e', rfl, h⟩ := h
    obtain ⟨e2, rfl, g⟩ := g
    exact ⟨e2, rfl, h.trans g⟩
  | pan v x => cases h; exact g
  | fail => trivial
omit [Dr] in
theorem lookE_app (l r : List (Nat × Ent)) (t : Nat) : lookE (l ++ r) t = if (∃ x ∈ l, x.1 = t) then lookE l t else lookE r t := by
  induction l with
  | nil => simp
  | cons x l ih =>
    obtain ⟨k, y⟩ := x
    rw [List.cons_append, lookE_cons, lookE_cons]
    by_cases hk : k = t
    · subst hk; simp
    · rw [if_neg hk, if_neg hk, ih]
      have : (∃ x ∈ (k, y) :: l, x.1 = t) ↔ (∃ x ∈ l, x.1 = t) := by
        simp only [List.mem_cons, exists_eq_or_imp]
        constructor
        · rintro (h | h)
          · exact absurd h hk
          · exact h
        · exact .inr
      simp only [this]
omit [Dr] in
theorem lookE_miss {l : List (Nat × Ent)} (r : List (Nat × Ent)) {t : Nat} (h : ∀ x ∈ l, x.1 ≠ t) : lookE (l ++ r) t = lookE r t := by
  rw [lookE_app, if_neg]
  rintro ⟨x, hx, ht⟩
  exact h x hx ht
omit [Dr] in
theorem lookE_slD (d : Option Tmp) (x : Ent) (r : List (Nat × Ent)) (t : Nat) : lookE (slD d x r) t = if d = some t then x else lookE r t := by
  cases d with
  | none => simp [slD]
  | some s => simp only [slD, lookE_cons, Option.some.injEq]
omit [Dr] in
theorem lookE_congr {l r s : List (Nat × Ent)} {t : Nat} (h : lookE r t = lookE s t) : lookE (l ++ r) t = lookE (l ++ s) t := by
  rw [lookE_app, lookE_app, h]
omit [Dr] in
theorem locFree_app (l r : List (Nat × Ent)) (B : Nat) : locFree (l ++ r) B = (locFree l B && locFree r B) := by
  unfold locFree; rw [List.all_append]
def entFree (x : Ent) (B : Nat) : Bool := match x.v with
  | .loc C _ => !(Nat.beq C B)
  | .val _ => true
omit [Dr] in
theorem locFree_slD (d : Option Tmp) (x : Ent) (r : List (Nat × Ent)) (B : Nat) : locFree (slD d x r) B = ((d.isNone || entFree x B) && locFree r B) := by
  cases d with
  | none => simp [slD]
  | some t => rfl
omit [Dr] in
theorem locFree_look {l : List (Nat × Ent)} {B t C off : Nat} (h : locFree l B = true) (ht : (lookE l t).v = .loc C off) : C ≠ B := by
  induction l with
  | nil => simp [lookE, Ent.none] at ht
  | cons x l ih =>
    obtain ⟨k, y⟩ := x
    rw [lookE_cons] at ht
    simp only [locFree, List.all_cons, Bool.and_eq_true] at h
    split at ht
    · rw [ht] at h
      have h1 := h.1
      simp only [Bool.not_eq_true'] at h1
      intro hc
      rw [hc, Nat.beq_refl] at h1
      cases h1
    · exact ih (by unfold locFree; exact h.2) ht
omit [Dr] in
theorem aliveG_app (l r : List (Nat × Option Nat)) (g : Nat) : aliveG (l ++ r) g = (match aliveG l g with | some z => some z | none => aliveG r g) := by
  induction l with
  | nil => rfl
  | cons x l ih =>
    obtain ⟨k, y⟩ := x
    rw [List.cons_append, aliveG_cons, aliveG_cons]
    split
    · rfl
    · exact ih
omit [Dr] in
theorem aliveG_none {l : List (Nat × Option Nat)} {k g : Nat} (h : ∀ x ∈ l, x.1 = k) (hg : g ≠ k) : aliveG l g = none := by
  induction l with
  | nil => rfl
  | cons x l ih =>
    obtain ⟨j, y⟩ := x
    rw [aliveG_cons, if_neg]
    · exact ih fun x hx => h x (by simp [hx])
    · have := h (j, y) (by simp)
      simp at this
      omega
omit [Dr] in
theorem lbSize_dropB (r : List (Nat × Nat)) (k B : Nat) : lbSize (dropB r k) B = if k = B then none else lbSize r B := by
  induction r with
  | nil => simp [dropB, lbSize]
  | cons x r ih =>
    obtain ⟨j, y⟩ := x
    simp only [dropB]
    by_cases hj : j = k
    · subst hj
      simp only [Nat.beq_refl, cond_true, ih, lbSize_cons]
      split <;> rfl
    · have : Nat.beq j k = false := by rw [Bool.eq_false_iff]; intro hh; exact hj (Nat.eq_of_beq_eq_true hh)
      simp only [this, cond_false, lbSize_cons, ih]
      by_cases hg : j = B
      · subst hg; rw [if_pos rfl, if_neg (fun h => hj h.symm), if_pos rfl]
      · rw [if_neg hg, if_neg hg]
omit [Dr] in
theorem EqE.upd {e e' : Env} (h : EqE e e') (d : Option Tmp) (u : Upd) : EqE (e.upd d u) (e'.upd d u) := by
  refine ⟨fun t => ?_, fun g => ?_, fun B => ?_, fun B => ?_⟩
  · show lookE (slD d u.ent (u.ls ++ e'.sl)) t = lookE (slD d u.ent (u.ls ++ e.sl)) t
    rw [lookE_slD, lookE_slD, lookE_congr (h.get t)]
  · show aliveG (u.add ++ dropO e'.al u.drop) g = aliveG (u.add ++ dropO e.al u.drop) g
    have : aliveG (dropO e'.al u.drop) g = aliveG (dropO e.al u.drop) g := by
      cases u.drop with
      | none => exact h.al g
      | some k => simp only [dropO, aliveG_drop, h.al g]
    rw [aliveG_app, aliveG_app, this]
  · show lbSize (addO (dropLb e'.lb u.unlb) u.lb) B = lbSize (addO (dropLb e.lb u.unlb) u.lb) B
    have : lbSize (dropLb e'.lb u.unlb) B = lbSize (dropLb e.lb u.unlb) B := by
      cases u.unlb with
      | none => exact h.lb B
      | some k => simp only [dropLb, lbSize_dropB, h.lb B]
    cases u.lb with
    | none => exact this
    | some x =>
      obtain ⟨k, n⟩ := x
      simp only [addO, lbSize_cons, this]
  · show locFree (slD d u.ent (u.ls ++ e'.sl)) B = locFree (slD d u.ent (u.ls ++ e.sl)) B
    rw [locFree_slD, locFree_slD, locFree_app, locFree_app, h.lf B]
section
variable {cx : Cx} {ops : Array Oper} {base : Nat}
def guardTmps (ops : Array Oper) (o : Oper) : List Nat := match o.guard with
  | some (j, _) => (match (ops[j]?).bind (·.dst) with | some t => [t] | none => [])
  | none => []
omit [Dr] in
theorem readsOf_eq {i : Nat} {o : Oper} (ho : ops[i]? = some o) : readsOf ops i = guardTmps ops o ++ opTmps o := by
  unfold readsOf guardTmps
  rw [ho]
  rfl
omit [Dr] in
theorem actG_agree {e e' : Env} {i : Nat} {o : Oper} (ho : ops[i]? = some o) (hg : ∀ t ∈ guardTmps ops o, e'.get t = e.get t) (A : Agree cx o e e') {h : Hp} (hr : actG cx base ops i e h ≠ .fail) : actG cx base ops i e' h = actG cx base ops i e h := by
  unfold actG at hr ⊢
  rw [ho] at hr
  rw [ho]
  simp only at hr ⊢
  have key : ∀ {A' : Act1 → Act1} , (∀ h, actOf (A' .bad) h = .fail) → actOf (A' (opD cx e ((base + i) * 1000) o)) h ≠ .fail → actOf (A' (opD cx e' ((base + i) * 1000) o)) h = actOf (A' (opD cx e ((base + i) * 1000) o)) h := by
    intro A' h1 h2
    rw [opD_agree A]
    intro hb
    rw [hb] at h2
    exact h2 (h1 h)
  cases hgd : o.guard with
  | none =>
    rw [hgd] at hr
    exact key (A' := id) (fun _ => rfl) hr
  | some g =>
    obtain ⟨j, want⟩ := g
    rw [hgd] at hr
    simp only at hr ⊢
    cases hdj : dstOf ops j with
    | none => rfl
    | some t =>
      rw [hdj] at hr
      simp only at hr ⊢
      cases hpl : plainOp cx o with
      | false => rfl
      | true =>
        rw [hpl] at hr
        simp only [cond_true] at hr ⊢
        have ht : e'.get t = e.get t := hg t (by unfold guardTmps; rw [hgd]; simp only; rw [show (ops[j]?).bind (·.dst) = some t from hdj]; simp)
        have hav : e'.av t = e.av t := by simp only [Env.av, ht]
        rw [hav]
        cases hq : e.av t with
        | bool b =>
          rw [hq] at hr
          simp only [gLook] at hr ⊢
          cases hb : (b == want) with
          | false => rfl
          | true =>
            rw [hb] at hr
            exact key (A' := stripA) (fun _ => rfl) hr
        | tup vs => cases vs <;> rfl
        | _ => rfl
omit [Dr] in
theorem EqE.agree {e e' : Env} (h : EqE e e') (o : Oper) : Agree cx o e e' :=
  ⟨fun t _ => h.get t, fun _ => ⟨fun t _ => h.get t, h.lb⟩, fun _ => h.al, fun _ s _ hl => by rw [h.lf]; exact hl⟩
omit [Dr] in
theorem stepG_congr {e e' : Env} (h : EqE e e') (i : Nat) (x : Hp) : RE (stepG cx base ops i e x) (stepG cx base ops i e' x) := by
  unfold stepG
  simp only [bnd, M.pure]
  cases hr : actG cx base ops i e x with
  | fail => trivial
  | _ =>
    have ho : ∃ o, ops[i]? = some o := by
      cases ho : ops[i]? with
      | none => unfold actG at hr; rw [ho] at hr; cases hr
      | some o => exact ⟨o, rfl⟩
    obtain ⟨o, ho⟩ := ho
    rw [actG_agree ho (fun t _ => h.get t) (h.agree o) (by rw [hr]; simp), hr]
    first
      | exact ⟨_, rfl, h.upd _ _⟩
      | exact rfl
omit [Dr] in
theorem RE.bind {m m' : M Env} {x x' : Hp} (h : RE (m x) (m' x')) {f f' : Env → M Env} (hf : ∀ e e' x, EqE e e' → RE (f e x) (f' e' x)) : RE (bnd m f x) (bnd m' f' x') := by
  simp only [bnd]
  revert h
  generalize m x = r
  generalize m' x' = r'
  intro h
  cases r with
  | ok e x => obtain ⟨e', rfl, h⟩ := h; exact hf e e' x h
  | pan v x => cases h; exact rfl
  | fail => trivial
omit [Dr] in
theorem runSeq_congr : ∀ (l : List Nat) {e e' : Env} (_ : EqE e e') (x : Hp), RE (runSeq cx base ops l e x) (runSeq cx base ops l e' x)
  | [], e, e', h, x => ⟨e', rfl, h⟩
  | i :: l, e, e', h, x => by
    exact RE.bind (stepG_congr h i x) fun e e' x h => runSeq_congr l h x
end
end Go.Av

/- Exchange of two operations. Condition: the isolated calls see nothing of the heap and do not panic. -/
namespace Go.Av
variable [Dr]
omit [Dr] in
theorem memN_of_mem {l : List Nat} {t : Nat} (h : t ∈ l) : memN l t = true := (memN_iff l t).2 h
omit [Dr] in
theorem not_memO {l : List Nat} {d : Option Nat} (h : memO l d = false) : ∀ t ∈ l, d ≠ some t := by
  intro t ht hd
  rw [hd] at h
  simp only [memO] at h
  rw [memN_of_mem ht] at h
  cases h
omit [Dr] in
theorem not_clash {a b : Option Nat} (h : clash a b = false) : ∀ t, a = some t → b ≠ some t := by
  intro t ha hb
  rw [ha, hb] at h
  simp [clash] at h
section
variable {cx : Cx} {ops : Array Oper} {base : Nat} {e : Env}
omit [Dr] in
theorem stripU_shape {gid : Nat} {f : Foot} {ss : Option Nat} {u : Upd} (h : Shape e gid f ss u) : Shape e gid f ss (stripU u) :=
  ⟨fun _ => rfl, fun _ => rfl, fun _ => rfl, fun _ x h => by simp [stripU] at h, fun _ => rfl, fun _ => rfl, fun hw C off hh => h.loc hw C off hh, fun x h => by simp [stripU] at h⟩
omit [Dr] in
theorem stripA_all {p q : Upd → Prop} (hpq : ∀ u, p u → q (stripU u)) {A : Act1} (h : ActAll p A) : ActAll q (stripA A) := by
  cases A with
  | bad => trivial
  | stat u => exact hpq _ h
  | dyn m sh => exact fun v => hpq _ (h v)
  | thr v => trivial
omit [Dr] in
theorem stripA_M {p : ∀ {α : Type}, M α → Prop} {A : Act1} (h : ActM p A) : ActM p (stripA A) := by
  cases A <;> exact h
omit [Dr] in
theorem actG_shape {i : Nat} {o : Oper} (ho : ops[i]? = some o) {h h' : Hp} {u : Upd} (hr : actG cx base ops i e h = .ok u h') : Shape e ((base + i) * 1000) (footOf cx o) (storeSlot o) u := by
  unfold actG at hr
  rw [ho] at hr
  simp only at hr
  cases hgd : o.guard with
  | none => rw [hgd] at hr; exact actOf_all (opD_shape _ _ _ _) hr
  | some g =>
    obtain ⟨j, want⟩ := g
    rw [hgd] at hr
    simp only at hr
    cases hdj : dstOf ops j with
    | none => rw [hdj] at hr; cases hr
    | some t =>
      rw [hdj] at hr
      simp only at hr
      cases hpl : plainOp cx o with
      | false => rw [hpl] at hr; cases hr
      | true =>
        rw [hpl] at hr
        simp only [cond_true] at hr
        have h0 : ∀ {h h' : Hp}, (M.pure (Upd.ofV (.tup [])) : M Upd) h = .ok u h' → Shape e ((base + i) * 1000) (footOf cx o) (storeSlot o) u := by
          intro h h' hh
          cases hh
          exact Shape.ofV ..
        generalize e.av t = q at hr
        cases q with
        | bool b =>
          simp only [gLook] at hr
          cases hb : (b == want) with
          | false => rw [hb] at hr; exact h0 hr
          | true => rw [hb] at hr; exact actOf_all (stripA_all (fun u => stripU_shape) (opD_shape _ _ _ _)) hr
        | tup vs =>
          cases vs with
          | nil => exact h0 hr
          | cons v vs => cases hr
        | _ => cases hr
omit [Dr] in
theorem actOf_M {p : ∀ {α : Type}, M α → Prop} (h1 : ∀ {α : Type} (m : M α), PureM m → p m) (h2 : ∀ {α β : Type} (m : M α) (f : α → β), p m → p (bnd m fun v => M.pure (f v))) {A : Act1} (h : ActM p A) : p (actOf A) := by
  cases A with
  | bad => exact h1 _ PureM.fail
  | stat u => exact h1 _ (PureM.pure u)
  | dyn m sh => exact h2 _ _ h
  | thr v => exact h.elim
omit [Dr] in
theorem actG_M {p : ∀ {α : Type}, M α → Prop} (h1 : ∀ {α : Type} (m : M α), PureM m → p m) (h2 : ∀ {α β : Type} (m : M α) (f : α → β), p m → p (bnd m fun v => M.pure (f v)))
    {i : Nat} {o : Oper} (ho : ops[i]? = some o) (h : ActM p (opD cx e ((base + i) * 1000) o)) : p (actG cx base ops i e) := by
  unfold actG
  rw [ho]
  simp only
  cases hgd : o.guard with
  | none => exact actOf_M h1 h2 h
  | some g =>
    obtain ⟨j, want⟩ := g
    simp only
    cases hdj : dstOf ops j with
    | none => exact h1 _ PureM.fail
    | some t =>
      simp only
      cases hpl : plainOp cx o with
      | false => exact h1 _ PureM.fail
      | true =>
        simp only [cond_true]
        unfold gLook
        split
        · rename_i b _
          cases hb : (b == want) with
          | false => exact h1 _ (PureM.pure _)
          | true => exact actOf_M h1 h2 (stripA_M h)
        · exact h1 _ (PureM.pure _)
        · exact h1 _ PureM.fail
structure Small (ops : Array Oper) : Prop where
  dst : ∀ (i : Nat) (o : Oper), ops[i]? = some o → ∀ t, o.dst = some t → t < 1000
  src : ∀ (i : Nat) (o : Oper), ops[i]? = some o → ∀ t ∈ opTmps o, t < 1000
omit [Dr] in
theorem Small.reads (hS : Small ops) {i : Nat} {o : Oper} (ho : ops[i]? = some o) : ∀ t ∈ readsOf ops i, t < 1000 := by
  intro t ht
  rw [readsOf_eq ho, List.mem_append] at ht
  rcases ht with ht | ht
  · unfold guardTmps at ht
    split at ht
    · rename_i j _ _
      cases hj : ops[j]? with
      | none => rw [hj] at ht; simp at ht
      | some oj =>
        rw [hj] at ht
        simp only [Option.bind_some] at ht
        cases hd : oj.dst with
        | none => rw [hd] at ht; simp at ht
        | some s => rw [hd] at ht; simp at ht; rw [ht]; exact hS.dst j oj hj s hd
    · simp at ht
  · exact hS.src i o ho t ht
omit [Dr] in
theorem get_other {gid : Nat} {x : Foot} {ss : Option Nat} {u : Upd} {d : Option Tmp} (hsh : Shape e gid x ss u) {t : Nat} (h1 : d ≠ some t) (h2 : ss ≠ some t) (h3 : t < 1000) : (e.upd d u).get t = e.get t := by
  rw [get_upd, if_neg h1]
  refine lookE_miss _ fun y hy hyt => ?_
  rcases hsh.keys y hy with h | h
  · omega
  · exact h2 (by rw [h, hyt])
omit [Dr] in
theorem get_noLs {gid : Nat} {x : Foot} {ss : Option Nat} {u : Upd} {d : Option Tmp} (hsh : Shape e gid x ss u) (hw : x.wl = false) {t : Nat} (h1 : d ≠ some t) : (e.upd d u).get t = e.get t := by
  rw [get_upd, if_neg h1, hsh.ls hw]; rfl
omit [Dr] in
theorem agree_fwd {gid : Nat} {x : Foot} {ss : Option Nat} {u : Upd} {d : Option Tmp} {o : Oper} (hsh : Shape e gid x ss u) (hd : ∀ t, d = some t → t < 1000) (hops : ∀ t ∈ opTmps o, d ≠ some t ∧ ss ≠ some t ∧ t < 1000)
    (hloc : ((footOf cx o).rl || (footOf cx o).wl) = true → x.wl = false) (hal : (footOf cx o).dr = true → x.ad = false ∧ x.dr = false) : Agree cx o e (e.upd d u) := by
  refine ⟨fun t ht => get_other hsh (hops t ht).1 (hops t ht).2.1 (hops t ht).2.2, fun h => ⟨fun t ht => get_noLs hsh (hloc h) (fun hh => Nat.not_lt.2 ht (hd t hh)), fun B => ?_⟩, fun h g => ?_, fun h s _ hl => ?_⟩
  · show lbSize (addO (dropLb e.lb u.unlb) u.lb) B = lbSize e.lb B
    rw [hsh.lb (hloc h), hsh.unlb (hloc h)]; rfl
  · show aliveG (u.add ++ dropO e.al u.drop) g = aliveG e.al g
    rw [hsh.noad (hal h).1, hsh.nodr (hal h).2]; rfl
  · have hw := hloc (by rw [h]; simp)
    show locFree (slD d u.ent (u.ls ++ e.sl)) (lbase s) = true
    rw [hsh.ls hw, locFree_slD, List.nil_append, hl, Bool.and_true]
    have : entFree u.ent (lbase s) = true := by
      unfold entFree
      split
      · rename_i C off hv
        obtain ⟨t, off', ht⟩ := hsh.loc hw C off hv
        have := locFree_look hl ht
        rw [Bool.not_eq_true', Bool.eq_false_iff]
        intro hh
        exact this (Nat.eq_of_beq_eq_true hh)
      · rfl
    rw [this, Bool.or_true]
omit [Dr] in
theorem agree_bwd {gid : Nat} {x : Foot} {ss : Option Nat} {u : Upd} {d : Option Tmp} {o : Oper} (hsh : Shape e gid x ss u) (hd : ∀ t, d = some t → t < 1000) (hops : ∀ t ∈ opTmps o, d ≠ some t ∧ ss ≠ some t ∧ t < 1000)
    (hloc : ((footOf cx o).rl || (footOf cx o).wl) = true → x.wl = false) (hal : (footOf cx o).dr = true → x.ad = false ∧ x.dr = false) : Agree cx o (e.upd d u) e := by
  have A := agree_fwd (cx := cx) hsh hd hops hloc hal
  refine ⟨fun t ht => (A.ops t ht).symm, fun h => ⟨fun t ht => ((A.loc h).1 t ht).symm, fun B => ((A.loc h).2 B).symm⟩, fun h g => (A.al h g).symm, fun _ s _ hl => ?_⟩
  have hl' : locFree (slD d u.ent (u.ls ++ e.sl)) (lbase s) = true := hl
  rw [locFree_slD, locFree_app] at hl'
  simp only [Bool.and_eq_true] at hl'
  exact hl'.2.2
omit [Dr] in
theorem upd_comm {gi gj : Nat} {x y : Foot} {si sj : Option Nat} {u v : Upd} {d f : Option Tmp} (hu : Shape e gi x si u) (hv : Shape e gj y sj v) (hy : y.wl = false)
    (hf : ∀ t, f = some t → t < 1000) (hdf : ∀ t, d = some t → f ≠ some t) (hsf : ∀ t, si = some t → f ≠ some t)
    (hg : gi ≠ gj) (h1 : x.dr = true → y.dr = false ∧ y.ad = false) (h2 : x.ad = true → y.dr = false) (h3 : x.ad = true → y.ad = true → x.wl = false) : EqE ((e.upd d u).upd f v) ((e.upd f v).upd d u) := by
  have e1 := hv.ls hy
  have e2 := hv.lb hy
  have e3 := hv.unlb hy
  refine ⟨fun t => ?_, fun g => ?_, fun B => ?_, fun B => ?_⟩
  · rw [get_upd, get_upd, e1]
    show (if d = some t then u.ent else lookE (u.ls ++ slD f v.ent (v.ls ++ e.sl)) t) = if f = some t then v.ent else lookE (slD d u.ent (u.ls ++ e.sl)) t
    rw [e1, lookE_slD, List.nil_append]
    by_cases hft : f = some t
    · rw [if_pos hft, if_neg (fun h => hdf t h hft), lookE_miss, lookE_slD, if_pos hft]
      intro z hz hzt
      rcases hu.keys z hz with h | h
      · exact Nat.not_lt.2 h (by rw [hzt]; exact hf t hft)
      · exact hsf z.1 h (by rw [hzt]; exact hft)
    · rw [if_neg hft]
      split
      · rfl
      · exact lookE_congr (by rw [lookE_slD, if_neg hft])
  · show aliveG (u.add ++ dropO (v.add ++ dropO e.al v.drop) u.drop) g = aliveG (v.add ++ dropO (u.add ++ dropO e.al u.drop) v.drop) g
    cases hxd : x.dr with
    | true =>
      obtain ⟨h4, h5⟩ := h1 hxd
      rw [hv.noad h5, hv.nodr h4]
      rfl
    | false =>
      rw [hu.nodr hxd]
      cases hxa : x.ad with
      | false => rw [hu.noad hxa]; rfl
      | true =>
        rw [hv.nodr (h2 hxa)]
        cases hya : y.ad with
        | false => rw [hv.noad hya]; rfl
        | true =>
          have k1 := hu.add (h3 hxa hya)
          have k2 := hv.add hy
          show aliveG (u.add ++ (v.add ++ e.al)) g = aliveG (v.add ++ (u.add ++ e.al)) g
          rw [aliveG_app, aliveG_app, aliveG_app, aliveG_app]
          by_cases hgi : g = gi
          · rw [aliveG_none k2 (by omega)]
          · rw [aliveG_none k1 hgi]
  · show lbSize (addO (dropLb (addO (dropLb e.lb v.unlb) v.lb) u.unlb) u.lb) B = lbSize (addO (dropLb (addO (dropLb e.lb u.unlb) u.lb) v.unlb) v.lb) B
    rw [e2, e3]; rfl
  · show locFree (slD d u.ent (u.ls ++ slD f v.ent (v.ls ++ e.sl))) B = locFree (slD f v.ent (v.ls ++ slD d u.ent (u.ls ++ e.sl))) B
    simp only [locFree_slD, locFree_app]
    ac_rfl
end
end Go.Av

/- Any order of a region. Condition: the isolated calls see nothing of the heap and do not panic. -/
namespace Go.Av
variable [Dr]
section
variable {cx : Cx} {ops : Array Oper} {base : Nat}
structure Ind (cx : Cx) (ops : Array Oper) (i j : Nat) (a b : Oper) : Prop where
  ha : ops[i]? = some a
  hb : ops[j]? = some b
  piv : (footOf cx a).piv = false
  l1 : (footOf cx a).wl = true → (footOf cx b).rl = false ∧ (footOf cx b).wl = false
  l2 : (footOf cx a).rl = true → (footOf cx b).wl = false
  h1 : (footOf cx a).wh = true → (footOf cx b).rh = false ∧ (footOf cx b).wh = false
  h2 : (footOf cx a).rh = true → (footOf cx b).wh = false ∨ (footOf cx b).nw = true
  g1 : (footOf cx a).dr = true → (footOf cx b).dr = false ∧ (footOf cx b).ad = false
  g2 : (footOf cx a).ad = true → (footOf cx b).dr = false
  g3 : (footOf cx a).ad = true → (footOf cx b).ad = true → (footOf cx a).wl = false ∧ (footOf cx b).wl = false
  r1 : ∀ t ∈ readsOf ops j, a.dst ≠ some t
  r2 : ∀ t ∈ readsOf ops i, b.dst ≠ some t
  s1 : ∀ t ∈ readsOf ops j, storeSlot a ≠ some t
  s2 : ∀ t ∈ readsOf ops i, storeSlot b ≠ some t
  c1 : ∀ t, storeSlot a = some t → b.dst ≠ some t
  c2 : ∀ t, a.dst = some t → storeSlot b ≠ some t
  c3 : ∀ t, a.dst = some t → b.dst ≠ some t
omit [Dr] in
theorem indep_inv {i j : Nat} (h : indep cx ops i j = true) : ∃ a b, Ind cx ops i j a b := by
  unfold indep at h
  split at h
  · rename_i a b ha hb
    refine ⟨a, b, ?_⟩
    simp only [Bool.and_eq_true, Bool.not_eq_true'] at h
    obtain ⟨⟨⟨⟨⟨⟨⟨⟨⟨⟨⟨⟨⟨⟨k1, k2⟩, k3⟩, k4⟩, k5⟩, k6⟩, k7⟩, k8⟩, k9⟩, k10⟩, k11⟩, k12⟩, k13⟩, k14⟩, k15⟩ := h
    refine ⟨ha, hb, k1, fun q => ?_, fun q => ?_, fun q => ?_, fun q => ?_, fun q => ?_, fun q => ?_, fun q q' => ?_, not_memO k9, not_memO k10, not_memO k11, not_memO k12, not_clash k13, not_clash k14, not_clash k15⟩
    · rw [q] at k2; simpa using k2
    · rw [q] at k3; simpa using k3
    · rw [q] at k4; simpa using k4
    · rw [q] at k5; simp only [Bool.true_and] at k5; cases hb : (footOf cx b).wh <;> simp_all
    · rw [q] at k6; simpa using k6
    · rw [q] at k7; simpa using k7
    · rw [q, q'] at k8; simpa using k8
  · cases h
omit [Dr] in
theorem swap (hI : IsoPure cx) (hS : Small ops) {i j : Nat} (hij : indep cx ops i j = true) (hne : i ≠ j) (e : Env) (h : Hp) :
    RE (bnd (stepG cx base ops i e) (stepG cx base ops j) h) (bnd (stepG cx base ops j e) (stepG cx base ops i) h) := by
  obtain ⟨a, b, I⟩ := indep_inv hij
  have hda : dstOf ops i = a.dst := by simp [dstOf, I.ha]
  have hdb : dstOf ops j = b.dst := by simp [dstOf, I.hb]
  unfold stepG
  rw [hda, hdb]
  simp only [bnd, M.pure]
  cases hri : actG cx base ops i e h with
  | fail => trivial
  | pan v h' => exact absurd hri (actG_M (p := @StayM) (fun _ g => g.read.stay) (fun _ f g => g.bnd f) I.ha ((opD_class hI e _ a).stay I.piv) h v h')
  | ok u h1 =>
    simp only
    have shu := actG_shape I.ha hri
    have hra := readsOf_eq (ops := ops) I.ha
    have hrb := readsOf_eq (ops := ops) I.hb
    have hbo : ∀ t ∈ opTmps b, a.dst ≠ some t ∧ storeSlot a ≠ some t ∧ t < 1000 := fun t ht => ⟨I.r1 t (by rw [hrb]; simp [ht]), I.s1 t (by rw [hrb]; simp [ht]), hS.src j b I.hb t ht⟩
    have hao : ∀ t ∈ opTmps a, b.dst ≠ some t ∧ storeSlot b ≠ some t ∧ t < 1000 := fun t ht => ⟨I.r2 t (by rw [hra]; simp [ht]), I.s2 t (by rw [hra]; simp [ht]), hS.src i a I.ha t ht⟩
    have Abwd : Agree cx b (e.upd a.dst u) e := agree_bwd shu (hS.dst i a I.ha) hbo (fun q => by
      cases hw : (footOf cx a).wl with
      | false => rfl
      | true => obtain ⟨q1, q2⟩ := I.l1 hw; rw [q1, q2] at q; cases q) (fun q => by
      constructor
      · cases hw : (footOf cx a).ad with
        | false => rfl
        | true => have := I.g2 hw; rw [this] at q; cases q
      · cases hw : (footOf cx a).dr with
        | false => rfl
        | true => have := (I.g1 hw).1; rw [this] at q; cases q)
    have hgb : ∀ t ∈ guardTmps ops b, e.get t = (e.upd a.dst u).get t := fun t ht => by
      have htr : t ∈ readsOf ops j := by rw [hrb]; simp [ht]
      exact (get_other shu (I.r1 t htr) (I.s1 t htr) (hS.reads I.hb t htr)).symm
    -- the second, after the first
    cases hrj : actG cx base ops j (e.upd a.dst u) h1 with
    | fail => trivial
    | pan v h2 =>
      have hj := actG_agree (base := base) I.hb hgb Abwd (h := h1) (by rw [hrj]; simp)
      rw [hrj] at hj
      -- j leaves: so it may write, and i did not touch the heap
      have hwb : (footOf cx b).wh = true := by
        cases hw : (footOf cx b).wh with
        | true => rfl
        | false => exact absurd hj ((actG_M (p := @ReadM) (fun _ g => g.read) (fun _ f g => g.bnd f) I.hb ((opD_class hI e _ b).read hw)).stay _ _ _)
      have hwa : (footOf cx a).wh = false := by
        cases hw : (footOf cx a).wh with
        | false => rfl
        | true => have := (I.h1 hw).2; rw [this] at hwb; cases hwb
      have hh : h1 = h := by
        have hR : ReadM (actG cx base ops i e) := actG_M (p := @ReadM) (fun _ g => g.read) (fun _ f g => g.bnd f) I.ha ((opD_class hI e _ a).read hwa)
        rcases hR h with hx | ⟨u', hx⟩ <;> rw [hri] at hx <;> cases hx
        rfl
      subst hh
      rw [hj]
      exact rfl
    | ok v h2 =>
      have hj := actG_agree (base := base) I.hb hgb Abwd (h := h1) (by rw [hrj]; simp)
      rw [hrj] at hj
      have shv := actG_shape I.hb hj
      have Afwd : Agree cx a e (e.upd b.dst v) := agree_fwd shv (hS.dst j b I.hb) hao (fun q => by
        cases hw : (footOf cx b).wl with
        | false => rfl
        | true =>
          exfalso
          cases hrl : (footOf cx a).rl with
          | true => have := I.l2 hrl; rw [this] at hw; cases hw
          | false =>
            rw [hrl] at q
            have hwl : (footOf cx a).wl = true := by simpa using q
            have := (I.l1 hwl).2
            rw [this] at hw; cases hw) (fun q => ⟨(I.g1 q).2, (I.g1 q).1⟩)
      have hga : ∀ t ∈ guardTmps ops a, (e.upd b.dst v).get t = e.get t := fun t ht => by
        have htr : t ∈ readsOf ops i := by rw [hra]; simp [ht]
        exact get_other shv (I.r2 t htr) (I.s2 t htr) (hS.reads I.ha t htr)
      have hcomm : EqE ((e.upd a.dst u).upd b.dst v) ((e.upd b.dst v).upd a.dst u) := by
        have hgij : (base + i) * 1000 ≠ (base + j) * 1000 := by omega
        cases hwb : (footOf cx b).wl with
        | false =>
          exact upd_comm shu shv hwb (hS.dst j b I.hb) I.c3 I.c1 hgij I.g1 I.g2 (fun q q' => (I.g3 q q').1)
        | true =>
          have hwa : (footOf cx a).wl = false := by
            cases hw : (footOf cx a).wl with
            | false => rfl
            | true => have := (I.l1 hw).2; rw [this] at hwb; cases hwb
          refine (upd_comm shv shu hwa (hS.dst i a I.ha) (fun t ht hh => I.c3 t hh ht) (fun t ht hh => I.c2 t hh ht) (Ne.symm hgij) (fun q => ⟨?_, ?_⟩) (fun q => ?_) (fun q q' => ?_)).symm
          · cases hw : (footOf cx a).dr with
            | false => rfl
            | true => have := (I.g1 hw).1; rw [this] at q; cases q
          · cases hw : (footOf cx a).ad with
            | false => rfl
            | true => have := I.g2 hw; rw [this] at q; cases q
          · cases hw : (footOf cx a).dr with
            | false => rfl
            | true => have := (I.g1 hw).2; rw [this] at q; cases q
          · have := (I.g3 q' q).2; rw [this] at hwb; cases hwb
      cases hwa : (footOf cx a).wh with
      | false =>
        have hR : ReadM (actG cx base ops i e) := actG_M (p := @ReadM) (fun _ g => g.read) (fun _ f g => g.bnd f) I.ha ((opD_class hI e _ a).read hwa)
        have hh : h1 = h := by
          rcases hR h with hx | ⟨u', hx⟩ <;> rw [hri] at hx <;> cases hx
          rfl
        subst hh
        rw [hj]
        simp only
        have hi2 : actG cx base ops i e h2 = .ok u h2 := by
          cases hra' : (footOf cx a).rh with
          | false =>
            obtain ⟨q, hq⟩ : PureM (actG cx base ops i e) := actG_M (p := @PureM) (fun _ g => g) (fun _ f g => g.bnd f) I.ha ((opD_class hI e _ a).pure hwa hra')
            rw [hq] at hri ⊢
            cases q with
            | none => cases hri
            | some u' => cases hri; rfl
          | true =>
            rcases I.h2 hra' with hwb | hnw
            case inr =>
              have hNw : NwM (actG cx base ops j e) := actG_M (p := @NwM) (fun _ g => g.nw) (fun _ f g => g.bnd f) I.hb ((opD_class hI e _ b).nw hnw)
              have hAp : AppM (actG cx base ops i e) ∧ ReadM (actG cx base ops i e) := actG_M (p := fun m => AppM m ∧ ReadM m) (fun _ g => ⟨g.app, g.read⟩) (fun _ f g => AppM.bnd g f) I.ha ((opD_class hI e _ a).app hwa)
              obtain ⟨t, rfl⟩ := hNw _ _ _ hj
              exact hAp.1 _ t _ hri
            have hRb : ReadM (actG cx base ops j e) := actG_M (p := @ReadM) (fun _ g => g.read) (fun _ f g => g.bnd f) I.hb ((opD_class hI e _ b).read hwb)
            rcases hRb h1 with hx | ⟨u', hx⟩ <;> rw [hj] at hx <;> cases hx
            exact hri
        rw [actG_agree I.ha hga Afwd (by rw [hi2]; simp), hi2]
        exact ⟨_, rfl, hcomm⟩
      | true =>
        obtain ⟨hrb', hwb⟩ := I.h1 hwa
        obtain ⟨q, hq⟩ : PureM (actG cx base ops j e) := actG_M (p := @PureM) (fun _ g => g) (fun _ f g => g.bnd f) I.hb ((opD_class hI e _ b).pure hwb hrb')
        rw [hq] at hj ⊢
        cases q with
        | none => cases hj
        | some u' =>
          cases hj
          simp only [lft]
          rw [actG_agree I.ha hga Afwd (by rw [hri]; simp), hri]
          exact ⟨_, rfl, hcomm⟩
omit [Dr] in
theorem front (hI : IsoPure cx) (hS : Small ops) {i : Nat} (q : List Nat) : ∀ (p : List Nat), (∀ x ∈ p, indep cx ops x i = true ∧ x ≠ i) → ∀ (e : Env) (h : Hp), RE (runSeq cx base ops (p ++ i :: q) e h) (runSeq cx base ops (i :: (p ++ q)) e h)
  | [], _, e, h => RE.refl _
  | x :: p, hp, e, h => by
    have ih := fun e h => front hI hS q p (fun y hy => hp y (by simp [hy])) e h
    have h1 : RE (runSeq cx base ops (x :: (p ++ i :: q)) e h) (runSeq cx base ops (x :: i :: (p ++ q)) e h) := by
      simp only [runSeq, bnd] at ih ⊢
      cases stepG cx base ops x e h with
      | ok e' h' => exact ih e' h'
      | pan v h' => exact rfl
      | fail => trivial
    refine h1.trans ?_
    have e1 : runSeq cx base ops (x :: i :: (p ++ q)) e = bnd (bnd (stepG cx base ops x e) (stepG cx base ops i)) (runSeq cx base ops (p ++ q)) := by rw [bnd_bnd]; rfl
    have e2 : runSeq cx base ops (i :: x :: (p ++ q)) e = bnd (bnd (stepG cx base ops i e) (stepG cx base ops x)) (runSeq cx base ops (p ++ q)) := by rw [bnd_bnd]; rfl
    show RE (runSeq cx base ops (x :: i :: (p ++ q)) e h) (runSeq cx base ops (i :: x :: (p ++ q)) e h)
    rw [e1, e2]
    exact RE.bind (swap hI hS (hp x (by simp)).1 (hp x (by simp)).2 e h) fun e e' x h => runSeq_congr _ h x
end
end Go.Av

/- Groups of one guard, as operations one after another. No condition. -/
namespace Go.Av
variable [Dr]
omit [Dr] in
theorem sameG_eq {a b : Option (Nat × Bool)} (h : sameG a b = true) : a = b := by
  unfold sameG at h
  split at h
  · rfl
  · simp only [Bool.and_eq_true, beq_iff_eq] at h
    rw [Nat.eq_of_beq_eq_true h.1, h.2]
  · cases h
def flatG (gs : List (Option (Nat × Bool) × List Nat)) : List Nat := gs.flatMap (·.2)
omit [Dr] in
theorem groupsOf_spec (ops : Array Oper) : ∀ l : List Nat, flatG (groupsOf ops l) = l ∧ ∀ g ∈ groupsOf ops l, ∀ i ∈ g.2, guardOf ops i = g.1
  | [] => ⟨rfl, by simp [groupsOf]⟩
  | i :: is => by
    obtain ⟨h1, h2⟩ := groupsOf_spec ops is
    simp only [groupsOf]
    cases hg : groupsOf ops is with
    | nil =>
      rw [hg] at h1
      have : is = [] := by simpa [flatG] using h1.symm
      subst this
      exact ⟨rfl, by simp⟩
    | cons x r =>
      obtain ⟨g, js⟩ := x
      rw [hg] at h1 h2
      simp only
      cases hs : sameG (guardOf ops i) g with
      | true =>
        refine ⟨?_, fun y hy => ?_⟩
        · simp only [cond_true, flatG, List.flatMap_cons, List.cons_append] at h1 ⊢
          rw [h1]
        · simp only [cond_true, List.mem_cons] at hy
          rcases hy with rfl | hy
          · intro k hk
            simp only [List.mem_cons] at hk
            rcases hk with rfl | hk
            · exact sameG_eq hs
            · exact h2 (g, js) (by simp) k hk
          · exact h2 y (by simp [hy])
      | false =>
        refine ⟨?_, fun y hy => ?_⟩
        · simp only [cond_false, flatG, List.flatMap_cons, List.cons_append, List.nil_append] at h1 ⊢
          rw [h1]
        · simp only [cond_false, List.mem_cons] at hy
          rcases hy with rfl | rfl | hy
          · intro k hk
            simp only [List.mem_singleton] at hk
            subst hk; rfl
          · exact h2 (g, js) (by simp)
          · exact h2 y (by simp [hy])
omit [Dr] in
theorem evAct_eq {ρ : Type} (e : Env) (d : Option Tmp) (A : Act1) (k : Env → M ρ) : evAct e d A k = bnd (actOf A) fun u => k (e.upd d u) := by
  cases A with
  | bad => rfl
  | stat u => rfl
  | dyn m sh => simp only [evAct, actOf, bnd_bnd, bnd_pure]
  | thr v => rfl
omit [Dr] in
theorem bnd_congr {α β : Type} {m : M α} {f g : α → M β} {h : Hp} (hfg : ∀ u h', m h = .ok u h' → f u h' = g u h') : bnd m f h = bnd m g h := by
  simp only [bnd]
  cases hm : m h with
  | ok u h' => exact hfg u h' hm
  | pan v h' => rfl
  | fail => rfl
section
variable {cx : Cx} {ops : Array Oper} {base : Nat}
omit [Dr] in
theorem actG_none {i : Nat} {o : Oper} (ho : ops[i]? = some o) (hg : guardOf ops i = none) (e : Env) : actG cx base ops i e = actOf (opD cx e ((base + i) * 1000) o) := by
  have : o.guard = none := by simpa [guardOf, ho] using hg
  unfold actG
  rw [ho]
  simp only
  rw [this]
omit [Dr] in
theorem actG_some {i j t : Nat} {want : Bool} {o : Oper} (ho : ops[i]? = some o) (hg : guardOf ops i = some (j, want)) (hj : dstOf ops j = some t) (hp : plainOp cx o = true) (e : Env) :
    actG cx base ops i e = gLook (e.av t) want (actOf (stripA (opD cx e ((base + i) * 1000) o))) := by
  have : o.guard = some (j, want) := by simpa [guardOf, ho] using hg
  unfold actG
  rw [ho]
  simp only
  rw [this]
  simp only
  rw [hj]
  simp only
  rw [hp]
  rfl
omit [Dr] in
theorem run_none {ρ : Type} : ∀ (is : List Nat) (e : Env) (k : Env → M ρ) (_ : ∀ i ∈ is, guardOf ops i = none), evRun cx base ops false is e k = bnd (runSeq cx base ops is e) k
  | [], e, k, _ => rfl
  | i :: is, e, k, hg => by
    simp only [evRun, runSeq]
    unfold stepG
    cases ho : ops[i]? with
    | none => unfold actG; rw [ho]; rfl
    | some o =>
      simp only
      rw [evAct_eq, actG_none ho (hg i (by simp)), bnd_bnd, bnd_bnd]
      have hd : dstOf ops i = o.dst := by simp [dstOf, ho]
      rw [hd]
      congr 1
      funext u
      simp only [bnd_pure]
      exact run_none is _ k fun j hj => hg j (by simp [hj])
structure Turned (ds : List Nat) (e e' : Env) : Prop where
  get : ∀ t, t ∉ ds → e'.get t = e.get t
  al : e'.al = e.al
  lb : e'.lb = e.lb
  lf : ∀ B, locFree e.sl B = true → locFree e'.sl B = true
  ng : ∀ t ∈ ds, (e'.get t).g = none
omit [Dr] in
theorem Turned.step {ds : List Nat} {e e' : Env} (H : Turned ds e e') {u : Upd} {d : Option Nat} (hls : u.ls = []) (hadd : u.add = []) (hdrop : u.drop = none) (hlb : u.lb = none) (hunlb : u.unlb = none) (hg : u.ent.g = none)
    (hloc : ∀ C off, u.ent.v = .loc C off → ∃ t off', (e'.get t).v = .loc C off') : Turned (d.toList ++ ds) e (e'.upd d u) := by
  have hget : ∀ t, (e'.upd d u).get t = if d = some t then u.ent else e'.get t := fun t => by rw [get_upd, hls]; rfl
  refine ⟨fun t ht => ?_, ?_, ?_, fun B hB => ?_, fun t ht => ?_⟩
  · simp only [List.mem_append, not_or, Option.mem_toList] at ht
    rw [hget, if_neg ht.1]
    exact H.get t ht.2
  · show u.add ++ dropO e'.al u.drop = e.al
    rw [hadd, hdrop]; exact H.al
  · show addO (dropLb e'.lb u.unlb) u.lb = e.lb
    rw [hlb, hunlb]; exact H.lb
  · have h1 := H.lf B hB
    show locFree (slD d u.ent (u.ls ++ e'.sl)) B = true
    rw [hls, locFree_slD, List.nil_append, h1, Bool.and_true]
    have : entFree u.ent B = true := by
      unfold entFree
      split
      · rename_i C off hv
        obtain ⟨t, off', ht⟩ := hloc C off hv
        have := locFree_look h1 ht
        rw [Bool.not_eq_true', Bool.eq_false_iff]
        intro hh
        exact this (Nat.eq_of_beq_eq_true hh)
      · rfl
    rw [this, Bool.or_true]
  · rw [hget]
    split
    · exact hg
    · rename_i hd
      simp only [List.mem_append, Option.mem_toList] at ht
      rcases ht with ht | ht
      · exact absurd ht hd
      · exact H.ng t ht
omit [Dr] in
theorem Turned.refl (e : Env) : Turned [] e e := ⟨fun _ _ => rfl, rfl, rfl, fun _ h => h, fun t h => by simp at h⟩
omit [Dr] in
theorem Turned.sub {ds ds' : List Nat} {e e' : Env} (H : Turned ds e e') (h : ∀ t, t ∈ ds ↔ t ∈ ds') : Turned ds' e e' :=
  ⟨fun t ht => H.get t fun hh => ht ((h t).1 hh), H.al, H.lb, H.lf, fun t ht => H.ng t ((h t).2 ht)⟩
structure GroupOk (cx : Cx) (ops : Array Oper) (j : Nat) (want : Bool) (t : Nat) (is : List Nat) : Prop where
  hj : dstOf ops j = some t
  each : ∀ i ∈ is, ∃ o, ops[i]? = some o ∧ guardOf ops i = some (j, want) ∧ plainOp cx o = true
  nt : t ∉ dstsOf ops is
omit [Dr] in
theorem dstsOf_cons (i : Nat) (is : List Nat) : ∀ t, t ∈ dstsOf ops (i :: is) ↔ dstOf ops i = some t ∨ t ∈ dstsOf ops is := by
  intro t
  unfold dstsOf
  simp only [List.mem_filterMap, List.mem_cons, exists_eq_or_imp]
omit [Dr] in
theorem GroupOk.tail {j : Nat} {want : Bool} {t i : Nat} {is : List Nat} (G : GroupOk cx ops j want t (i :: is)) : GroupOk cx ops j want t is :=
  ⟨G.hj, fun k hk => G.each k (by simp [hk]), fun h => G.nt ((dstsOf_cons i is t).2 (.inr h))⟩
omit [Dr] in
theorem GroupOk.ne {j : Nat} {want : Bool} {t i : Nat} {is : List Nat} (G : GroupOk cx ops j want t (i :: is)) : dstOf ops i ≠ some t := fun h => G.nt ((dstsOf_cons i is t).2 (.inl h))
omit [Dr] in
theorem actOf_strip_inv {A : Act1} {h h' : Hp} {u : Upd} (hr : actOf (stripA A) h = .ok u h') : ∃ u0, actOf A h = .ok u0 h' ∧ u = stripU u0 := by
  rw [actOf_strip] at hr
  cases hx : actOf A h <;> rw [hx] at hr <;> simp at hr
  exact ⟨_, by rw [hr.2], hr.1.symm⟩
omit [Dr] in
theorem run_taken {ρ : Type} {j : Nat} {want : Bool} {t : Nat} : ∀ (is : List Nat) (e : Env) (k : Env → M ρ) (h : Hp), GroupOk cx ops j want t is → e.av t = .bool want → evRun cx base ops true is e k h = bnd (runSeq cx base ops is e) k h
  | [], e, k, h, _, _ => rfl
  | i :: is, e, k, h, G, hc => by
    obtain ⟨o, ho, hg, hp⟩ := G.each i (by simp)
    have hd : dstOf ops i = o.dst := by simp [dstOf, ho]
    simp only [evRun, runSeq, ho, cond_true]
    rw [evAct_eq]
    unfold stepG
    rw [actG_some ho hg G.hj hp, hc, bnd_bnd, bnd_bnd]
    simp only [gLook, beq_self_eq_true, cond_true, bnd_pure, hd]
    refine bnd_congr fun u h' hu => ?_
    obtain ⟨u0, hu0, rfl⟩ := actOf_strip_inv hu
    refine run_taken is _ k h' G.tail ?_
    have : (e.upd o.dst (stripU u0)).get t = e.get t := by rw [get_upd, if_neg (by rw [← hd]; exact G.ne)]; rfl
    simp only [Env.av, this]
    exact hc
omit [Dr] in
theorem taken_turned {j : Nat} {want : Bool} {t : Nat} : ∀ (is : List Nat) (e e' : Env) (h h' : Hp), GroupOk cx ops j want t is → e.av t = .bool want → runSeq cx base ops is e h = .ok e' h' → Turned (dstsOf ops is) e e' := by
  have key : ∀ (is : List Nat) (e0 e e' : Env) (ds : List Nat) (h h' : Hp), GroupOk cx ops j want t is → e.av t = .bool want → Turned ds e0 e → runSeq cx base ops is e h = .ok e' h' → Turned (dstsOf ops is ++ ds) e0 e' := by
    intro is
    induction is with
    | nil =>
      intro e0 e e' ds h h' _ _ H hr
      cases hr
      exact H
    | cons i is ih =>
      intro e0 e e' ds h h' G hc H hr
      obtain ⟨o, ho, hg, hp⟩ := G.each i (by simp)
      have hd : dstOf ops i = o.dst := by simp [dstOf, ho]
      simp only [runSeq] at hr
      unfold stepG at hr
      rw [actG_some ho hg G.hj hp, hc, bnd_bnd] at hr
      simp only [gLook, beq_self_eq_true, cond_true, hd, bnd] at hr
      cases hx : actOf (stripA (opD cx e ((base + i) * 1000) o)) h with
      | fail => rw [hx] at hr; cases hr
      | pan v hh => rw [hx] at hr; cases hr
      | ok u hh =>
        rw [hx] at hr
        simp only at hr
        obtain ⟨u0, hu0, rfl⟩ := actOf_strip_inv hx
        have hsh := actOf_all (opD_shape cx e ((base + i) * 1000) o) hu0
        simp only [plainOp, Bool.and_eq_true, Bool.not_eq_true'] at hp
        have H2 := H.step (u := stripU u0) (d := o.dst) rfl rfl rfl rfl rfl rfl (hsh.loc hp.1)
        refine (ih e0 _ e' _ hh h' G.tail ?_ H2 hr).sub fun s => ?_
        · have : (e.upd o.dst (stripU u0)).get t = e.get t := by rw [get_upd, if_neg (by rw [← hd]; exact G.ne)]; rfl
          simp only [Env.av, this]
          exact hc
        · simp only [List.mem_append, dstsOf_cons, Option.mem_toList, hd]
          constructor
          · rintro (h | h | h)
            · exact .inl (.inr h)
            · exact .inl (.inl h)
            · exact .inr h
          · rintro ((h | h) | h)
            · exact .inr (.inl h)
            · exact .inl h
            · exact .inr (.inr h)
  intro is e e' h h' G hc hr
  exact (key is e e e' [] h h' G hc (.refl e) hr).sub (by simp)
def Off (c : AV) (want : Bool) : Prop := c = .tup [] ∨ ∃ b, c = .bool b ∧ (b == want) = false
omit [Dr] in
theorem Off.look {c : AV} {want : Bool} (h : Off c want) (m : M Upd) : gLook c want m = M.pure (.ofV (.tup [])) := by
  rcases h with rfl | ⟨b, rfl, hb⟩
  · rfl
  · simp only [gLook, hb, cond_false]
omit [Dr] in
theorem off_run {j : Nat} {want : Bool} {t : Nat} : ∀ (is : List Nat) (e : Env) (h : Hp), GroupOk cx ops j want t is → Off (e.av t) want → ∃ e', runSeq cx base ops is e h = .ok e' h ∧ Turned (dstsOf ops is) e e' ∧ ∀ s ∈ dstsOf ops is, e'.get s = ⟨.val (.tup []), none⟩ := by
  have key : ∀ (is : List Nat) (e0 e : Env) (ds : List Nat) (h : Hp), GroupOk cx ops j want t is → Off (e.av t) want → Turned ds e0 e → (∀ s ∈ ds, e.get s = ⟨.val (.tup []), none⟩) →
      ∃ e', runSeq cx base ops is e h = .ok e' h ∧ Turned (dstsOf ops is ++ ds) e0 e' ∧ ∀ s ∈ dstsOf ops is ++ ds, e'.get s = ⟨.val (.tup []), none⟩ := by
    intro is
    induction is with
    | nil => exact fun e0 e ds h _ _ H hds => ⟨e, rfl, H, hds⟩
    | cons i is ih =>
      intro e0 e ds h G hc H hds
      obtain ⟨o, ho, hg, hp⟩ := G.each i (by simp)
      have hd : dstOf ops i = o.dst := by simp [dstOf, ho]
      have hget : ∀ s, (e.upd o.dst (.ofV (.tup []))).get s = if o.dst = some s then ⟨.val (.tup []), none⟩ else e.get s := fun s => by rw [get_upd]; rfl
      have H2 := H.step (u := .ofV (.tup [])) (d := o.dst) rfl rfl rfl rfl rfl rfl (fun C off hh => by cases hh)
      have hav : (e.upd o.dst (.ofV (.tup []))).av t = e.av t := by
        have : (e.upd o.dst (.ofV (.tup []))).get t = e.get t := by rw [hget, if_neg (by rw [← hd]; exact G.ne)]
        simp only [Env.av, this]
      obtain ⟨e', h1, h2, h3⟩ := ih e0 (e.upd o.dst (.ofV (.tup []))) (o.dst.toList ++ ds) h G.tail (by rw [hav]; exact hc) H2 (fun s hs => by
        rw [hget]
        split
        · rfl
        · rename_i hn
          simp only [List.mem_append, Option.mem_toList] at hs
          rcases hs with hs | hs
          · exact absurd hs hn
          · exact hds s hs)
      have hiff : ∀ s, s ∈ dstsOf ops is ++ (o.dst.toList ++ ds) ↔ s ∈ dstsOf ops (i :: is) ++ ds := fun s => by
        simp only [List.mem_append, dstsOf_cons, Option.mem_toList, hd]
        constructor
        · rintro (h | h | h)
          · exact .inl (.inr h)
          · exact .inl (.inl h)
          · exact .inr h
        · rintro ((h | h) | h)
          · exact .inr (.inl h)
          · exact .inl h
          · exact .inr (.inr h)
      refine ⟨e', ?_, h2.sub hiff, fun s hs => h3 s ((hiff s).2 hs)⟩
      simp only [runSeq]
      unfold stepG
      rw [actG_some ho hg G.hj hp, hc.look, hd]
      exact h1
  intro is e h G hc
  obtain ⟨e', h1, h2, h3⟩ := key is e e [] h G hc (.refl e) (by simp)
  exact ⟨e', h1, h2.sub (by simp), fun s hs => h3 s (by simp [hs])⟩
end
end Go.Av

/- A region as operations one after another. No condition. -/
namespace Go.Av
variable [Dr]
section
variable {cx : Cx} {ops : Array Oper} {base : Nat}
structure Rel (ops : Array Oper) (L : List Nat) (e2 e : Env) : Prop where
  get : ∀ t, e2.get t = e.get t ∨ (e2.get t = Ent.none ∧ t < 1000 ∧ ∀ i ∈ L, t ∉ readsOf ops i)
  al : ∀ g, aliveG e2.al g = aliveG e.al g
  lb : ∀ B, lbSize e2.lb B = lbSize e.lb B
  lf : ∀ B, locFree e2.sl B = true → locFree e.sl B = true
omit [Dr] in
theorem Rel.refl (ops : Array Oper) (L : List Nat) (e : Env) : Rel ops L e e := ⟨fun _ => .inl rfl, fun _ => rfl, fun _ => rfl, fun _ h => h⟩
omit [Dr] in
theorem Rel.sub {L L' : List Nat} {e2 e : Env} (H : Rel ops L e2 e) (h : ∀ i ∈ L', i ∈ L) : Rel ops L' e2 e :=
  ⟨fun t => (H.get t).imp id fun ⟨h1, h2, h3⟩ => ⟨h1, h2, fun i hi => h3 i (h i hi)⟩, H.al, H.lb, H.lf⟩
omit [Dr] in
theorem Rel.read {L : List Nat} {e2 e : Env} (H : Rel ops L e2 e) {i t : Nat} (hi : i ∈ L) (ht : t ∈ readsOf ops i) : e.get t = e2.get t := by
  rcases H.get t with h | ⟨_, _, h⟩
  · exact h.symm
  · exact absurd ht (h i hi)
omit [Dr] in
theorem Rel.agree {L : List Nat} {e2 e : Env} (H : Rel ops L e2 e) {i : Nat} {o : Oper} (hi : i ∈ L) (ho : ops[i]? = some o) : Agree cx o e2 e := by
  refine ⟨fun t ht => H.read hi (by rw [readsOf_eq ho]; simp [ht]), fun _ => ⟨fun t ht => ?_, fun B => (H.lb B).symm⟩, fun _ g => (H.al g).symm, fun _ s _ hl => H.lf _ hl⟩
  rcases H.get t with h | ⟨_, h, _⟩
  · exact h.symm
  · omega
omit [Dr] in
theorem Rel.upd {L : List Nat} {e2 e : Env} (H : Rel ops L e2 e) (d : Option Tmp) (u : Upd) : Rel ops L (e2.upd d u) (e.upd d u) := by
  refine ⟨fun t => ?_, fun g => ?_, fun B => ?_, fun B hB => ?_⟩
  · rw [get_upd, get_upd]
    split
    · exact .inl rfl
    · rw [lookE_app, lookE_app]
      split
      · exact .inl rfl
      · exact H.get t
  · show aliveG (u.add ++ dropO e2.al u.drop) g = aliveG (u.add ++ dropO e.al u.drop) g
    have : aliveG (dropO e2.al u.drop) g = aliveG (dropO e.al u.drop) g := by
      cases u.drop with
      | none => exact H.al g
      | some k => simp only [dropO, aliveG_drop, H.al g]
    rw [aliveG_app, aliveG_app, this]
  · show lbSize (addO (dropLb e2.lb u.unlb) u.lb) B = lbSize (addO (dropLb e.lb u.unlb) u.lb) B
    have : lbSize (dropLb e2.lb u.unlb) B = lbSize (dropLb e.lb u.unlb) B := by
      cases u.unlb with
      | none => exact H.lb B
      | some k => simp only [dropLb, lbSize_dropB, H.lb B]
    cases u.lb with
    | none => exact this
    | some x =>
      obtain ⟨k, n⟩ := x
      simp only [addO, lbSize_cons, this]
  · have hB' : locFree (slD d u.ent (u.ls ++ e2.sl)) B = true := hB
    show locFree (slD d u.ent (u.ls ++ e.sl)) B = true
    rw [locFree_slD, locFree_app] at hB' ⊢
    simp only [Bool.and_eq_true] at hB' ⊢
    exact ⟨hB'.1, hB'.2.1, H.lf B hB'.2.2⟩
omit [Dr] in
theorem Rel.run : ∀ (is : List Nat) {L : List Nat} {e2 e : Env} (_ : Rel ops L e2 e) (_ : ∀ i ∈ is, i ∈ L) (h : Hp), runSeq cx base ops is e2 h ≠ .fail →
    (∃ e2' e' h', runSeq cx base ops is e2 h = .ok e2' h' ∧ runSeq cx base ops is e h = .ok e' h' ∧ Rel ops L e2' e') ∨ ∃ v h', runSeq cx base ops is e2 h = .pan v h' ∧ runSeq cx base ops is e h = .pan v h'
  | [], L, e2, e, H, _, h, _ => .inl ⟨e2, e, h, rfl, rfl, H⟩
  | i :: is, L, e2, e, H, hL, h, hr => by
    simp only [runSeq] at hr ⊢
    unfold stepG at hr ⊢
    simp only [bnd, M.pure] at hr ⊢
    cases hx : actG cx base ops i e2 h with
    | fail => rw [hx] at hr; exact absurd rfl hr
    | _ =>
      have ho : ∃ o, ops[i]? = some o := by
        cases ho : ops[i]? with
        | none => unfold actG at hx; rw [ho] at hx; cases hx
        | some o => exact ⟨o, rfl⟩
      obtain ⟨o, ho⟩ := ho
      have hi := hL i (by simp)
      have hy : actG cx base ops i e h = actG cx base ops i e2 h := actG_agree ho (fun t ht => H.read hi (by rw [readsOf_eq ho]; simp [ht])) (H.agree hi ho) (by rw [hx]; simp)
      rw [hy, hx]
      first
        | rw [hx] at hr
          exact Rel.run is (H.upd _ _) (fun k hk => hL k (by simp [hk])) _ hr
        | exact .inr ⟨_, _, rfl, rfl⟩
omit [Dr] in
theorem forget_get (e : Env) : ∀ (ds : List Nat) (t : Nat), (forget e ds).get t = if t ∈ ds then Ent.none else e.get t
  | [], t => by simp [forget]
  | d :: ds, t => by
    show lookE ((d, Ent.none) :: (forget e ds).sl) t = _
    rw [lookE_cons]
    by_cases hd : d = t
    · subst hd; simp
    · rw [if_neg hd]
      have := forget_get e ds t
      simp only [Env.get] at this
      rw [this]
      have hd' : ¬ t = d := fun h => hd h.symm
      simp [hd', Env.get]
omit [Dr] in
theorem forget_rest (e : Env) : ∀ (ds : List Nat), (forget e ds).al = e.al ∧ (forget e ds).lb = e.lb ∧ ∀ B, locFree (forget e ds).sl B = locFree e.sl B
  | [] => ⟨rfl, rfl, fun _ => rfl⟩
  | _d :: ds => forget_rest e ds
omit [Dr] in
theorem setOuts_get (e : Env) (f : Nat → AV) : ∀ (outs : List Nat) (pre : List AV) (t : Nat), (setOuts e (pre ++ outs.map f) pre.length outs).get t = if t ∈ outs then ⟨.val (f t), none⟩ else e.get t
  | [], pre, t => by simp [setOuts]
  | d :: ds, pre, t => by
    show lookE ((d, ⟨.val (nth (pre ++ (d :: ds).map f) pre.length), none⟩) :: (setOuts e (pre ++ (d :: ds).map f) (pre.length + 1) ds).sl) t = _
    rw [lookE_cons]
    have hn : nth (pre ++ (d :: ds).map f) pre.length = f d := by simp [nth]
    by_cases hd : d = t
    · subst hd; rw [hn]; simp
    · rw [if_neg hd]
      have := setOuts_get e f ds (pre ++ [f d]) t
      simp only [List.append_assoc, List.length_append, List.length_cons, List.length_nil, List.singleton_append] at this
      simp only [Env.get, List.map_cons] at this ⊢
      rw [this]
      have hd' : ¬ t = d := fun h => hd h.symm
      simp [hd']
omit [Dr] in
theorem setOuts_rest (e : Env) (vs : List AV) : ∀ (outs : List Nat) (i : Nat), (setOuts e vs i outs).al = e.al ∧ (setOuts e vs i outs).lb = e.lb ∧ ∀ B, locFree (setOuts e vs i outs).sl B = locFree e.sl B
  | [], _i => ⟨rfl, rfl, fun _ => rfl⟩
  | _d :: ds, i => setOuts_rest e vs ds (i + 1)
omit [Dr] in
theorem usedIn_iff (gs : List (Option (Nat × Bool) × List Nat)) (t : Nat) : usedIn ops gs t = true ↔ ∃ i ∈ flatG gs, t ∈ readsOf ops i := by
  unfold usedIn flatG
  simp only [List.any_eq_true, List.mem_flatMap, memN_iff]
  constructor
  · rintro ⟨g, hg, i, hi, ht⟩; exact ⟨i, ⟨g, hg, hi⟩, ht⟩
  · rintro ⟨i, ⟨g, hg, hi⟩, ht⟩; exact ⟨g, hg, i, hi, ht⟩
omit [Dr] in
theorem Rel.close {is : List Nat} {gs : List (Option (Nat × Bool) × List Nat)} {e2 e e' : Env} (H : Rel ops (is ++ flatG gs) e2 e) (hS : Small ops) (T : Turned (dstsOf ops is) e e') {vs : List AV} {f : Nat → AV}
    (hvs : vs = (outsOf ops is gs).map f) (hf : ∀ t ∈ outsOf ops is gs, e'.get t = ⟨.val (f t), none⟩ ∨ (f t = .any ∧ t < 1000 ∧ ∀ i ∈ flatG gs, t ∉ readsOf ops i)) : Rel ops (flatG gs) (setOuts (forget e2 (dstsOf ops is)) vs 0 (outsOf ops is gs)) e' := by
  have hr := setOuts_rest (forget e2 (dstsOf ops is)) vs (outsOf ops is gs) 0
  have hr2 := forget_rest e2 (dstsOf ops is)
  refine ⟨fun t => ?_, fun g => ?_, fun B => ?_, fun B hB => ?_⟩
  · have hg := setOuts_get (forget e2 (dstsOf ops is)) f (outsOf ops is gs) [] t
    simp only [List.nil_append, List.length_nil] at hg
    rw [hvs, hg]
    split
    · rename_i ht
      rcases hf t ht with h | ⟨h1, h2, h3⟩
      · exact .inl h.symm
      · exact .inr ⟨by rw [h1]; rfl, h2, h3⟩
    · rename_i ht
      rw [forget_get]
      split
      · rename_i hd
        refine .inr ⟨rfl, ?_, fun i hi hti => ht ?_⟩
        · unfold dstsOf at hd
          simp only [List.mem_filterMap] at hd
          obtain ⟨i, hi, hd⟩ := hd
          unfold dstOf at hd
          cases hoi : ops[i]? with
          | none => rw [hoi] at hd; simp at hd
          | some o => rw [hoi] at hd; exact hS.dst i o hoi t hd
        · unfold outsOf
          rw [List.mem_filter]
          exact ⟨hd, (usedIn_iff gs t).2 ⟨i, hi, hti⟩⟩
      · rename_i hd
        rw [T.get t hd]
        rcases H.get t with h | ⟨h1, h2, h3⟩
        · exact .inl h
        · exact .inr ⟨h1, h2, fun i hi => h3 i (by simp [hi])⟩
  · rw [hr.1, hr2.1, T.al]; exact H.al g
  · rw [hr.2.1, hr2.2.1, T.lb]; exact H.lb B
  · rw [hr.2.2, hr2.2.2] at hB
    exact T.lf B (H.lf B hB)
omit [Dr] in
theorem runSeq_app (l m : List Nat) : ∀ e : Env, runSeq cx base ops (l ++ m) e = bnd (runSeq cx base ops l e) (runSeq cx base ops m) := by
  induction l with
  | nil => intro e; rfl
  | cons i l ih =>
    intro e
    show bnd (stepG cx base ops i e) (runSeq cx base ops (l ++ m)) = bnd (bnd (stepG cx base ops i e) (runSeq cx base ops l)) (runSeq cx base ops m)
    rw [bnd_bnd]
    congr 1
    funext e'
    exact ih e'
omit [Dr] in
theorem ent_val {x : Ent} (h1 : isValE x = true) (h2 : x.g = none) : x = ⟨.val x.av, none⟩ := by
  obtain ⟨v, g⟩ := x
  cases v with
  | val a => simp only at h2; subst h2; rfl
  | loc B off => cases h1
omit [Dr] in
theorem grps_seq {ρ : Type} (hS : Small ops) : ∀ (gs : List (Option (Nat × Bool) × List Nat)) (e2 e : Env) (k : Env → M ρ) (h : Hp), (∀ g ∈ gs, ∀ i ∈ g.2, guardOf ops i = g.1) → Rel ops (flatG gs) e2 e → evGrps cx base ops gs e2 k h ≠ .fail →
    (∃ e2' e' h', evGrps cx base ops gs e2 k h = k e2' h' ∧ runSeq cx base ops (flatG gs) e h = .ok e' h' ∧ Rel ops [] e2' e') ∨ ∃ v h', evGrps cx base ops gs e2 k h = .pan v h' ∧ runSeq cx base ops (flatG gs) e h = .pan v h'
  | [], e2, e, k, h, _, H, _ => .inl ⟨e2, e, h, rfl, rfl, H⟩
  | (none, is) :: gs, e2, e, k, h, hg, H, hr => by
    have hg0 : ∀ i ∈ is, guardOf ops i = none := hg (none, is) (by simp)
    have hfl : flatG ((none, is) :: gs) = is ++ flatG gs := rfl
    rw [hfl] at H ⊢
    rw [runSeq_app]
    simp only [evGrps] at hr ⊢
    rw [run_none is e2 _ hg0] at hr ⊢
    simp only [bnd] at hr ⊢
    have hr2 : runSeq cx base ops is e2 h ≠ .fail := fun hf => by rw [hf] at hr; exact hr rfl
    rcases H.run (base := base) (cx := cx) is (fun i hi => by simp [hi]) h hr2 with ⟨e2', e', h', h1, h2, H'⟩ | ⟨v, h', h1, h2⟩
    · rw [h1] at hr ⊢
      rw [h2]
      exact grps_seq hS gs e2' e' k h' (fun g hgg => hg g (by simp [hgg])) (H'.sub fun i hi => by simp [hi]) hr
    · rw [h1, h2]
      exact .inr ⟨v, h', rfl, rfl⟩
  | (some (j, want), is) :: gs, e2, e, k, h, hg, H, hr => by
    have hg0 : ∀ i ∈ is, guardOf ops i = some (j, want) := hg (some (j, want), is) (by simp)
    have hfl : flatG ((some (j, want), is) :: gs) = is ++ flatG gs := rfl
    rw [hfl] at H ⊢
    rw [runSeq_app]
    simp only [evGrps] at hr ⊢
    cases hdj : dstOf ops j with
    | none => rw [hdj] at hr; exact absurd rfl hr
    | some t =>
      rw [hdj] at hr
      simp only at hr ⊢
      revert hr
      cases hc : ((is.all fun i => match ops[i]? with | some o => plainOp cx o && o.dst.isSome | none => false) && !(memN (dstsOf ops is) t)) with
      | false => intro hr; exact absurd rfl hr
      | true =>
        intro hr
        simp only [cond_true] at hr ⊢
        simp only [Bool.and_eq_true, Bool.not_eq_true', List.all_eq_true] at hc
        have G : GroupOk cx ops j want t is := by
          refine ⟨hdj, fun i hi => ?_, fun ht => ?_⟩
          · have := hc.1 i hi
            cases hoi : ops[i]? with
            | none => rw [hoi] at this; cases this
            | some o =>
              rw [hoi] at this
              simp only [Bool.and_eq_true] at this
              exact ⟨o, rfl, hg0 i hi, this.1⟩
          · rw [(memN_iff _ _).2 ht] at hc
            exact Bool.noConfusion hc.2
        have htr : ∀ i ∈ is, t ∈ readsOf ops i := fun i hi => by
          obtain ⟨o, ho, hgi, _⟩ := G.each i hi
          rw [readsOf_eq ho]
          have : o.guard = some (j, want) := by simpa [guardOf, ho] using hgi
          have : t ∈ guardTmps ops o := by
            unfold guardTmps
            rw [this]
            simp only
            rw [show (ops[j]?).bind (·.dst) = some t from hdj]
            simp
          simp [this]
        -- the guard says yes
        cases is with
        | nil =>
          have hrn : ∀ e, runSeq cx base ops [] e = M.pure e := fun _ => rfl
          rw [hrn, bnd_pure]
          have ho : outsOf ops [] gs = [] := rfl
          have hd : dstsOf ops [] = [] := rfl
          rw [ho, hd] at hr ⊢
          have hpure : ∀ {q : AV} {m : M (List AV)}, m h = .ok [] h → guardM q want ([] : List Nat).length m h ≠ .fail → guardM q want ([] : List Nat).length m h = .ok [] h := by
            intro q m hm hne
            cases q with
            | bool b =>
              simp only [guardM]
              cases b == want with
              | true => exact hm
              | false => rfl
            | tup vs =>
              cases vs with
              | nil => rfl
              | cons v vs => exact absurd rfl hne
            | _ => exact absurd rfl hne
          simp only [bnd] at hr ⊢
          have hp := hpure (q := e2.av t) (m := evRun cx base ops true [] e2 fun e' => bif ([] : List Nat).all (fun t => isValE (e'.get t)) then M.pure (([] : List Nat).map e'.av) else M.fail) rfl (fun hf => by rw [hf] at hr; exact hr rfl)
          rw [hp] at hr ⊢
          exact grps_seq hS gs e2 e k h (fun g hgg => hg g (by simp [hgg])) (H.sub fun i hi => by simp [hi]) hr
        | cons i0 is0 =>
        have hav : e.av t = e2.av t := by
          have := H.read (i := i0) (by simp) (htr i0 (by simp))
          simp only [Env.av, this]
        generalize hiseq : i0 :: is0 = is at *
        have hoff : Off (e2.av t) want → (guardM (e2.av t) want (outsOf ops is gs).length (evRun cx base ops true is e2 fun e' => bif (outsOf ops is gs).all (fun t => isValE (e'.get t)) then M.pure ((outsOf ops is gs).map e'.av) else M.fail)) = M.pure (List.replicate (outsOf ops is gs).length (.tup [])) := by
          rintro (hq | ⟨b, hq, hb⟩)
          · rw [hq]; rfl
          · rw [hq]; simp only [guardM, hb, cond_false]
        have hcase : Off (e2.av t) want ∨ e2.av t = .bool want := by
          cases hq : e2.av t with
          | bool b =>
            cases hb : (b == want) with
            | true => right; simp at hb; rw [hb]
            | false => exact .inl (.inr ⟨b, rfl, hb⟩)
          | tup vs =>
            cases vs with
            | nil => exact .inl (.inl rfl)
            | cons v vs => rw [hq] at hr; exact absurd rfl hr
          | _ => rw [hq] at hr; exact absurd rfl hr
        rcases hcase with ho | hy
        · rw [hoff ho, bnd_pure] at hr ⊢
          obtain ⟨e', h1, T, h2⟩ := off_run (base := base) is e h G (by rw [hav]; exact ho)
          simp only [bnd]
          rw [h1]
          refine grps_seq hS gs _ e' k h (fun g hgg => hg g (by simp [hgg])) (H.close hS T (f := fun _ => .tup []) ?_ fun s hs => .inl ?_) hr
          · exact (List.map_const' ..).symm
          · refine h2 s ?_
            unfold outsOf at hs
            exact (List.mem_filter.1 hs).1
        · rw [hy] at hr ⊢
          simp only [guardM, beq_self_eq_true, cond_true, bnd] at hr ⊢
          rw [run_taken is e2 _ h G hy] at hr ⊢
          simp only [bnd] at hr ⊢
          have hr2 : runSeq cx base ops is e2 h ≠ .fail := fun hf => by rw [hf] at hr; exact hr rfl
          rcases H.run (base := base) (cx := cx) is (fun i hi => by simp [hi]) h hr2 with ⟨e2', e', h', h1, h2, H'⟩ | ⟨v, h', h1, h2⟩
          · rw [h1] at hr ⊢
            rw [h2]
            simp only at hr ⊢
            have T2 := taken_turned is e2 e2' h h' G hy h1
            have T := taken_turned is e e' h h' G (by rw [hav]; exact hy) h2
            cases hv : (outsOf ops is gs).all (fun t => isValE (e2'.get t)) with
            | false => rw [hv] at hr; exact absurd rfl hr
            | true =>
              rw [hv] at hr
              simp only [cond_true, M.pure] at hr ⊢
              refine grps_seq hS gs _ e' k h' (fun g hgg => hg g (by simp [hgg])) (H.close hS T (f := e2'.av) rfl fun s hs => ?_) hr
              have hsd : s ∈ dstsOf ops is := by unfold outsOf at hs; exact (List.mem_filter.1 hs).1
              have hval := ent_val (List.all_eq_true.1 hv s hs) (T2.ng s hsd)
              rcases H'.get s with h3 | ⟨h3, h4, h5⟩
              · left; rw [← h3]; exact hval
              · right; exact ⟨by simp only [Env.av, h3]; rfl, h4, fun i hi => h5 i (by simp [hi])⟩
          · rw [h1, h2]
            exact .inr ⟨v, h', rfl, rfl⟩
end
end Go.Av

/- A region. Conditions: the table of types is the program's; the calls are right; isolated calls see nothing of the heap. -/
namespace Go.Av
variable [Dr]
omit [Dr] in
theorem maskOf_bit (acc : List Nat) : ∀ (es : List Edge) (x : Nat), (maskOf acc es).testBit x = true ↔ ∃ e ∈ es, Region.binds .any e = true ∧ (e.on = x ∨ (acc.getD e.on 0).testBit x = true)
  | [], x => by simp [maskOf]
  | e :: es, x => by
    simp only [maskOf]
    cases hb : Region.binds .any e with
    | false =>
      simp only [cond_false, maskOf_bit acc es x, List.mem_cons]
      constructor
      · rintro ⟨e', he, h⟩; exact ⟨e', .inr he, h⟩
      · rintro ⟨e', rfl | he, h⟩
        · rw [hb] at h; exact absurd h.1 (by simp)
        · exact ⟨e', he, h⟩
    | true =>
      simp only [cond_true, Nat.testBit_or, Bool.or_eq_true, maskOf_bit acc es x, List.mem_cons, Nat.testBit_two_pow, decide_eq_true_eq]
      constructor
      · rintro ((⟨e', he, h⟩ | h) | h)
        · exact ⟨e', .inr he, h⟩
        · exact ⟨e, .inl rfl, hb, .inl h⟩
        · exact ⟨e, .inl rfl, hb, .inr h⟩
      · rintro ⟨e', rfl | he, h1, h2⟩
        · rcases h2 with h2 | h2
          · exact .inl (.inr h2)
          · exact .inr h2
        · exact .inl (.inl ⟨e', he, h1, h2⟩)
omit [Dr] in
theorem befs_spec : ∀ (os : List Oper) (acc : List Nat), ∃ r : List Nat, befs os acc = acc ++ r ∧ r.length = os.length ∧ ∀ (k : Nat) (o : Oper), os[k]? = some o → r[k]? = some (maskOf (acc ++ r.take k) o.after.toList)
  | [], acc => ⟨[], by simp [befs], rfl, by simp⟩
  | o :: os, acc => by
    obtain ⟨r, h1, h2, h3⟩ := befs_spec os (acc ++ [maskOf acc o.after.toList])
    refine ⟨maskOf acc o.after.toList :: r, by simp [befs, h1], by simp [h2], fun k o' ho => ?_⟩
    cases k with
    | zero => simp at ho; subst ho; simp
    | succ k =>
      simp only [List.getElem?_cons_succ, List.take_succ_cons] at ho ⊢
      rw [h3 k o' ho]
      simp
section
variable {ops : Array Oper}
def bfOf (ops : Array Oper) : List Nat := befs ops.toList []
omit [Dr] in
theorem bf_get {j : Nat} {o : Oper} (ho : ops[j]? = some o) : (bfOf ops).length = ops.size ∧ (bfOf ops).getD j 0 = maskOf ((bfOf ops).take j) o.after.toList := by
  obtain ⟨r, h1, h2, h3⟩ := befs_spec ops.toList []
  have h4 : bfOf ops = r := by unfold bfOf; rw [h1]; simp
  rw [h4]
  refine ⟨by simp [h2], ?_⟩
  have := h3 j o (by simpa using ho)
  rw [List.getD_eq_getElem?_getD, this]
  simp
omit [Dr] in
theorem bf_closed {listed : Nat → Prop} (hcl : ∀ (j : Nat) (o : Oper), ops[j]? = some o → listed j → ∀ e ∈ o.after.toList, Region.binds .any e = true → listed e.on) :
    ∀ (j : Nat) (o : Oper), ops[j]? = some o → (∀ e ∈ o.after.toList, Region.binds .any e = true → listed e.on) → ∀ x, ((bfOf ops).getD j 0).testBit x = true → listed x := by
  intro j
  induction j using Nat.strongRecOn with
  | _ j ih =>
    intro o ho hl x hx
    obtain ⟨hlen, hget⟩ := bf_get ho
    rw [hget, maskOf_bit] at hx
    obtain ⟨e, he, hb, hx | hx⟩ := hx
    · rw [← hx]; exact hl e he hb
    · by_cases hj : e.on < j
      · have hjs : j < ops.size := (Array.getElem?_eq_some_iff.1 ho).1
        have hos : ops[e.on]? = some ops[e.on] := Array.getElem?_eq_getElem (by omega)
        have h1 : ((bfOf ops).take j).getD e.on 0 = (bfOf ops).getD e.on 0 := by
          rw [List.getD_eq_getElem?_getD, List.getD_eq_getElem?_getD, List.getElem?_take, if_pos hj]
        rw [h1] at hx
        exact ih e.on hj _ hos (hcl e.on _ hos (hl e he hb)) x hx
      · rw [List.getD_eq_getElem?_getD, List.getElem?_take, if_neg hj] at hx
        simp at hx
def PairR (cx : Cx) (ops : Array Oper) (i j : Nat) : Prop := ((bfOf ops).getD i 0).testBit j = false ∧ (((bfOf ops).getD j 0).testBit i = true ∨ indep cx ops i j = true)
omit [Dr] in
theorem pairsOk_inv {cx : Cx} : ∀ {l : List Nat}, pairsOk cx ops (bfOf ops) l = true → l.Pairwise (PairR cx ops) ∧ ∀ i ∈ l, ((bfOf ops).getD i 0).testBit i = false
  | [], _ => ⟨.nil, by simp⟩
  | i :: l, h => by
    simp only [pairsOk, Bool.and_eq_true, Bool.not_eq_true', List.all_eq_true, Bool.or_eq_true] at h
    obtain ⟨⟨h1, h2⟩, h3⟩ := h
    obtain ⟨h4, h5⟩ := pairsOk_inv h3
    refine ⟨.cons (fun j hj => h2 j hj) h4, fun k hk => ?_⟩
    simp only [List.mem_cons] at hk
    rcases hk with rfl | hk
    · exact h1
    · exact h5 k hk
omit [Dr] in
theorem distinct_nodup : ∀ {l : List Nat}, distinct l = true → l.Nodup
  | [], _ => .nil
  | i :: l, h => by
    simp only [distinct, Bool.and_eq_true, Bool.not_eq_true'] at h
    refine List.nodup_cons.2 ⟨fun hi => ?_, distinct_nodup h.2⟩
    rw [(memN_iff _ _).2 hi] at h
    exact Bool.noConfusion h.1
variable {P : Program} {cx : Cx} {c : Entry} {N base : Nat}
theorem draw_any (hT : TOK P cx.T) (hC : CallsOK P cx.own cx.call) (hI : IsoPure cx) (hO : OpsOk N cx ops) (hS : Small ops) (hbit : ∀ i x, ((bfOf ops).getD i 0).testBit x = true → x < ops.size) (hself : ∀ i, i < ops.size → ((bfOf ops).getD i 0).testBit i = false)
    {Q : Exit → Act → World → Prop} : ∀ (n : Nat) (rest : List Nat) (listed : Array Bool) (D : List Nat) (e : Env) (h : Hp) (a : Act) (w : World), rest.length = n → listed.size = ops.size → rest.Nodup →
    (∀ i, i ∈ rest ↔ i < ops.size ∧ listed.getD i true = false) → (∀ i ∈ rest, i ∉ D) → (∀ i ∈ D, i < ops.size) →
    (∀ (j : Nat) (o : Oper), ops[j]? = some o → listed.getD j false = true → ∀ e ∈ o.after.toList, Region.binds .any e = true → listed.getD e.on false = true) → rest.Pairwise (PairR cx ops) →
    Sat c N (UD base D) e h a w → runSeq cx base ops rest e h ≠ .fail →
    (∀ e0 e' h' a' w', runSeq cx base ops rest e h = .ok e0 h' → EqE e0 e' → Sat c N (UR base ops.size) e' h' a' w' → a'.defers = a.defers → Q .normal a' w') →
    (∀ pv h' v w' a', runSeq cx base ops rest e h = .pan pv h' → PanSat c pv h' v w' → a'.defers = a.defers → Q (.panic [{ v, recovered := false }]) a' w') → wpAny P .any ops Q n listed a w
  | 0, rest, listed, D, e, h, a, w, hlen, hsz, hnd, hmem, hdis, hD, hcl, hpw, H, hr, hn, hp => by
    have : rest = [] := List.eq_nil_of_length_eq_zero hlen
    subst this
    refine ⟨?_, hn e e h a w rfl (.refl e) (H.wider (UD_UR hD)) rfl⟩
    refine List.eq_nil_iff_forall_not_mem.2 fun i hi => ?_
    obtain ⟨h0, o, ho, _⟩ := mem_ready.1 hi
    have := (hmem i).2 ⟨(Array.getElem?_eq_some_iff.1 ho).1, h0⟩
    simp at this
  | n + 1, rest, listed, D, e, h, a, w, hlen, hsz, hnd, hmem, hdis, hD, hcl, hpw, H, hr, hn, hp => by
    have hgd : ∀ i, i < ops.size → listed.getD i true = listed.getD i false := fun i hi => by
      rw [Array.getD_eq_getD_getElem?, Array.getD_eq_getD_getElem?, Array.getElem?_eq_getElem (by omega)]
      rfl
    refine ⟨fun hemp => ?_, fun i hi => ?_⟩
    · exfalso
      cases rest with
      | nil => simp at hlen
      | cons r0 tl =>
        have hr0 := (hmem r0).1 (by simp)
        have hor : ops[r0]? = some ops[r0] := Array.getElem?_eq_getElem hr0.1
        have : r0 ∈ Region.ready .any ops listed := by
          refine mem_ready.2 ⟨hr0.2, _, hor, fun ed hed hb => ?_⟩
          have hbt : ((bfOf ops).getD r0 0).testBit ed.on = true := by
            rw [(bf_get hor).2, maskOf_bit]
            exact ⟨ed, by simpa using hed, hb, .inl rfl⟩
          have hlt := hbit r0 ed.on hbt
          cases hl : listed.getD ed.on false with
          | true => rfl
          | false =>
            have hin := (hmem ed.on).2 ⟨hlt, by rw [hgd _ hlt]; exact hl⟩
            simp only [List.mem_cons] at hin
            rcases hin with hin | hin
            · rw [hin] at hbt
              rw [hself r0 hr0.1] at hbt
              cases hbt
            · have := (List.pairwise_cons.1 hpw).1 ed.on hin
              rw [this.1] at hbt
              cases hbt
        rw [hemp] at this
        simp at this
    · obtain ⟨h0, o, ho, hall⟩ := mem_ready.1 hi
      have hlt : i < ops.size := (Array.getElem?_eq_some_iff.1 ho).1
      have hin := (hmem i).2 ⟨hlt, h0⟩
      obtain ⟨p, q, rfl⟩ := List.append_of_mem hin
      have hnd' := hnd
      rw [List.nodup_append] at hnd'
      have hni : i ∉ p ++ q := by
        intro hm
        rw [List.mem_append] at hm
        rcases hm with hm | hm
        · exact hnd'.2.2 i hm i (by simp) rfl
        · exact (List.nodup_cons.1 hnd'.2.1).1 hm
      have hclo := bf_closed (ops := ops) (listed := fun j => listed.getD j false = true) (fun j o ho hj ed hed hb => hcl j o ho hj ed hed hb) i o ho (fun ed hed hb => hall ed (by simpa using hed) hb)
      have hfront : ∀ x ∈ p, indep cx ops x i = true ∧ x ≠ i := by
        intro x hx
        have hpr := (List.pairwise_append.1 hpw).2.2 x hx i (by simp)
        refine ⟨?_, fun hxi => hni (by rw [← hxi]; simp [hx])⟩
        rcases hpr.2 with h1 | h1
        · have hxl := hclo x h1
          have hxr := (hmem x).1 (by simp [hx])
          rw [hgd x hxr.1] at hxr
          rw [hxr.2] at hxl
          cases hxl
        · exact h1
      have hRE := front (base := base) hI hS q p hfront e h
      have hr' : runSeq cx base ops (i :: (p ++ q)) e h ≠ .fail := by
        intro hf
        rw [hf] at hRE
        cases hx : runSeq cx base ops (p ++ i :: q) e h with
        | fail => exact hr hx
        | ok e0 h0 => rw [hx] at hRE; obtain ⟨_, h1, _⟩ := hRE; cases h1
        | pan v h0 => rw [hx] at hRE; cases hRE
      simp only [runSeq, bnd] at hr'
      have hstep : ∀ {r : R Env}, runSeq cx base ops (i :: (p ++ q)) e h = r → runSeq cx base ops (i :: (p ++ q)) e h = r := fun h => h
      simp only [runSeq, bnd] at hRE
      refine step_sound hT hC hO (hdis i hin) H (fun hf => by rw [hf] at hr'; exact hr' rfl) (fun e1 h1 a1 w1 hst hs hdf => ?_) (fun pv h1 v w1 hst hps => ?_)
      · rw [hst] at hr' hRE
        simp only at hr' hRE
        refine draw_any hT hC hI hO hS hbit hself n (p ++ q) (listed.setIfInBounds i true) (i :: D) e1 h1 a1 w1 ?_ (by simp [hsz]) ?_ (fun k => ?_) (fun k hk => ?_) (fun k hk => ?_) (fun k o' ho' hk ed hed hb => ?_) ?_ hs hr' (fun e0 e' h' a' w' hok heq hsat hdf' => ?_) (fun pv h' v w' a' hok hps hdf' => ?_)
        · simp only [List.length_append, List.length_cons] at hlen ⊢; omega
        · exact hnd.sublist (List.Sublist.append (List.Sublist.refl p) (List.sublist_cons_self i q))
        · have hset : k ≠ i → (listed.setIfInBounds i true).getD k true = listed.getD k true := fun hk => by
            rw [Array.getD_eq_getD_getElem?, Array.getD_eq_getD_getElem?, Array.getElem?_setIfInBounds_ne (Ne.symm hk)]
          constructor
          · intro hk
            have hki : k ≠ i := fun h => hni (h ▸ hk)
            rw [hset hki]
            exact (hmem k).1 (by
              simp only [List.mem_append, List.mem_cons] at hk ⊢
              rcases hk with hk | hk
              · exact .inl hk
              · exact .inr (.inr hk))
          · rintro ⟨h1, h2⟩
            have hki : k ≠ i := by
              rintro rfl
              rw [Array.getD_eq_getD_getElem?, Array.getElem?_setIfInBounds_self] at h2
              rw [if_pos (by omega)] at h2
              simp at h2
            rw [hset hki] at h2
            have := (hmem k).2 ⟨h1, h2⟩
            simp only [List.mem_append, List.mem_cons] at this ⊢
            rcases this with h | h | h
            · exact .inl h
            · exact absurd h hki
            · exact .inr h
        · simp only [List.mem_cons, not_or]
          refine ⟨fun hki => hni (hki ▸ hk), hdis k ?_⟩
          simp only [List.mem_append, List.mem_cons] at hk ⊢
          rcases hk with hk | hk
          · exact .inl hk
          · exact .inr (.inr hk)
        · simp only [List.mem_cons] at hk
          rcases hk with rfl | hk
          · exact hlt
          · exact hD k hk
        · have hmono : ∀ x, listed.getD x false = true → (listed.setIfInBounds i true).getD x false = true := fun x hx => getD_set_true hx
          by_cases hki : k = i
          · subst hki
            rw [ho] at ho'
            cases ho'
            exact hmono _ (hall ed (by simpa using hed) hb)
          · refine hmono _ (hcl k o' ho' ?_ ed hed hb)
            rw [Array.getD_eq_getD_getElem?, Array.getElem?_setIfInBounds_ne (Ne.symm hki), ← Array.getD_eq_getD_getElem?] at hk
            exact hk
        · exact hpw.sublist (List.Sublist.append (List.Sublist.refl p) (List.sublist_cons_self i q))
        · rw [hok] at hRE
          cases hx : runSeq cx base ops (p ++ i :: q) e h with
          | fail => exact absurd hx hr
          | ok ex hx' =>
            rw [hx] at hRE
            obtain ⟨e0', h2, h3⟩ := hRE
            cases h2
            exact hn ex e' _ a' w' hx (h3.trans heq) hsat (hdf'.trans hdf)
          | pan v h0 => rw [hx] at hRE; cases hRE
        · rw [hok] at hRE
          cases hx : runSeq cx base ops (p ++ i :: q) e h with
          | fail => exact absurd hx hr
          | ok ex hx' => rw [hx] at hRE; obtain ⟨_, h1, _⟩ := hRE; cases h1
          | pan v0 h0 =>
            rw [hx] at hRE
            cases hRE
            exact hp _ _ v w' a' hx hps (hdf'.trans hdf)
      · rw [hst] at hRE
        cases hx : runSeq cx base ops (p ++ i :: q) e h with
        | fail => exact absurd hx hr
        | ok ex hx' => rw [hx] at hRE; obtain ⟨_, h1, _⟩ := hRE; cases h1
        | pan v0 h0 =>
          rw [hx] at hRE
          cases hRE
          exact hp _ _ v w1 a hx hps rfl
end
end Go.Av

/- A region. Conditions: the table of types is the program's; the calls are right; isolated calls see nothing of the heap. -/
namespace Go.Av
variable [Dr]
structure IsoCall (cx : Cx) : Prop where
  iso : ∀ f args, cx.iso f = true → ∃ x : Option (Bool × AV), ∀ h, cx.call f args h = (match x with | none => .fail | some (true, v) => .ok v h | some (false, v) => .pan v h)
  nw : ∀ f args, cx.nw f = true → NwM (cx.call f args)
omit [Dr] in
theorem IsoCall.draw {cx : Cx} (h : IsoCall cx) : IsoPure (cxDraw cx) := by
  refine ⟨?_, fun f args hf => ?_⟩
  case refine_2 =>
    have hn := h.nw f args hf
    show NwM (bif cx.iso f then noPan (cx.call f args) else cx.call f args)
    cases cx.iso f with
    | false => exact hn
    | true =>
      intro hp v h' hh
      simp only [cond_true, noPan] at hh
      cases hq : cx.call f args hp with
      | ok a b => rw [hq] at hh; cases hh; exact hn _ _ _ hq
      | pan a b => rw [hq] at hh; cases hh
      | fail => rw [hq] at hh; cases hh
  intro f args hf
  have hf' : cx.iso f = true := hf
  obtain ⟨x, hx⟩ := h.iso f args hf'
  refine ⟨match x with | some (true, v) => some v | _ => none, ?_⟩
  show (bif cx.iso f then noPan (cx.call f args) else cx.call f args) = _
  rw [hf']
  funext hp
  simp only [cond_true, noPan, hx]
  rcases x with _ | ⟨b, v⟩
  · rfl
  · cases b <;> rfl
theorem CallsOK.draw {P : Program} {cx : Cx} (h : CallsOK P cx.own cx.call) : CallsOK P (cxDraw cx).own (cxDraw cx).call := by
  intro f args hp S β w vs hr hg hw hh hv
  have hcall : (cxDraw cx).call f args hp = (bif cx.iso f then noPan (cx.call f args) hp else cx.call f args hp) := by
    show (bif cx.iso f then noPan (cx.call f args) else cx.call f args) hp = _
    cases cx.iso f <;> rfl
  rw [hcall] at hr ⊢
  have key : ∀ r, r = cx.call f args hp → r ≠ .fail → Calls P f vs.toArray w (CPost ((cxDraw cx).own f) S β hp w r) ∧ (P.funcs[f]?).any (fun fn => fn.body.isSome && !(fn.name == "runtime.NumGoroutine")) = true := by
    intro r hr1 hr2
    subst hr1
    exact h f args hp S β w vs hr2 hg hw hh hv
  cases hi : cx.iso f with
  | false => rw [hi] at hr; exact key _ rfl hr
  | true =>
    rw [hi] at hr
    simp only [cond_true, noPan] at hr ⊢
    cases hx : cx.call f args hp with
    | ok v hq => rw [hx] at hr; exact key _ hx.symm (by simp)
    | pan v hq => rw [hx] at hr; exact absurd rfl hr
    | fail => rw [hx] at hr; exact absurd rfl hr
def SatE (c : Entry) (N : Nat) (e : Env) (h : Hp) (a : Act) (w : World) : Prop := Sat c N (fun g => g < e.nx * 1000) e h a w
theorem Sat.rel {c : Entry} {N : Nat} {U : Nat → Prop} {e2 e : Env} {h : Hp} {a : Act} {w : World} {ops : Array Oper} (H : Sat c N U e h a w) (R : Rel ops [] e2 e) : Sat c N U e2 h a w := by
  obtain ⟨S, β, γ, lam, ω, F⟩ := H
  refine ⟨S, β, γ, lam, ω, F.weak (fun t => ?_) (fun t g hg => ?_) (fun g z hz => by rw [R.al] at hz; exact hz) (fun B n hB => by rw [R.lb] at hB; exact hB)⟩
  · rcases R.get t with h | ⟨h1, h2, _⟩
    · exact .inl (by rw [h])
    · exact .inr ⟨by rw [h1]; rfl, h2⟩
  · rcases R.get t with h | ⟨h1, _⟩
    · rw [h] at hg; exact hg
    · rw [h1] at hg; cases hg
theorem Sat.eqE {c : Entry} {N : Nat} {U : Nat → Prop} {e2 e : Env} {h : Hp} {a : Act} {w : World} (H : Sat c N U e h a w) (R : EqE e e2) : Sat c N U e2 h a w := by
  obtain ⟨S, β, γ, lam, ω, F⟩ := H
  exact ⟨S, β, γ, lam, ω, F.weak (fun t => .inl (by rw [R.get])) (fun t g hg => by rw [R.get] at hg; exact hg) (fun g z hz => by rw [R.al] at hz; exact hz) (fun B n hB => by rw [R.lb] at hB; exact hB)⟩
theorem Sat.nx {c : Entry} {N : Nat} {U : Nat → Prop} {e : Env} {h : Hp} {a : Act} {w : World} (n : Nat) (H : Sat c N U e h a w) : Sat c N U { e with nx := n } h a w := by
  obtain ⟨S, β, γ, lam, ω, F⟩ := H
  exact ⟨S, β, γ, lam, ω, F.weak (fun t => .inl rfl) (fun t g hg => hg) (fun g z hz => hz) (fun B n hB => hB)⟩
section
variable {P : Program} {cx : Cx} {c : Entry} {e : Env} {h : Hp} {a : Act} {w : World} {ops : Array Oper} {id : Nat}
omit [Dr] in
theorem dstsSmall_inv {n : Nat} (hn : n ≤ 1000) (hd : dstsSmall n ops = true) (hk : ∀ p, isS (findK cx.ann.kinds p .L) = true → p < n) : OpsOk n cx ops ∧ Small ops := by
  unfold dstsSmall at hd
  rw [Array.all_eq_true_iff_forall_mem] at hd
  have h1 : ∀ (i : Nat) (o : Oper), ops[i]? = some o → (∀ t, o.dst = some t → t < n) ∧ ∀ t ∈ opTmps o, t < 1000 := by
    intro i o ho
    have := hd o (Array.mem_of_getElem? ho)
    simp only [Bool.and_eq_true, List.all_eq_true, decide_eq_true_eq] at this
    refine ⟨fun t ht => ?_, this.2⟩
    have h2 := this.1
    rw [ht] at h2
    simpa using h2
  refine ⟨⟨fun i o ho => (h1 i o ho).1, fun i o ho x hx t hxt => (h1 i o ho).2 t ?_, hk⟩, ⟨fun i o ho t ht => Nat.lt_of_lt_of_le ((h1 i o ho).1 t ht) hn, fun i o ho => (h1 i o ho).2⟩⟩
  subst hxt
  exact List.mem_filterMap.2 ⟨_, hx, rfl⟩
theorem reg_sound {ρ : Type} (hT : TOK P cx.T) (hC : CallsOK P cx.own cx.call) (hI : IsoCall cx) (hk : ∀ p, isS (findK cx.ann.kinds p .L) = true → p < cx.nt) {draw : Bool} {k : Env → M ρ}
    (H : SatE c cx.nt e h a w) (hr : evReg cx id ops draw e k h ≠ .fail) {Q : Exit → Act → World → Prop}
    (hn : ∀ e' h' a' w', evReg cx id ops draw e k h = k e' h' → SatE c cx.nt e' h' a' w' → a'.defers = a.defers → Q .normal a' w')
    (hp : ∀ pv h' v w' a', evReg cx id ops draw e k h = .pan pv h' → PanSat c pv h' v w' → a'.defers = a.defers → Q (.panic [{ v, recovered := false }]) a' w') :
    (Code.region id ops draw).wp P Q a w := by
  have hN : cx.nt ≤ 1000 := by obtain ⟨S, β, γ, lam, ω, F⟩ := H; exact F.tsz.2
  have H0 : Sat c cx.nt (UD e.nx []) e h a w := H.wider fun g hg => .inl hg
  unfold evReg at hr hn hp
  cases hds : dstsSmall cx.nt ops with
  | false => rw [hds] at hr; exact absurd rfl hr
  | true =>
    obtain ⟨hO, hS⟩ := dstsSmall_inv (cx := cx) hN hds hk
    rw [hds] at hr hn hp
    simp only [cond_true] at hr hn hp
    cases draw with
    | false =>
      simp only [cond_false] at hr hn hp
      obtain ⟨hfl, hgs⟩ := groupsOf_spec ops (List.range ops.size)
      refine wp_region (seq_sound hT hC hO (List.range ops.size) [] e h a w List.nodup_range (by simp) H0 ?_ ?_ ?_)
      all_goals
        have hseq := grps_seq (cx := cx) (base := e.nx) hS (groupsOf ops (List.range ops.size)) e e _ h hgs (.refl ops _ e) hr
        rw [hfl] at hseq
      · rcases hseq with ⟨_, _, _, _, h2, _⟩ | ⟨_, _, _, h2⟩ <;> rw [h2] <;> simp
      · intro e' h' a' w' hok hsat hdf
        rcases hseq with ⟨e2', e'', h'', h1, h2, hR⟩ | ⟨_, _, _, h2⟩
        · rw [h2] at hok
          cases hok
          refine hn _ _ a' w' h1 (Sat.nx _ ((hsat.wider (UD_UR ?_)).rel hR)) hdf
          intro i hi
          simpa using hi
        · rw [h2] at hok; cases hok
      · intro pv h' v w' a' hok hps hdf
        rcases hseq with ⟨e2', e'', h'', h1, h2, hR⟩ | ⟨_, _, h1, h2⟩
        · rw [h2] at hok; cases hok
        · rw [h2] at hok
          cases hok
          exact hp _ _ v w' a' h1 hps hdf
    | true =>
      simp only [cond_true] at hr hn hp
      generalize ordOf cx id ops.size = ord at hr hn hp
      cases hdo : drawOk cx ops ord with
      | false => rw [hdo] at hr; exact absurd rfl hr
      | true =>
        rw [hdo] at hr hn hp
        simp only [cond_true] at hr hn hp
        simp only [drawOk, permOk, Bool.and_eq_true, List.all_eq_true, decide_eq_true_eq] at hdo
        obtain ⟨⟨⟨⟨⟨hlen, hmem⟩, hdist⟩, hlt⟩, hbits⟩, hpairs⟩ := hdo
        have hlen' : ord.length = ops.size := Nat.eq_of_beq_eq_true hlen
        obtain ⟨hpw, hself⟩ := pairsOk_inv (cx := cx) (ops := ops) hpairs
        have hpw' : ord.Pairwise (PairR (cxDraw cx) ops) := hpw
        have hO' : OpsOk cx.nt (cxDraw cx) ops := ⟨hO.dst, hO.src, hO.kin⟩
        obtain ⟨hfl, hgs⟩ := groupsOf_spec ops ord
        have hseq := grps_seq (cx := cxDraw cx) (base := e.nx) hS (groupsOf ops ord) e e _ h hgs (.refl ops _ e) hr
        rw [hfl] at hseq
        refine wp_region_draw fun t => ?_
        have hsch : Region.schedule (P.follows .mixedOrders) ops t = Region.linearise .any ops t := by
          simp only [Region.schedule, hT.mix, Bool.true_or, if_true]
        rw [hsch]
        have hmem' : ∀ i, i ∈ ord ↔ i < ops.size := fun i => ⟨fun hi => hlt i hi, fun hi => (memN_iff _ _).1 (hmem i (by simpa using hi))⟩
        refine wpAny_sound ops.size t _ a _ (draw_any (cx := cxDraw cx) (c := c) (N := cx.nt) (base := e.nx) hT hC.draw hI.draw hO' hS ?_ ?_ ops.size ord (Array.replicate ops.size false) [] e h a w.drew hlen' (by simp) (distinct_nodup hdist) ?_ (by simp) (by simp) ?_ hpw' ?_ ?_ ?_ ?_)
        · intro i x hx
          rcases Nat.lt_or_ge x ops.size with h' | h'
          · exact h'
          · have hm : (bfOf ops).getD i 0 < 2 ^ ops.size := by
              rw [List.getD_eq_getElem?_getD]
              cases hi : (bfOf ops)[i]? with
              | none => simp; exact Nat.pow_pos (by omega)
              | some m => exact hbits m (List.mem_of_getElem? hi)
            rw [Nat.testBit_lt_two_pow (Nat.lt_of_lt_of_le hm (Nat.pow_le_pow_right (by omega) h'))] at hx
            cases hx
        · exact fun i hi => hself i ((hmem' i).2 hi)
        · intro i
          rw [hmem']
          constructor
          · intro hi
            refine ⟨hi, ?_⟩
            rw [Array.getD_eq_getD_getElem?, Array.getElem?_replicate, if_pos hi]
            rfl
          · exact fun hi => hi.1
        · intro j o ho hj
          exfalso
          rw [Array.getD_eq_getD_getElem?, Array.getElem?_replicate] at hj
          split at hj <;> simp at hj
        · obtain ⟨S, β, γ, lam, ω, F⟩ := H0
          exact ⟨S, β, γ, lam, ω, F.drew⟩
        · rcases hseq with ⟨_, _, _, _, h2, _⟩ | ⟨_, _, _, h2⟩ <;> rw [h2] <;> simp
        · intro e0 e' h' a' w' hok heq hsat hdf
          rcases hseq with ⟨e2', e'', h'', h1, h2, hR⟩ | ⟨_, _, _, h2⟩
          · rw [h2] at hok
            cases hok
            exact hn _ _ a' w' h1 (Sat.nx _ ((hsat.eqE heq.symm).rel hR)) hdf
          · rw [h2] at hok; cases hok
        · intro pv h' v w' a' hok hps hdf
          rcases hseq with ⟨e2', e'', h'', h1, h2, hR⟩ | ⟨_, _, h1, h2⟩
          · rw [h2] at hok; cases hok
          · rw [h2] at hok
            cases hok
            exact hp _ _ v w' a' h1 hps hdf
end
end Go.Av
