/- The abstract evaluator of the model, part 6: its soundness holds for every program whose table of types is the evaluator's. No further condition. -/
import Derived.Test.YtllapohmppeceaaDoorLe
import Derived.Test.YtllapohmppeceaaDoorLa
import Derived.KernelRfl
import Derived.IntWalk

/- A piece of code. Conditions: the table of types is the program's; the calls are right; isolated calls see nothing of the heap. -/
namespace Go.Av
variable [Dr]

section
variable {P : Program} {Q : Exit → Act → World → Prop} {b : Code}

/-- A loop, from the beginning of a round on. -/
def LoopAt (P : Program) (c : Code) (Q : Exit → Act → World → Prop) (a : Act) (w : World) : Prop :=
  ∀ (b : Frame) (k : List Item) (cs : List Frame), ∃ e a' w', Q e a' w' ∧ Arrives P (lone (b.at a (.code c :: .inLoop c :: k)) cs w) b k cs e a' w'
omit [Dr] in
theorem LoopAt.loop {a : Act} {w : World} (h : LoopAt P b Q a w) : (Code.loop b).wp P Q a w :=
  fun f k cs => let ⟨e, a', w', q, r⟩ := h f k cs; ⟨e, a', w', q, .of_steps (.one step_loop) r⟩
omit [Dr] in
theorem LoopAt.round {a : Act} {w : World} (h : b.wp P (Exit.then (LoopAt P b Q) Q) a w) : LoopAt P b Q a w := by
  intro f k cs
  obtain ⟨e, a₁, w₁, hq, harr⟩ := h f (.inLoop b :: k) cs
  cases e with
  | normal =>
    obtain ⟨e₂, a₂, w₂, hq₂, harr₂⟩ := hq f k cs
    exact ⟨e₂, a₂, w₂, hq₂, .of_steps (Steps.trans harr (.one step_inLoop)) harr₂⟩
  | exit id => exact ⟨_, a₁, w₁, hq, .pass (x := .inLoop b) rfl (fun _ _ => .inl (by simp)) harr⟩
  | goto l => exact ⟨_, a₁, w₁, hq, .pass (x := .inLoop b) rfl (fun _ _ => .inl (by simp)) harr⟩
  | ret => exact ⟨_, a₁, w₁, hq, .pass (x := .inLoop b) rfl (fun _ _ => .inl (by simp)) harr⟩
  | panic ch => exact ⟨_, a₁, w₁, hq, .pass (x := .inLoop b) rfl (fun _ _ => .inl (by simp)) harr⟩
  | outgrown => exact ⟨_, a₁, w₁, hq, .pass (x := .inLoop b) rfl (fun _ _ => .inl (by simp)) harr⟩
end

section
variable {P : Program} {cx : Cx} {c : Entry} {ρ : Type}

omit [Dr] in
theorem ev_block {fx : Fix ρ} {id : Nat} {code : Code} {e : Env} {kn kr : Env → M ρ} {kx : Nat → Env → M ρ} (hc : ∀ b, code ≠ .loop b) :
    ev cx fx (.block id code) e kn kx kr = ev cx fx code e kn (fun i e' => bif Nat.beq i id then kn e' else kx i e') kr := by
  cases code <;> first | rfl | exact absurd rfl (hc _)

def joinAt (cx : Cx) (x : Code) : Option JA := match condKey x with
  | some t => findJ cx.ann.joins t
  | none => none
omit [Dr] in
theorem ev_seq {fx : Fix ρ} {x y : Code} {e : Env} {kn kr : Env → M ρ} {kx : Nat → Env → M ρ} : ev cx fx (.seq x y) e kn kx kr = (match joinAt cx x with
    | some ja => jn (fun vs => ev cx fx y (unpack ja vs) kn kx kr) fun j => ev cx fx x e (toJ ja j) kx kr
    | none => ev cx fx x e (fun e' => ev cx fx y e' kn kx kr) kx kr) := by
  unfold joinAt
  simp only [ev]
  cases condKey x with
  | none => rfl
  | some t =>
    simp only
    cases findJ cx.ann.joins t <;> rfl

/-- What a run has to lead to. -/
structure Posts (c : Entry) (N : Nat) (r : R ρ) (a : Act) (kn : Env → M ρ) (kx : Nat → Env → M ρ) (kr : Env → M ρ) (Q : Exit → Act → World → Prop) : Prop where
  nrm : ∀ e' h' a' w', r = kn e' h' → SatE c N e' h' a' w' → a'.defers = a.defers → Q .normal a' w'
  ext : ∀ i e' h' a' w', r = kx i e' h' → SatE c N e' h' a' w' → a'.defers = a.defers → Q (.exit i) a' w'
  ret : ∀ e' h' a' w', r = kr e' h' → SatE c N e' h' a' w' → a'.defers = a.defers → Q .ret a' w'
  pan : ∀ pv h' v w' a', r = .pan pv h' → PanSat c pv h' v w' → a'.defers = a.defers → Q (.panic [{ v, recovered := false }]) a' w'

theorem toJ_inv {ja : JA} {j : List AV → M ρ} {e : Env} {h : Hp} {N : Nat} {a : Act} {w : World} (H : SatE c N e h a w) (hr : toJ ja j e h ≠ .fail) : ∃ vs h', toJ ja j e h = j vs h' ∧ SatE c N (unpack ja vs) h' a w := by
  unfold toJ at hr ⊢
  cases hp : pack ja e with
  | none => rw [hp] at hr; exact absurd rfl hr
  | some vs =>
    have hs := unpack_sound H hp
    simp only
    cases ja.fz with
    | false => exact ⟨vs, h, rfl, hs⟩
    | true => exact ⟨_, _, rfl, freeze_unpack hs⟩

theorem ev_sound (hT : TOK P cx.T) (hC : CallsOK P cx.own cx.call) (hI : IsoCall cx) (hk : ∀ p, isS (findK cx.ann.kinds p .L) = true → p < cx.nt) (m : Nat) : ∀ (n : Nat) (code : Code), SizeOf.sizeOf code < n →
    ∀ (e : Env) (h : Hp) (a : Act) (w : World) (kn : Env → M ρ) (kx : Nat → Env → M ρ) (kr : Env → M ρ) (Q : Exit → Act → World → Prop), SatE c cx.nt e h a w → ev cx (fixM m) code e kn kx kr h ≠ .fail →
    Posts c cx.nt (ev cx (fixM m) code e kn kx kr h) a kn kx kr Q → code.wp P Q a w := by
  intro n
  induction n with
  | zero => intro code hn; omega
  | succ n ih =>
    intro code hn e h a w kn kx kr Q H hr hp
    cases code <;> (try exact absurd rfl hr)
    case skip => exact wp_skip (hp.nrm e h a w rfl H rfl)
    case exit id => exact wp_exit (hp.ext id e h a w rfl H rfl)
    case ret => exact wp_ret (hp.ret e h a w rfl H rfl)
    case region id ops draw => exact reg_sound hT hC hI hk H hr hp.nrm hp.pan
    case seq x y =>
      have hx : SizeOf.sizeOf x < n := by simp at hn; omega
      have hy : SizeOf.sizeOf y < n := by simp at hn; omega
      refine wp_seq ?_
      rw [ev_seq] at hr hp
      generalize joinAt cx x = oj at hr hp
      cases oj with
      | none =>
        simp only at hr hp
        refine ih x hx e h a w _ kx kr _ H hr ⟨fun e' h' a' w' hok hs hd => ?_, fun i e' h' a' w' hok hs hd => hp.ext i e' h' a' w' hok hs hd, fun e' h' a' w' hok hs hd => hp.ret e' h' a' w' hok hs hd, fun pv h' v w' a' hok hs hd => hp.pan pv h' v w' a' hok hs hd⟩
        rw [hok] at hr hp
        exact ih y hy e' h' a' w' kn kx kr Q hs hr ⟨fun e2 h2 a2 w2 k1 k2 k3 => hp.nrm e2 h2 a2 w2 k1 k2 (k3.trans hd), fun i e2 h2 a2 w2 k1 k2 k3 => hp.ext i e2 h2 a2 w2 k1 k2 (k3.trans hd), fun e2 h2 a2 w2 k1 k2 k3 => hp.ret e2 h2 a2 w2 k1 k2 (k3.trans hd), fun pv h2 v w2 a2 k1 k2 k3 => hp.pan pv h2 v w2 a2 k1 k2 (k3.trans hd)⟩
      | some ja =>
        simp only [jn] at hr hp
        refine ih x hx e h a w _ kx kr _ H hr ⟨fun e' h' a' w' hok hs hd => ?_, fun i e' h' a' w' hok hs hd => hp.ext i e' h' a' w' hok hs hd, fun e' h' a' w' hok hs hd => hp.ret e' h' a' w' hok hs hd, fun pv h' v w' a' hok hs hd => hp.pan pv h' v w' a' hok hs hd⟩
        rw [hok] at hr hp
        obtain ⟨vs, h3, hj, hs3⟩ := toJ_inv hs hr
        rw [hj] at hr hp
        exact ih y hy (unpack ja vs) h3 a' w' kn kx kr Q hs3 hr ⟨fun e2 h2 a2 w2 k1 k2 k3 => hp.nrm e2 h2 a2 w2 k1 k2 (k3.trans hd), fun i e2 h2 a2 w2 k1 k2 k3 => hp.ext i e2 h2 a2 w2 k1 k2 (k3.trans hd), fun e2 h2 a2 w2 k1 k2 k3 => hp.ret e2 h2 a2 w2 k1 k2 (k3.trans hd), fun pv h2 v w2 a2 k1 k2 k3 => hp.pan pv h2 v w2 a2 k1 k2 (k3.trans hd)⟩
    case cond o x y =>
      have hx : SizeOf.sizeOf x < n := by simp at hn; omega
      have hy : SizeOf.sizeOf y < n := by simp at hn; omega
      cases o <;> (try exact absurd rfl hr)
      case const v =>
        simp only [ev] at hr hp
        have hav : ∀ b, cA v = .bool b → a.eval (.const v) = .bool b := by
          intro b hb
          show v = .bool b
          cases v with
          | bool c => simp only [cA, cA1, AV.bool.injEq] at hb; rw [hb]
          | tuple vs => simp only [cA] at hb; cases hvs : vs.isEmpty <;> rw [hvs] at hb <;> cases hb
          | pointer p => cases p <;> (simp only [cA, cA1] at hb; cases hb)
          | slice p n m =>
            have hs : cA1 (.slice p n m) = .sl [] ∨ cA1 (.slice p n m) = .any := by
              cases p with
              | some q => exact .inr rfl
              | none => cases n with
                | succ n => exact .inr rfl
                | zero => cases m with
                  | succ m => exact .inr rfl
                  | zero => exact .inl rfl
            simp only [cA] at hb
            rcases hs with hs | hs <;> rw [hs] at hb <;> cases hb
          | _ => simp only [cA, cA1] at hb; cases hb
        cases hq : cA v <;> rw [hq] at hr hp <;> (try exact absurd rfl hr)
        rename_i b
        cases b with
        | true => exact wp_cond (hav true hq) (ih x hx e h a w kn kx kr Q H hr hp)
        | false => exact wp_cond (hav false hq) (ih y hy e h a w kn kx kr Q H hr hp)
      rename_i t
      simp only [ev] at hr hp
      cases ht : decide (t < 1000) with
      | false => rw [ht] at hr; exact absurd rfl hr
      | true =>
        rw [ht] at hr hp
        simp only [cond_true] at hr hp
        have htl : t < 1000 := by simpa using ht
        have hav : ∀ b, e.av t = .bool b → a.eval (.tmp t) = .bool b := by
          intro b hb
          obtain ⟨S, β, γ, lam, ω, F⟩ := H
          have hs := F.slots t htl
          simp only [Env.av, Ent.av] at hb
          cases hv : (e.get t).v with
          | val av =>
            rw [hv] at hs hb
            simp only at hb
            subst hb
            simp only [SlotR, VR] at hs
            exact hs
          | loc B off => rw [hv] at hb; cases hb
        cases hq : e.av t <;> rw [hq] at hr hp <;> (try exact absurd rfl hr)
        rename_i b
        cases b with
        | true => exact wp_cond (hav true hq) (ih x hx e h a w kn kx kr Q H hr hp)
        | false => exact wp_cond (hav false hq) (ih y hy e h a w kn kx kr Q H hr hp)
    case block id code =>
      refine wp_block ?_
      by_cases hc : ∃ b, code = .loop b
      · obtain ⟨b, rfl⟩ := hc
        have hb : SizeOf.sizeOf b < n := by simp at hn; omega
        simp only [ev] at hr hp
        cases hja : findJ cx.ann.loops id with
        | none => rw [hja] at hr; exact absurd rfl hr
        | some ja =>
          rw [hja] at hr hp
          simp only at hr hp
          refine LoopAt.loop ?_
          obtain ⟨vs, h3, hj, hs3⟩ := toJ_inv H hr
          rw [hj] at hr hp
          have key : ∀ (k : Nat) (vs : List AV) (h : Hp) (a1 : Act) (w : World), SatE c cx.nt (unpack ja vs) h a1 w → a1.defers = a.defers →
              fixM k (fun self vs => ev cx (fixM m) b (unpack ja vs) (toJ ja self) (fun i e' => bif Nat.beq i id then kn e' else kx i e') kr) vs h ≠ .fail →
              Posts c cx.nt (fixM k (fun self vs => ev cx (fixM m) b (unpack ja vs) (toJ ja self) (fun i e' => bif Nat.beq i id then kn e' else kx i e') kr) vs h) a kn kx kr Q → LoopAt P b (Exit.inBlock id Q) a1 w := by
            intro k
            induction k with
            | zero => intro vs h a1 w _ _ hr _; exact absurd rfl hr
            | succ k ihk =>
              intro vs h a1 w hs hd hr hp
              simp only [fixM] at hr hp
              refine LoopAt.round (ih b hb (unpack ja vs) h a1 w _ _ kr _ hs hr ⟨fun e' h' a' w' hok hs' hd' => ?_, fun i e' h' a' w' hok hs' hd' => ?_, fun e' h' a' w' hok hs' hd' => hp.ret e' h' a' w' hok hs' (hd'.trans hd), fun pv h' v w' a' hok hs' hd' => hp.pan pv h' v w' a' hok hs' (hd'.trans hd)⟩)
              · rw [hok] at hr hp
                obtain ⟨vs', h4, hj', hs4⟩ := toJ_inv hs' hr
                rw [hj'] at hr hp
                exact ihk vs' h4 a' w' hs4 (hd'.trans hd) hr hp
              · cases hi : Nat.beq i id with
                | true =>
                  rw [hi] at hok
                  have := Nat.eq_of_beq_eq_true hi
                  subst this
                  show Exit.inBlock i Q (.exit i) a' w'
                  simp only [Exit.inBlock, if_true]
                  exact hp.nrm e' h' a' w' hok hs' (hd'.trans hd)
                | false =>
                  rw [hi] at hok
                  have hne : i ≠ id := fun hh => by subst hh; simp at hi
                  show Exit.inBlock id Q (.exit i) a' w'
                  simp only [Exit.inBlock, if_neg hne]
                  exact hp.ext i e' h' a' w' hok hs' (hd'.trans hd)
          exact key m vs h3 a w hs3 rfl hr hp
      · have hc' : ∀ b, code ≠ .loop b := fun b hb => hc ⟨b, hb⟩
        rw [ev_block hc'] at hr hp
        have hs : SizeOf.sizeOf code < n := by simp at hn; omega
        refine ih code hs e h a w kn _ kr _ H hr ⟨fun e' h' a' w' hok hs' hd' => hp.nrm e' h' a' w' hok hs' hd', fun i e' h' a' w' hok hs' hd' => ?_, fun e' h' a' w' hok hs' hd' => hp.ret e' h' a' w' hok hs' hd', fun pv h' v w' a' hok hs' hd' => hp.pan pv h' v w' a' hok hs' hd'⟩
        cases hi : Nat.beq i id with
        | true =>
          rw [hi] at hok
          have := Nat.eq_of_beq_eq_true hi
          subst this
          show Exit.inBlock i Q (.exit i) a' w'
          simp only [Exit.inBlock, if_true]
          exact hp.nrm e' h' a' w' hok hs' hd'
        | false =>
          rw [hi] at hok
          have hne : i ≠ id := fun hh => by subst hh; simp at hi
          show Exit.inBlock id Q (.exit i) a' w'
          simp only [Exit.inBlock, if_neg hne]
          exact hp.ext i e' h' a' w' hok hs' hd'
end
end Go.Av

/- A function's body. Conditions: the table of types is the program's; the calls are right; isolated calls see nothing of the heap. -/
namespace Go.Av
variable [Dr]

omit [Dr] in
theorem argSl_look : ∀ (args : List AV) (i t : Nat), lookE (argSl i args) t = if i ≤ t ∧ t < i + args.length then ⟨.val (nth args (t - i)), none⟩ else Ent.none
  | [], i, t => by
    simp only [argSl, lookE, List.length_nil, Nat.add_zero]
    rw [if_neg (by omega)]
  | a :: as, i, t => by
    simp only [argSl, lookE_cons, List.length_cons]
    by_cases h : i = t
    · subst h
      rw [if_pos rfl, if_pos (by omega)]
      simp [nth]
    · rw [if_neg h, argSl_look as (i + 1) t]
      by_cases h2 : i + 1 ≤ t ∧ t < i + 1 + as.length
      · rw [if_pos h2, if_pos (by omega)]
        have : t - i = (t - (i + 1)) + 1 := by omega
        simp [nth, this]
      · rw [if_neg h2, if_neg (by omega)]

section
variable {P : Program} {cx : Cx}

open Classical in
/-- The frame as a call begins. -/
theorem start {w : World} {S : Stab} {β : List Blk} {h : Hp} {args : List AV} {vs : List Value} {n : Nat} (hg : GOK β h w) (hw : Wf S w) (hh : HeapX S β w h) (hv : VRs S β args vs) (hn : args.length ≤ n) (hn2 : n ≤ 1000) :
    SatE { w, S, β, E := HOwn β h, gok := hg } n (env0 args) h { tmps := vs.toArray ++ Array.replicate (n - vs.toArray.size) undef, defers := [] } w := by
  obtain ⟨hlen, ω0, hr⟩ := hh
  have hvl := hv.length
  have hget : ∀ t, (env0 args).get t = if t < args.length then ⟨.val (nth args t), none⟩ else Ent.none := fun t => by
    have := argSl_look args 0 t
    simp only [Nat.zero_le, true_and, Nat.zero_add, Nat.sub_zero] at this
    exact this
  let ω : Nat → Owner := fun b => if HOwn β h b then ω0 b else .no
  refine ⟨S, β, fun _ => undef, fun _ => none, ω, ⟨hw, Gro.refl _, fun b _ _ => ⟨rfl, fun _ => rfl⟩, Stab.le_refl S, Ext.refl β, hlen, fun l cs hl hcs => ?_, ⟨?_, hn2⟩, fun t ht => ?_, fun t g z ht hg => ?_, fun B m hB => ?_, fun g z hz => ?_, fun b hb => ?_, fun t g hg => ?_, fun g z hz => ?_⟩⟩
  · obtain ⟨b, x, h1, h2, h3, h4⟩ := hr l cs hl hcs
    refine ⟨b, x, h1, h2, ?_, h4⟩
    show (if HOwn β h b then ω0 b else .no) = _
    rw [if_pos ⟨l, cs, _, hl, hcs, h1⟩]
    exact h3
  · simp; omega
  · rw [hget]
    split
    · rename_i hlt
      have hx : args[t]? = some (nth args t) := by simp [nth, hlt]
      obtain ⟨v, h1, h2⟩ := hv.get hx
      have : (vs.toArray ++ Array.replicate (n - vs.toArray.size) undef).getD t undef = v := by
        rw [Array.getD_eq_getD_getElem?, Array.getElem?_append_left (by simp; omega)]
        simp [h1]
      rw [this]
      exact h2
    · simp [Ent.none, SlotR, VR]
  · rw [hget] at hg
    split at hg <;> cases hg
  · cases hB
  · cases hz
  · have hb' : HOwn β h b := by
      by_cases ho : HOwn β h b
      · exact ho
      · exact absurd (show ω b = .no from if_neg ho) hb
    obtain ⟨l, cs, m, h1, h2, h3⟩ := hb'
    obtain ⟨b', x, k1, k2, k3, _⟩ := hr l cs h1 h2
    rw [h3] at k1
    cases k1
    have hω : ω b = .heap l := by
      show (if HOwn β h b then ω0 b else .no) = _
      rw [if_pos ⟨l, cs, _, h1, h2, h3⟩]
      exact k3
    exact ⟨.inl ⟨⟨l, cs, _, h1, h2, h3⟩, fun g => by rw [hω]; simp⟩, k2.lt⟩
  · rw [hget] at hg
    split at hg <;> cases hg
  · cases hz

/-- A result's value. -/
def readRes (tmps : Array Value) : ResultVar → Sem Value
  | .tmp t => pure (tmps.getD t undef)
  | .cell p t => do loadVar t (← asAddr (tmps.getD p undef))
omit [Dr] in
theorem results_eq (fn : Func) (tmps : Array Value) : results fn tmps = (do let vs ← fn.results.mapM (readRes tmps); pure (if h : vs.size = 1 then vs[0] else .tuple vs)) := by
  unfold results
  congr 1

theorem res_ok {c : Entry} {N : Nat} {U : Nat → Prop} {e : Env} {h : Hp} {a : Act} {w : World} {S : Stab} {β : List Blk} {γ : Nat → Value} {lam : Nat → Option Nat} {ω : Nat → Owner} (hT : TOK P cx.T) (F : FR c N U e h a w S β γ lam ω)
    {r : ResultVar} {v : AV} (hr : resOf cx.T e r = some v) : ∃ u, (readRes a.tmps r).run P w = .ok u w ∧ VR S β v u := by
  cases r with
  | tmp t =>
    simp only [resOf] at hr
    cases ht : decide (t < 1000) with
    | false => rw [ht] at hr; cases hr
    | true =>
      rw [ht] at hr
      simp only [cond_true] at hr
      have hs := F.slots t (by simpa using ht)
      cases hv : (e.get t).v with
      | loc B off => rw [hv] at hr; cases hr
      | val av =>
        rw [hv] at hr hs
        simp only [Option.some.injEq] at hr
        subst hr
        exact ⟨_, by simp only [readRes, Sem.run_pure], hs⟩
  | cell p t =>
    simp only [resOf] at hr
    cases hp : decide (p < 1000) with
    | false => rw [hp] at hr; cases hr
    | true =>
      rw [hp] at hr
      simp only [cond_true] at hr
      have hs := F.slots p (by simpa using hp)
      cases hv : (e.get p).v with
      | loc B off =>
        rw [hv] at hr hs
        cases ht : cx.T t with
        | none => rw [ht] at hr; cases hr
        | some ti =>
          rw [ht] at hr
          simp only at hr
          cases hin : inLb e B off ti.size with
          | false => rw [hin] at hr; cases hr
          | true =>
            rw [hin] at hr
            simp only [cond_true] at hr
            simp only [SlotR] at hs
            obtain ⟨b, hlam, hpv⟩ := hs
            obtain ⟨b', x, m, hm, hle, hlam', hrow, hms, hcells⟩ := F.locals hin
            rw [hlam] at hlam'; cases hlam'
            let f : Nat → Value := fun i => (x[off + i]?).getD undef
            have hf : ∀ i, i < ti.size → x[off + i]? = some (f i) := fun i hi => by
              obtain ⟨v, _, hv', _⟩ := hcells i hi
              show _ = some ((x[off + i]?).getD undef)
              rw [hv']; rfl
            have hload := loadVar_row hT ht hrow f hf
            have hexec : ∀ v, (loadVar t ⟨b, off, none⟩).run P w = .ok v w → (readRes a.tmps (.cell p t)).run P w = .ok v w := fun v hv' => by
              simp only [readRes]; rw [hpv]; simpa [asAddr] using hv'
            cases hag : ti.agg with
            | true =>
              rw [hag] at hr
              simp only [cond_true, Option.some.injEq] at hr
              subst hr
              refine ⟨_, hexec _ (hload.1 hag), ?_⟩
              simp only [VR]
              refine ⟨_, rfl, getLs_ok ti.size fun i hi => ?_⟩
              obtain ⟨v, a', g1, g2, g3, _⟩ := hcells i hi
              have : f i = v := by show (x[off + i]?).getD undef = v; rw [g1]; rfl
              rw [this]
              simp only [Env.av, Ent.av, g2]
              exact g3
            | false =>
              rw [hag] at hr
              simp only [cond_false] at hr
              cases hone : decide (ti.size = 1) with
              | false => rw [hone] at hr; cases hr
              | true =>
                rw [hone] at hr
                simp only [cond_true, Option.some.injEq] at hr
                subst hr
                have hone' : ti.size = 1 := by simpa using hone
                obtain ⟨v, a', g1, g2, g3, g4⟩ := hcells 0 (by omega)
                simp only [Nat.add_zero] at g1 g2 g4
                have hfv : f 0 = v := by show (x[off + 0]?).getD undef = v; rw [Nat.add_zero, g1]; rfl
                refine ⟨v, hexec _ (hfv ▸ hload.2 hag hone'), ?_⟩
                simp only [Env.av, Ent.av, g2]
                exact g3
      | val av =>
        rw [hv] at hr hs
        cases ht : cx.T t with
        | none => rw [ht] at hr; cases hr
        | some ti =>
          rw [ht] at hr
          simp only at hr
          obtain ⟨v, h1, h2⟩ := load_ok hT F.wf hr hs
          refine ⟨v, ?_, h2⟩
          unfold loadA at hr
          rw [ht] at hr
          cases av <;> simp only [reduceCtorEq] at hr
          simp only [SlotR, VR] at hs
          obtain ⟨b, off, vs, hpv, _, _⟩ := hs
          simp only [readRes]
          rw [hpv] at h1 ⊢
          simpa [Instr.loadAt, Instr.sureAddr, asAddr] using h1

theorem results_ok {c : Entry} {N : Nat} {U : Nat → Prop} {e : Env} {h : Hp} {a : Act} {w : World} {S : Stab} {β : List Blk} {γ : Nat → Value} {lam : Nat → Option Nat} {ω : Nat → Owner} (hT : TOK P cx.T) (F : FR c N U e h a w S β γ lam ω)
    {fn : Func} {vs : List AV} (hr : resAll cx.T e fn.results.toList = some vs) : ∃ u, (results fn a.tmps).run P w = .ok u w ∧ VR S β (tupOf vs) u := by
  have key : ∀ (l : List ResultVar) (vs : List AV), resAll cx.T e l = some vs → ∃ us : List Value, (l.mapM (readRes a.tmps)).run P w = .ok us w ∧ VRs S β vs us := by
    intro l
    induction l with
    | nil => intro vs h; simp only [resAll, Option.some.injEq] at h; subst h; exact ⟨[], by simp, by simp [VRs]⟩
    | cons r rs ih =>
      intro vs h
      simp only [resAll] at h
      cases h1 : resOf cx.T e r with
      | none => rw [h1] at h; cases h
      | some v =>
        cases h2 : resAll cx.T e rs with
        | none => rw [h1, h2] at h; cases h
        | some vs' =>
          rw [h1, h2] at h
          simp only [Option.some.injEq] at h
          subst h
          obtain ⟨u, k1, k2⟩ := res_ok hT F h1
          obtain ⟨us, m1, m2⟩ := ih vs' h2
          refine ⟨u :: us, ?_, by simp only [VRs]; exact ⟨u, us, rfl, k2, m2⟩⟩
          rw [List.mapM_cons, Sem.run_bind, k1, Result.andThen_ok, Sem.run_bind, m1, Result.andThen_ok, Sem.run_pure]
  obtain ⟨us, k1, k2⟩ := key _ _ hr
  have hlen := k2.length
  have hrun : (fn.results.mapM (readRes a.tmps)).run P w = .ok us.toArray w := by
    rw [Array.mapM_eq_mapM_toList]
    rw [map_eq_pure_bind, Sem.run_bind, k1, Result.andThen_ok, Sem.run_pure]
  refine ⟨if h : us.toArray.size = 1 then us.toArray[0] else .tuple us.toArray, ?_, ?_⟩
  · rw [results_eq, Sem.run_bind, hrun, Result.andThen_ok, Sem.run_pure]
  · unfold tupOf
    split
    · rename_i v
      cases us with
      | nil => simp at hlen
      | cons u us =>
        cases us with
        | nil => simp only [VRs] at k2; obtain ⟨x, xs, hx, hy, _⟩ := k2; simp at hx; simp [hx.1, hy]
        | cons u2 us => simp at hlen
    · rename_i hne
      rw [dif_neg]
      · simp only [VR]; exact ⟨us, rfl, k2⟩
      · intro h1
        have : vs.length = 1 := by rw [← hlen]; simpa using h1
        match vs, this with
        | [v], _ => exact hne v rfl
end
end Go.Av

/- A function. Conditions: the table of types is the program's; the calls are right; isolated calls see nothing of the heap. -/
namespace Go.Av
variable [Dr]

omit [Dr] in
theorem kindsOk_inv {n : Nat} {ks : List (Nat × Kind)} (h : kindsOk n ks = true) : ∀ p, isS (findK ks p .L) = true → p < n := by
  intro p hp
  induction ks with
  | nil => simp [findK, isS] at hp
  | cons x ks ih =>
    obtain ⟨k, y⟩ := x
    unfold kindsOk at h
    simp only [List.all_cons, Bool.and_eq_true] at h
    simp only [findK] at hp
    cases hk : Nat.beq k p with
    | true =>
      rw [hk] at hp
      simp only [cond_true] at hp
      have := h.1
      rw [hp] at this
      have hk' := Nat.eq_of_beq_eq_true hk
      subst hk'
      simpa using this
    | false =>
      rw [hk] at hp
      exact ih h.2 hp

section
variable {P : Program} {cx : Cx}

theorem own_ok {c : Entry} {N : Nat} {U : Nat → Prop} {e : Env} {h : Hp} {a : Act} {w : World} {S : Stab} {β : List Blk} {γ : Nat → Value} {lam : Nat → Option Nat} {ω : Nat → Owner} (F : FR c N U e h a w S β γ lam ω)
    {fn : Func} {sz : Nat} (ho : ownRes fn e sz = true) {u : Value} (hu : (results fn a.tmps).run P w = .ok u w) : OwnedR c.w.heap.size S β w h sz u := by
  unfold ownRes at ho
  split at ho
  · rename_i t hres
    cases ht : decide (t < 1000) with
    | false => rw [ht] at ho; cases ho
    | true =>
      rw [ht] at ho
      simp only [Bool.true_and] at ho
      split at ho
      · rename_i g hg
        split at ho
        · rename_i z hz
          have hgr := F.grps t g z (by simpa using ht) hg hz
          obtain ⟨ad, len, cap, h1, h2, h3, h4⟩ := F.free g z hz
          have hue : u = a.tmps.getD t undef := by
            have hr : fn.results = #[.tmp t] := by apply Array.ext'; simpa using hres
            rw [results_eq, hr] at hu
            simp [readRes] at hu
            simpa using hu.symm
          rw [hue, hgr]
          refine ⟨ad, len, cap, h1, h2, h3, h4.imp id ?_⟩
          rintro ⟨sz', b, off, x, k1, k2, k3, k4, k5, k6⟩
          have hsz : sz' = sz := by
            rw [k1] at ho
            simp only [szOk] at ho
            exact Nat.eq_of_beq_eq_true ho
          subst hsz
          refine ⟨b, off, x, k2, k3, k4, (F.mine b (by rw [k5]; simp)).1.grp k5, fun hb => ?_, k6⟩
          obtain ⟨l, _, hl, _⟩ := F.hown hb
          rw [k5] at hl
          cases hl
        · cases ho
      · cases ho
  · cases ho

omit [Dr] in
theorem retK_inv {fn : Func} {own : Option Nat} {e : Env} {h : Hp} (hr : retK cx fn own e h ≠ .fail) : ∃ rs, resAll cx.T e fn.results.toList = some rs ∧ retK cx fn own e h = .ok (tupOf rs) h ∧ ∀ sz, own = some sz → ownRes fn e sz = true := by
  have key : ∀ b : Bool, (bif b then bnd (lft ((resAll cx.T e fn.results.toList).map tupOf)) M.pure else M.fail : M AV) h ≠ .fail → b = true ∧ ∃ rs, resAll cx.T e fn.results.toList = some rs ∧ (bif b then bnd (lft ((resAll cx.T e fn.results.toList).map tupOf)) M.pure else M.fail : M AV) h = .ok (tupOf rs) h := by
    intro b hr
    cases b with
    | false => exact absurd rfl hr
    | true =>
      refine ⟨rfl, ?_⟩
      cases hres : resAll cx.T e fn.results.toList with
      | none => rw [hres] at hr; exact absurd rfl hr
      | some rs => exact ⟨rs, rfl, rfl⟩
  unfold retK at hr ⊢
  cases own with
  | none =>
    obtain ⟨_, rs, h1, h2⟩ := key true hr
    exact ⟨rs, h1, h2, fun sz hsz => by cases hsz⟩
  | some sz =>
    obtain ⟨h0, rs, h1, h2⟩ := key _ hr
    exact ⟨rs, h1, h2, fun sz' hsz => by cases hsz; exact h0⟩

theorem body_sound (hT : TOK P cx.T) (hC : CallsOK P cx.own cx.call) (hI : IsoCall cx) (m : Nat) {f : FuncId} {fn : Func} (hf : P.funcs[f]? = some fn) (hnt : cx.nt = fn.ntmps) {own : Option Nat} {args : List AV} {h : Hp} {S : Stab} {β : List Blk} {w : World} {vs : List Value}
    (hr : evBody cx (fixM m) fn own args h ≠ .fail) (hg : GOK β h w) (hw : Wf S w) (hh : HeapX S β w h) (hv : VRs S β args vs) : Calls P f vs.toArray w (CPost own S β h w (evBody cx (fixM m) fn own args h)) ∧ fn.body.isSome = true := by
  unfold evBody at hr ⊢
  cases hb : fn.body with
  | none => rw [hb] at hr; exact absurd rfl hr
  | some code =>
    rw [hb] at hr
    simp only at hr ⊢
    refine ⟨?_, rfl⟩
    cases hc : (decide (args.length ≤ fn.ntmps) && decide (fn.ntmps ≤ 1000) && kindsOk cx.nt cx.ann.kinds) with
    | false => rw [hc] at hr; exact absurd rfl hr
    | true =>
      rw [hc] at hr
      simp only [cond_true] at hr ⊢
      simp only [Bool.and_eq_true, decide_eq_true_eq] at hc
      obtain ⟨⟨hc1, hc2⟩, hc3⟩ := hc
      have H : SatE { w, S, β, E := HOwn β h, gok := hg } cx.nt (env0 args) h { tmps := vs.toArray ++ Array.replicate (fn.ntmps - vs.toArray.size) undef, defers := [] } w := by
        rw [hnt]
        exact start hg hw hh hv hc1 hc2
      have hret : ∀ (e' : Env) (h' : Hp) (a' : Act) (w' : World), ev cx (fixM m) code (env0 args) (retK cx fn own) (fun _ _ => M.fail) (retK cx fn own) h = retK cx fn own e' h' →
          SatE { w, S, β, E := HOwn β h, gok := hg } cx.nt e' h' a' w' → ∃ v, (results fn a'.tmps).run P w' = .ok v w' ∧ CPost own S β h w (ev cx (fixM m) code (env0 args) (retK cx fn own) (fun _ _ => M.fail) (retK cx fn own) h) (.returned v) w' := by
        intro e' h' a' w' hok hs
        rw [hok] at hr ⊢
        obtain ⟨rs, hres, hret, hown⟩ := retK_inv hr
        rw [hret]
        obtain ⟨S', β', γ, lam, ω, F⟩ := hs
        obtain ⟨u, hu1, hu2⟩ := results_ok (P := P) hT F hres
        exact ⟨u, hu1, S', β', u, rfl, hu2, F.out, fun sz hsz => own_ok F (hown sz hsz) hu1⟩
      refine calls_of_wp hf hb (ev_sound hT hC hI (kindsOk_inv hc3) m _ code (Nat.lt_succ_self _) (env0 args) h _ w _ _ _ _ H hr ⟨fun e' h' a' w' hok hs hd => ?_, fun i e' h' a' w' hok hs hd => ?_, fun e' h' a' w' hok hs hd => ?_, fun pv h' v w' a' hok hs hd => ?_⟩)
      · exact ⟨hd, hret e' h' a' w' hok hs⟩
      · rw [hok] at hr; exact absurd rfl hr
      · exact ⟨hd, hret e' h' a' w' hok hs⟩
      · refine ⟨hd, ?_⟩
        rw [hok]
        obtain ⟨S', β', hout, hvr⟩ := hs
        exact ⟨S', β', v, rfl, hvr, hout⟩
end

/-! ### Isolated calls -/
open Classical in
theorem iso_key {S : Stab} {β : List Blk} {w w' : World} {h : Hp} (hw : Wf S w) (hh : HeapX S β w h) {β0 : List Blk} {h0 : Hp} (hE : ∀ b, ¬ HOwn β0 h0 b) {S' : Stab} {β' : List Blk} {h' : Hp} (L : Left (HOwn β0 h0) S β0 w S' β' w' h') : ∃ S2, Left (HOwn β h) S β w S2 β w' h ∧ (∀ a v, VR S' β' a v → VR S2 β (frz 6 h' a) v) ∧ ∀ sz v, OwnedR w.heap.size S' β' w' h' sz v → OwnedR w.heap.size S2 β w' h sz v := by
  obtain ⟨hlen, ω, hH⟩ := L.heap
  have hnew : ∀ b, HOwn β' h' b → w.heap.size ≤ b := fun b hb => (L.owned b hb).resolve_left (hE b)
  let S2 : Stab := fun b o => if HOwn β' h' b then w'.cell? ⟨b, o, none⟩ else S' b o
  have hS2n : ∀ b, ¬ HOwn β' h' b → ∀ o, S2 b o = S' b o := fun b hb o => if_neg hb
  have hS2y : ∀ b, HOwn β' h' b → ∀ o, S2 b o = w'.cell? ⟨b, o, none⟩ := fun b hb o => if_pos hb
  have hle : S'.le S2 := by
    intro b o v hv
    by_cases hb : HOwn β' h' b
    · obtain ⟨l, cs, n, h1, h2, h3⟩ := hb
      obtain ⟨b', x, k1, k2, k3, k4, k5⟩ := hH l cs h1 h2
      rw [h3] at k1; cases k1
      rw [k5] at hv
      cases hv
    · rw [hS2n b hb]; exact hv
  have hrow : ∀ b, b < w.heap.size → w'.heap[b]? = w.heap[b]? ∧ ∀ o, S2 b o = S b o := by
    intro b hb
    have hk := L.keep b hb (hE b)
    refine ⟨hk.1, fun o => ?_⟩
    rw [hS2n b (fun ho => by have := hnew b ho; omega)]
    exact hk.2 o
  have hwf : Wf S2 w' := by
    intro b o v hv
    by_cases hb : HOwn β' h' b
    · rw [hS2y b hb] at hv; exact hv
    · rw [hS2n b hb] at hv; exact L.wf b o v hv
  obtain ⟨hlen0, ω0, hH0⟩ := hh
  have hlt0 : ∀ b, HOwn β h b → b < w.heap.size := by
    rintro b ⟨l, cs, n, h1, h2, h3⟩
    obtain ⟨b', x, k1, k2, _⟩ := hH0 l cs h1 h2
    rw [h3] at k1; cases k1
    exact k2.lt
  have hle0 : S.le S2 := Stab.le_trans L.le hle
  refine ⟨S2, ⟨hle0, Ext.refl β, hwf, L.gro, fun b hb _ => hrow b hb, ⟨hlen0, ω0, fun l cs hl hcs => ?_⟩, fun b hb => .inl hb⟩, fun a v hv => frz_ok hH hle (fun b o x hb hr => ?_) 6 a v hv, fun sz v => ?_⟩
  · obtain ⟨b, x, k1, k2, k3, k4, k5⟩ := hH0 l cs hl hcs
    have hk := hrow b k2.lt
    exact ⟨b, x, k1, k2.of_eq hk.1, k3, VRs.mono hle0 (Ext.refl β) _ _ k4, fun o => by rw [hk.2]; exact k5 o⟩
  · rw [hS2y b hb, hr.cell]
  · rintro ⟨ad, len, cap, k1, k2, k3, k4⟩
    refine ⟨ad, len, cap, k1, k2, k3, k4.imp id ?_⟩
    rintro ⟨b, off, x, p1, p2, p3, p4, p5, p6⟩
    refine ⟨b, off, x, p1, p2, p3, p4, fun hb => ?_, fun o ho => by rw [hS2n b p5]; exact p6 o ho⟩
    have := hlt0 b hb
    omega

theorem iso_post {S : Stab} {β : List Blk} {w w' : World} {h : Hp} {own : Option Nat} {m : List AV → M AV} {args : List AV} {en : Ending} (hw : Wf S w) (hh : HeapX S β w h) (hp : CPost own S [] [] w (m (cls noHs args) []) en w') : CPost own S β h w (isoM m args h) en w' := by
  have key := fun {S' : Stab} {β' : List Blk} {h' : Hp} (L : Left (HOwn [] []) S [] w S' β' w' h') => iso_key hw hh (by rintro b ⟨l, cs, n, h1, _⟩; simp at h1) L
  unfold isoM
  cases hm : m (cls noHs args) [] with
  | fail => rw [hm] at hp; exact hp.elim
  | ok r h' =>
    rw [hm] at hp
    obtain ⟨S', β', v, h1, h2, h3, h4⟩ := hp
    obtain ⟨S2, k1, k2, k3⟩ := key h3
    exact ⟨S2, β, v, h1, k2 r v h2, k1, fun sz hsz => k3 sz v (h4 sz hsz)⟩
  | pan r h' =>
    rw [hm] at hp
    obtain ⟨S', β', v, h1, h2, h3⟩ := hp
    obtain ⟨S2, k1, k2, k3⟩ := key h3
    exact ⟨S2, β, v, h1, k2 r v h2, k1⟩

/-! ### A program -/
/-- The evaluator's program is the model's. -/
structure GoodPg (P : Program) (p : Pg) : Prop where
  tok : TOK P p.T
  funcs : ∀ f fn a, p.funcs f = some (fn, a) → P.funcs[f]? = some fn ∧ (fn.name == "runtime.NumGoroutine") = false
  other : ∀ f E, p.other f = some E → ∀ call, CallsOK P p.own call → ∀ (args : List AV) (h : Hp) (S : Stab) (β : List Blk) (w : World) (vs : List Value), E call args h ≠ .fail → GOK β h w → Wf S w → HeapX S β w h → VRs S β args vs →
    Calls P f vs.toArray w (CPost (p.own f) S β h w (E call args h)) ∧ (P.funcs[f]?).any (fun fn => fn.body.isSome && !(fn.name == "runtime.NumGoroutine")) = true
  nw : ∀ f, p.nw f = true → ∃ E, p.other f = some E ∧ ∀ call args, NwM (E call args)

omit [Dr] in
theorem HeapX.nil {S : Stab} {w : World} : HeapX S [] w [] := ⟨rfl, fun _ => .no, fun l cs hl => by simp at hl⟩

theorem evFun_sound {P : Program} {p : Pg} (G : GoodPg P p) (m : Nat) {call : FuncId → List AV → M AV} (hC : CallsOK P p.own call) (hI : ∀ n a, IsoCall (p.cx call n a)) : CallsOK P p.own (evFun p call (fixM m)) := by
  intro f args h S β w vs hr hg hw hh hv
  unfold evFun at hr ⊢
  cases ho : p.other f with
  | some E => rw [ho] at hr; exact G.other f E ho call hC args h S β w vs hr hg hw hh hv
  | none =>
    rw [ho] at hr
    simp only at hr ⊢
    cases hf : p.funcs f with
    | none => rw [hf] at hr; exact absurd rfl hr
    | some x =>
      obtain ⟨fn, a⟩ := x
      rw [hf] at hr
      simp only at hr ⊢
      obtain ⟨hf1, hf2⟩ := G.funcs f fn a hf
      have hany : fn.body.isSome = true → (P.funcs[f]?).any (fun fn => fn.body.isSome && !(fn.name == "runtime.NumGoroutine")) = true := by
        intro hb
        rw [hf1]
        simp only [Option.any_some, hb, hf2, Bool.not_false, Bool.and_self]
      cases hi : a.iso with
      | false =>
        rw [hi] at hr
        simp only [cond_false] at hr ⊢
        obtain ⟨h1, h2⟩ := body_sound (cx := p.cx call fn.ntmps a) G.tok hC (hI _ _) m hf1 rfl hr hg hw hh hv
        exact ⟨h1, hany h2⟩
      | true =>
        rw [hi] at hr
        simp only [cond_true] at hr ⊢
        have hr' : evBody (p.cx call fn.ntmps a) (fixM m) fn (p.own f) (cls noHs args) [] ≠ .fail := by
          intro hf
          unfold isoM at hr
          rw [hf] at hr
          exact hr rfl
        obtain ⟨h1, h2⟩ := body_sound (cx := p.cx call fn.ntmps a) G.tok hC (hI _ _) m hf1 rfl hr' ⟨hg.1, fun b _ hb => by obtain ⟨l, _, _, h1, _⟩ := hb; simp at h1⟩ hw HeapX.nil (clean_ok hv)
        exact ⟨h1.mono fun en w' hp => iso_post hw hh hp, hany h2⟩

omit [Dr] in
theorem evCall_iso (p : Pg) (hN : ∀ f, p.nw f = true → ∃ E, p.other f = some E ∧ ∀ call args, NwM (E call args)) : ∀ n k a, IsoCall (p.cx (evCall p n) k a)
  | 0, k, a => ⟨fun f args _ => ⟨none, fun _ => rfl⟩, fun f args _ h v h' hh => by cases hh⟩
  | n + 1, k, a => by
    refine ⟨?_, fun f args hf => ?_⟩
    case refine_2 =>
      obtain ⟨E, hE, hn⟩ := hN f hf
      have : (p.cx (evCall p (n + 1)) k a).call f args = E (evCall p n) args := by
        show evFun p (evCall p n) (fixM n) f args = _
        unfold evFun
        rw [hE]
      rw [this]
      exact hn _ _
    intro f args hi
    have hi' : p.iso f = true := hi
    unfold Pg.iso at hi'
    cases ho : p.other f with
    | some E => rw [ho] at hi'; cases hi'
    | none =>
      rw [ho] at hi'
      simp only at hi'
      cases hf : p.funcs f with
      | none => rw [hf] at hi'; cases hi'
      | some x =>
        obtain ⟨fn, b⟩ := x
        rw [hf] at hi'
        simp only at hi'
        refine ⟨match evBody (p.cx (evCall p n) fn.ntmps b) (fixM n) fn (p.own f) (cls noHs args) [] with | .ok r h' => some (true, frz 6 h' r) | .pan v h' => some (false, frz 6 h' v) | .fail => none, fun h => ?_⟩
        show evFun p (evCall p n) (fixM n) f args h = _
        unfold evFun
        rw [ho]
        simp only
        rw [hf]
        simp only [hi', cond_true, isoM]
        cases evBody (p.cx (evCall p n) fn.ntmps b) (fixM n) fn (p.own f) (cls noHs args) [] <;> rfl

/-- Every call is right. -/
theorem evCall_sound {P : Program} {p : Pg} (G : GoodPg P p) : ∀ n, CallsOK P p.own (evCall p n)
  | 0 => fun f args h S β w vs hr => absurd rfl hr
  | n + 1 => evFun_sound G n (evCall_sound G n) fun k a => evCall_iso p G.nw n k a
end Go.Av

/- The limit of growing fuel. No condition. -/
namespace Go.Av

/-- a is what the family comes to. -/
def IsLim {α : Type} (a : R α) (b : Nat → R α) : Prop := (a ≠ .fail → ∃ N, ∀ n, N ≤ n → b n = a) ∧ ∀ n, b n ≠ .fail → b n = a
def LimM {α : Type} (m : M α) (ms : Nat → M α) : Prop := ∀ h, IsLim (m h) fun n => ms n h
def LimF {α β : Type} (f : β → M α) (fs : Nat → β → M α) : Prop := ∀ x, LimM (f x) fun n => fs n x

theorem IsLim.const {α : Type} (a : R α) : IsLim a fun _ => a := ⟨fun _ => ⟨0, fun _ _ => rfl⟩, fun _ _ => rfl⟩
theorem LimM.const {α : Type} (m : M α) : LimM m fun _ => m := fun _ => .const _
theorem LimF.const {α β : Type} (f : β → M α) : LimF f fun _ => f := fun _ => .const _
theorem LimM.bnd {α β : Type} {m : M α} {ms : Nat → M α} {f : α → M β} {fs : Nat → α → M β} (hm : LimM m ms) (hf : LimF f fs) : LimM (bnd m f) fun n => bnd (ms n) (fs n) := by
  intro h
  obtain ⟨h1, h2⟩ := hm h
  (try dsimp only at h1 h2)
  refine ⟨fun hne => ?_, fun n hne => ?_⟩
  · have hne' : m h ≠ .fail := fun hf => by simp only [Av.bnd] at hne; rw [hf] at hne; exact hne rfl
    obtain ⟨N, hN⟩ := h1 hne'
    cases hmh : m h with
    | fail => exact absurd hmh hne'
    | pan v x =>
      refine ⟨N, fun n hn => ?_⟩
      (try dsimp only)
      simp only [Av.bnd]
      rw [hN n hn, hmh]
    | ok a x =>
      have hne2 : f a x ≠ .fail := fun hf => by simp only [Av.bnd] at hne; rw [hmh] at hne; exact hne hf
      obtain ⟨N2, hN2⟩ := (hf a x).1 hne2
      refine ⟨max N N2, fun n hn => ?_⟩
      (try dsimp only)
      simp only [Av.bnd]
      rw [hN n (by omega), hmh]
      exact hN2 n (by omega)
  · (try dsimp only at hne ⊢)
    simp only [Av.bnd] at hne ⊢
    have hne' : ms n h ≠ .fail := fun hf => by rw [hf] at hne; exact hne rfl
    rw [← h2 n hne']
    cases hmh : ms n h with
    | fail => exact absurd hmh hne'
    | pan v x => rfl
    | ok a x =>
      rw [hmh] at hne
      exact (hf a x).2 n hne

/-- Less defined. -/
def LeM {α : Type} (m m' : M α) : Prop := ∀ h, m h ≠ .fail → m h = m' h
theorem LeM.lim {α : Type} {m m' : M α} (h : LeM m m') : LimM m' fun n => if n = 0 then m else m' := by
  intro x
  refine ⟨fun _ => ⟨1, fun n hn => by (try dsimp only); rw [if_neg (by omega)]⟩, fun n hne => ?_⟩
  (try dsimp only at hne ⊢)
  by_cases h0 : n = 0
  · rw [if_pos h0] at hne ⊢
    exact h x hne
  · rw [if_neg h0]
theorem LimM.le {α : Type} {m : M α} {ms : Nat → M α} (h : LimM m ms) (n : Nat) : LeM (ms n) m := fun x hne => (h x).2 n hne

abbrev Step := (List AV → M AV) → List AV → M AV
section
variable {ρ : Type}
def Cont1 (F : (List AV → M ρ) → List AV → M ρ) (Fs : Nat → (List AV → M ρ) → List AV → M ρ) : Prop := ∀ self selfs, LimF self selfs → LimF (F self) fun n => Fs n (selfs n)
def ContC (F : (List AV → M ρ) → List AV → M ρ) : Prop := Cont1 F fun _ => F
def FixRel (fx : Fix ρ) (fxs : Nat → Fix ρ) : Prop := ∀ F Fs, Cont1 F Fs → ContC F → (∀ n, ContC (Fs n)) → LimF (fx F) fun n => fxs n (Fs n)
def FixC (fx : Fix ρ) : Prop := FixRel fx fun _ => fx

theorem ContC.mono {F : (List AV → M ρ) → List AV → M ρ} (hF : ContC F) {s s' : List AV → M ρ} (h : ∀ vs, LeM (s vs) (s' vs)) : ∀ vs, LeM (F s vs) (F s' vs) := by
  intro vs x hne
  have hl : LimF s' (fun n => if n = 0 then s else s') := by
    intro vs x
    refine ⟨fun _ => ⟨1, fun n hn => ?_⟩, fun n hne => ?_⟩
    · (try dsimp only)
      rw [if_neg (by omega)]
    · (try dsimp only at hne ⊢)
      by_cases h0 : n = 0
      · rw [if_pos h0] at hne ⊢; exact h vs x hne
      · rw [if_neg h0]
  have h0 := (hF s' _ hl vs x).2 0
  (try dsimp only at h0)
  rw [if_pos rfl] at h0
  exact h0 hne

theorem fixM_mono {F : (List AV → M ρ) → List AV → M ρ} (hF : ContC F) : ∀ n vs, LeM (fixM n F vs) (fixM (n + 1) F vs)
  | 0, vs => fun x hne => absurd rfl hne
  | n + 1, vs => hF.mono (fixM_mono hF n) vs
theorem LeM.trans {α : Type} {a b c : M α} (h : LeM a b) (g : LeM b c) : LeM a c := fun x hne => by
  have := h x hne
  rw [this]
  exact g x (this ▸ hne)
theorem LeM.refl {α : Type} (a : M α) : LeM a a := fun _ _ => rfl
theorem fixM_mono' {F : (List AV → M ρ) → List AV → M ρ} (hF : ContC F) {n m : Nat} (h : n ≤ m) (vs : List AV) : LeM (fixM n F vs) (fixM m F vs) := by
  induction m with
  | zero => have : n = 0 := by omega
            subst this; exact .refl _
  | succ m ih =>
    by_cases hn : n = m + 1
    · subst hn; exact .refl _
    · exact (ih (by omega)).trans (fixM_mono hF m vs)

open Classical in
/-- A loop's limit. -/
noncomputable def fixW (F : (List AV → M ρ) → List AV → M ρ) (vs : List AV) : M ρ := fun h => if hx : ∃ n, fixM n F vs h ≠ .fail then fixM (Classical.choose hx) F vs h else .fail

theorem chain_lim {b : Nat → R ρ} (hmono : ∀ n m, n ≤ m → b n ≠ .fail → b n = b m) {a : R ρ} (ha : (∃ n, b n ≠ .fail ∧ a = b n) ∨ (∀ n, b n = .fail) ∧ a = .fail) : IsLim a b := by
  rcases ha with ⟨n, hn, rfl⟩ | ⟨hn, rfl⟩
  · refine ⟨fun _ => ⟨n, fun m hm => (hmono n m hm hn).symm⟩, fun m hm => ?_⟩
    rcases Nat.le_total n m with h | h
    · exact (hmono n m h hn).symm
    · exact hmono m n h hm
  · exact ⟨fun h => absurd rfl h, fun n h => absurd (hn n) h⟩

theorem fixW_lim {F : (List AV → M ρ) → List AV → M ρ} (hF : ContC F) : LimF (fixW F) fun n => fixM n F := by
  intro vs h
  refine chain_lim (fun n m hnm hne => fixM_mono' hF hnm vs h hne) ?_
  unfold fixW
  by_cases hx : ∃ n, fixM n F vs h ≠ .fail
  · left
    simp only [dif_pos hx]
    exact ⟨_, Classical.choose_spec hx, rfl⟩
  · right
    simp only [dif_neg hx]
    exact ⟨fun n => Classical.byContradiction fun h => hx ⟨n, h⟩, trivial⟩

theorem fixM_le {F : (List AV → M ρ) → List AV → M ρ} {Fs : Nat → (List AV → M ρ) → List AV → M ρ} (h1 : Cont1 F Fs) (n : Nat) : ∀ k vs, LeM (fixM k (Fs n) vs) (fixM k F vs)
  | 0, vs => .refl _
  | k + 1, vs => by
    have ih := fixM_le h1 n k
    have hl : LimF (fixM k F) fun m => if m = n then fixM k (Fs n) else fixM k F := by
      intro vs h
      refine ⟨fun _ => ⟨n + 1, fun m hm => by (try dsimp only); rw [if_neg (by omega)]⟩, fun m hne => ?_⟩
      (try dsimp only at hne ⊢)
      by_cases hm : m = n
      · rw [if_pos hm] at hne ⊢; exact ih vs h hne
      · rw [if_neg hm]
    intro x hne
    have := (h1 _ _ hl vs x).2 n
    (try dsimp only at this)
    rw [if_pos rfl] at this
    exact this hne
theorem fixM_lim {F : (List AV → M ρ) → List AV → M ρ} {Fs : Nat → (List AV → M ρ) → List AV → M ρ} (h1 : Cont1 F Fs) : ∀ k, LimF (fixM k F) fun n => fixM k (Fs n)
  | 0 => fun _ _ => .const _
  | k + 1 => h1 _ _ (fixM_lim h1 k)

theorem fixRel_fuel : FixRel (fixW (ρ := ρ)) fun n => fixM n := by
  intro F Fs h1 hF hFs vs h
  refine ⟨fun hne => ?_, fun n hne => ?_⟩
  · obtain ⟨N, hN⟩ := (fixW_lim hF vs h).1 hne
    have hN' := hN N (Nat.le_refl _)
    (try dsimp only at hN')
    obtain ⟨N2, hN2⟩ := (fixM_lim h1 N vs h).1 (by rw [hN']; exact hne)
    refine ⟨max N N2, fun n hn => ?_⟩
    have h3 := hN2 n (by omega)
    (try dsimp only at h3 ⊢)
    rw [← fixM_mono' (hFs n) (show N ≤ n by omega) vs h (by rw [h3, hN']; exact hne), h3, hN']
  · (try dsimp only at hne ⊢)
    have h2 := fixM_le h1 n n vs h hne
    rw [h2]
    exact (fixW_lim hF vs h).2 n (by (try dsimp only); rw [← h2]; exact hne)
theorem fixC_W : FixC (fixW (ρ := ρ)) := by
  intro F Fs h1 hF hFs vs h
  refine ⟨fun hne => ?_, fun n hne => ?_⟩
  · obtain ⟨N, hN⟩ := (fixW_lim hF vs h).1 hne
    have hN' := hN N (Nat.le_refl _)
    (try dsimp only at hN')
    obtain ⟨N2, hN2⟩ := (fixM_lim h1 N vs h).1 (by rw [hN']; exact hne)
    refine ⟨N2, fun n hn => ?_⟩
    have h3 := hN2 n hn
    (try dsimp only at h3 ⊢)
    have := (fixW_lim (hFs n) vs h).2 N (by (try dsimp only); rw [h3, hN']; exact hne)
    (try dsimp only at this)
    rw [← this, h3, hN']
  · (try dsimp only at hne ⊢)
    obtain ⟨N, hN⟩ := (fixW_lim (hFs n) vs h).1 hne
    have hN' := hN N (Nat.le_refl _)
    (try dsimp only at hN')
    have h2 := fixM_le h1 n N vs h (by rw [hN']; exact hne)
    rw [← hN', h2]
    exact (fixW_lim hF vs h).2 N (by (try dsimp only); rw [← h2, hN']; exact hne)
theorem fixC_M (m : Nat) : FixC (fixM (α := ρ) m) := fun F Fs h1 hF hFs => fixM_lim h1 m
theorem fixRel_step (m : Nat) : FixRel (fixM (α := ρ) (m + 1)) fun n => if n = 0 then fixM m else fixM (m + 1) := by
  intro F Fs h1 hF hFs vs h
  refine ⟨fun hne => ?_, fun n hne => ?_⟩
  · obtain ⟨N, hN⟩ := (fixM_lim h1 (m + 1) vs h).1 hne
    refine ⟨max N 1, fun n hn => ?_⟩
    (try dsimp only)
    rw [if_neg (by omega)]
    exact hN n (by omega)
  · (try dsimp only at hne ⊢)
    by_cases h0 : n = 0
    · rw [if_pos h0] at hne ⊢
      exact ((fixM_le h1 n m vs).trans (fixM_mono hF m vs)) h hne
    · rw [if_neg h0] at hne ⊢
      exact fixM_le h1 n (m + 1) vs h hne
end
end Go.Av

/- The limit of growing fuel: code. Condition: the functions that are known by other means are continuous. -/
namespace Go.Av

def Cx.wc (cx : Cx) (call : FuncId → List AV → M AV) : Cx := { cx with call }

def ActLim (A : Act1) (As : Nat → Act1) : Prop :=
  (∀ n, As n = A) ∨ ∃ m ms sh, A = .dyn m sh ∧ (∀ n, As n = .dyn (ms n) sh) ∧ LimM m ms

section
variable {ρ : Type} {cx : Cx} {call : FuncId → List AV → M AV} {calls : Nat → FuncId → List AV → M AV}

theorem opCall_lim (hc : ∀ f, LimF (call f) fun n => calls n f) (e : Env) (gid : Nat) (o : Oper) (c : Call) : ActLim (opCall (cx.wc call) e gid o c) fun n => opCall (cx.wc (calls n)) e gid o c := by
  unfold opCall
  cases c.callee with
  | invoke r m => exact .inl fun n => rfl
  | builtin b => cases b <;> exact .inl fun n => rfl
  | value x =>
    have hv : ActLim (.dyn (callV call (opnd e x) (c.args.toList.map (opnd e))) .ofV) fun n => .dyn (callV (calls n) (opnd e x) (c.args.toList.map (opnd e))) .ofV := by
      refine .inr ⟨_, _, _, rfl, fun n => rfl, ?_⟩
      unfold callV
      split
      · exact hc _ _
      · exact LimM.const _
    cases x with
    | func f =>
      have h0 : ActLim (.dyn (call f (c.args.toList.map (opndT (memO cx.ann.hb o.dst) e))) fun v => match cx.own f with | some sz => .own v gid (some sz) | none => .ofV v) fun n => .dyn (calls n f (c.args.toList.map (opndT (memO cx.ann.hb o.dst) e))) fun v => match cx.own f with | some sz => .own v gid (some sz) | none => .ofV v :=
        .inr ⟨_, _, _, rfl, fun n => rfl, hc _ _⟩
      have key2 : ∀ (b : Bool) (A B : Act1) (As Bs : Nat → Act1), ActLim A As → ActLim B Bs → ActLim (bif b then A else B) fun n => bif b then As n else Bs n := by
        intro b A B As Bs hA hB
        cases b with
        | true => exact hA
        | false => exact hB
      have key : ∀ b : Bool, ActLim (bif b then .dyn (bnd (call f (c.args.toList.map (opnd e))) fzM) .ofV else .bad) fun n => bif b then .dyn (bnd (calls n f (c.args.toList.map (opnd e))) fzM) .ofV else .bad := by
        intro b
        cases b with
        | false => exact .inl fun n => rfl
        | true => exact .inr ⟨_, _, _, rfl, fun n => rfl, (hc _ _).bnd (LimF.const _)⟩
      exact key2 (memO cx.ann.fz o.dst) _ _ _ _ (key (!(cx.iso f) && !(cx.nw f) && (cx.own f).isNone)) h0
    | tmp t => exact hv
    | const t => exact hv
    | global t => exact hv

theorem opD_lim (hc : ∀ f, LimF (call f) fun n => calls n f) (e : Env) (gid : Nat) (o : Oper) : ActLim (opD (cx.wc call) e gid o) fun n => opD (cx.wc (calls n)) e gid o := by
  unfold opD
  cases o.op <;> first | exact .inl fun n => rfl | exact opCall_lim hc e gid o _

theorem stripA_lim {A : Act1} {As : Nat → Act1} (h : ActLim A As) : ActLim (stripA A) fun n => stripA (As n) := by
  rcases h with h | ⟨m, ms, sh, rfl, h2, h3⟩
  · exact .inl fun n => by (try dsimp only); rw [h]
  · exact .inr ⟨m, ms, _, rfl, fun n => by (try dsimp only); rw [h2]; rfl, h3⟩

theorem evAct_lim {A : Act1} {As : Nat → Act1} (h : ActLim A As) {k : Env → M ρ} {ks : Nat → Env → M ρ} (hk : LimF k ks) (e : Env) (d : Option Tmp) : LimM (evAct e d A k) fun n => evAct e d (As n) (ks n) := by
  rcases h with h | ⟨m, ms, sh, rfl, h2, h3⟩
  · have : (fun n => evAct e d (As n) (ks n)) = fun n => evAct e d A (ks n) := by funext n; rw [h]
    rw [this]
    cases A with
    | bad => exact LimM.const _
    | stat u => exact hk _
    | dyn m sh => exact (LimM.const m).bnd fun v => hk _
    | thr v => exact LimM.const _
  · have : (fun n => evAct e d (As n) (ks n)) = fun n => evAct e d (.dyn (ms n) sh) (ks n) := by funext n; rw [h2]
    rw [this]
    exact h3.bnd fun v => hk _

theorem evRun_lim (hc : ∀ f, LimF (call f) fun n => calls n f) (base : Nat) (ops : Array Oper) (st : Bool) : ∀ (is : List Nat) (e : Env) (k : Env → M ρ) (ks : Nat → Env → M ρ), LimF k ks →
    LimM (evRun (cx.wc call) base ops st is e k) fun n => evRun (cx.wc (calls n)) base ops st is e (ks n)
  | [], e, k, ks, hk => hk e
  | i :: is, e, k, ks, hk => by
    simp only [evRun]
    cases ops[i]? with
    | none => exact LimM.const _
    | some o =>
      simp only
      refine evAct_lim ?_ (fun e' => evRun_lim hc base ops st is e' k ks hk) e o.dst
      cases st with
      | true => exact stripA_lim (opD_lim hc e _ o)
      | false => exact opD_lim hc e _ o

theorem guardM_lim {c : AV} {want : Bool} {k : Nat} {m : M (List AV)} {ms : Nat → M (List AV)} (h : LimM m ms) : LimM (guardM c want k m) fun n => guardM c want k (ms n) := by
  unfold guardM
  cases c with
  | bool b =>
    simp only
    cases b == want with
    | true => exact h
    | false => exact LimM.const _
  | tup vs => cases vs <;> exact LimM.const _
  | _ => exact LimM.const _

theorem evGrps_lim (hc : ∀ f, LimF (call f) fun n => calls n f) (base : Nat) (ops : Array Oper) : ∀ (gs : List (Option (Nat × Bool) × List Nat)) (e : Env) (k : Env → M ρ) (ks : Nat → Env → M ρ), LimF k ks →
    LimM (evGrps (cx.wc call) base ops gs e k) fun n => evGrps (cx.wc (calls n)) base ops gs e (ks n)
  | [], e, k, ks, hk => hk e
  | (none, is) :: gs, e, k, ks, hk => by
    simp only [evGrps]
    exact evRun_lim hc base ops false is e _ _ fun e' => evGrps_lim hc base ops gs e' k ks hk
  | (some (j, want), is) :: gs, e, k, ks, hk => by
    simp only [evGrps]
    cases dstOf ops j with
    | none => exact LimM.const _
    | some t =>
      simp only
      have hp : ∀ c, (is.all fun i => match ops[i]? with | some o => plainOp (cx.wc c) o && o.dst.isSome | none => false) = (is.all fun i => match ops[i]? with | some o => plainOp cx o && o.dst.isSome | none => false) := fun c => rfl
      have key : ∀ b : Bool, LimM (bif b then bnd (guardM (e.av t) want (outsOf ops is gs).length (evRun (cx.wc call) base ops true is e fun e' => bif (outsOf ops is gs).all (fun t => isValE (e'.get t)) then M.pure ((outsOf ops is gs).map e'.av) else M.fail)) fun vs =>
          evGrps (cx.wc call) base ops gs (setOuts (forget e (dstsOf ops is)) vs 0 (outsOf ops is gs)) k else M.fail) fun n => (bif b then bnd (guardM (e.av t) want (outsOf ops is gs).length (evRun (cx.wc (calls n)) base ops true is e fun e' => bif (outsOf ops is gs).all (fun t => isValE (e'.get t)) then M.pure ((outsOf ops is gs).map e'.av) else M.fail)) fun vs =>
          evGrps (cx.wc (calls n)) base ops gs (setOuts (forget e (dstsOf ops is)) vs 0 (outsOf ops is gs)) (ks n) else M.fail) := by
        intro b
        cases b with
        | false => exact LimM.const _
        | true => exact (guardM_lim (evRun_lim hc base ops true is e _ _ (LimF.const _))).bnd fun vs => evGrps_lim hc base ops gs _ k ks hk
      exact key _

theorem noPan_lim {α : Type} {m : M α} {ms : Nat → M α} (h : LimM m ms) : LimM (noPan m) fun n => noPan (ms n) := by
  intro x
  obtain ⟨h1, h2⟩ := h x
  refine ⟨fun hne => ?_, fun n hne => ?_⟩
  · have hne' : m x ≠ .fail := fun hf => hne (by simp only [noPan, hf])
    obtain ⟨N, hN⟩ := h1 hne'
    exact ⟨N, fun n hn => by have := hN n hn; (try dsimp only at this ⊢); simp only [noPan, this]⟩
  · (try dsimp only at hne ⊢)
    have hne' : ms n x ≠ .fail := fun hf => hne (by simp only [noPan, hf])
    have := h2 n hne'
    (try dsimp only at this)
    simp only [noPan, this]

theorem cxDraw_lim (hc : ∀ f, LimF (call f) fun n => calls n f) : ∀ f, LimF ((cxDraw (cx.wc call)).call f) fun n => (cxDraw (cx.wc (calls n))).call f := by
  intro f args
  show LimM (bif cx.iso f then noPan (call f args) else call f args) fun n => (bif cx.iso f then noPan (calls n f args) else calls n f args)
  cases cx.iso f with
  | true => exact noPan_lim (hc f args)
  | false => exact hc f args

theorem footOf_wc (c : FuncId → List AV → M AV) (o : Oper) : footOf (cx.wc c) o = footOf cx o := rfl
theorem indep_wc (c : FuncId → List AV → M AV) (ops : Array Oper) (i j : Nat) : indep (cx.wc c) ops i j = indep cx ops i j := rfl
theorem pairsOk_wc (c : FuncId → List AV → M AV) (ops : Array Oper) (bf : List Nat) : ∀ l, pairsOk (cx.wc c) ops bf l = pairsOk cx ops bf l
  | [] => rfl
  | i :: is => by simp only [pairsOk, pairsOk_wc c ops bf is, indep_wc]
theorem drawOk_wc (c : FuncId → List AV → M AV) (ops : Array Oper) (ord : List Nat) : drawOk (cx.wc c) ops ord = drawOk cx ops ord := by
  unfold drawOk; rw [pairsOk_wc]

theorem evReg_lim (hc : ∀ f, LimF (call f) fun n => calls n f) (id : Nat) (ops : Array Oper) (draw : Bool) (e : Env) {k : Env → M ρ} {ks : Nat → Env → M ρ} (hk : LimF k ks) :
    LimM (evReg (cx.wc call) id ops draw e k) fun n => evReg (cx.wc (calls n)) id ops draw e (ks n) := by
  unfold evReg
  simp only [drawOk_wc]
  have hk' : LimF (fun e' : Env => k { e' with nx := e.nx + ops.size }) fun n e' => ks n { e' with nx := e.nx + ops.size } := fun e' => hk _
  have key : ∀ b1 b2 : Bool, LimM (bif b1 then (bif draw then (bif b2 then evGrps (cxDraw (cx.wc call)) e.nx ops (groupsOf ops (ordOf cx id ops.size)) e fun e' => k { e' with nx := e.nx + ops.size } else M.fail)
      else evGrps (cx.wc call) e.nx ops (groupsOf ops (List.range ops.size)) e fun e' => k { e' with nx := e.nx + ops.size }) else M.fail) fun n => (bif b1 then (bif draw then (bif b2 then evGrps (cxDraw (cx.wc (calls n))) e.nx ops (groupsOf ops (ordOf cx id ops.size)) e fun e' => ks n { e' with nx := e.nx + ops.size } else M.fail)
      else evGrps (cx.wc (calls n)) e.nx ops (groupsOf ops (List.range ops.size)) e fun e' => ks n { e' with nx := e.nx + ops.size }) else M.fail) := by
    intro b1 b2
    cases b1 with
    | false => exact LimM.const _
    | true =>
      cases draw with
      | false => exact evGrps_lim hc _ _ _ _ _ _ hk'
      | true =>
        cases b2 with
        | false => exact LimM.const _
        | true => exact evGrps_lim (cx := cx) (call := (cxDraw (cx.wc call)).call) (calls := fun n => (cxDraw (cx.wc (calls n))).call) (cxDraw_lim hc) _ _ _ _ _ _ hk'
  exact key (dstsSmall cx.nt ops) (drawOk cx ops (ordOf cx id ops.size))

theorem toJ_lim {ja : JA} {j : List AV → M ρ} {js : Nat → List AV → M ρ} (h : LimF j js) (e : Env) : LimM (toJ ja j e) fun n => toJ ja (js n) e := by
  unfold toJ
  cases pack ja e with
  | none => exact LimM.const _
  | some vs =>
    simp only
    cases ja.fz with
    | true => simp only [cond_true]; exact (LimM.const (fzL vs)).bnd h
    | false => exact h vs

theorem ev_lim : ∀ (n : Nat) (code : Code), SizeOf.sizeOf code < n → ∀ (call : FuncId → List AV → M AV) (calls : Nat → FuncId → List AV → M AV) (fx : Fix ρ) (fxs : Nat → Fix ρ), (∀ f, LimF (call f) fun n => calls n f) → FixRel fx fxs → FixC fx → (∀ n, FixC (fxs n)) →
    ∀ (e : Env) (kn : Env → M ρ) (kns : Nat → Env → M ρ) (kx : Nat → Env → M ρ) (kxs : Nat → Nat → Env → M ρ) (kr : Env → M ρ) (krs : Nat → Env → M ρ), LimF kn kns → (∀ i, LimF (kx i) fun n => kxs n i) → LimF kr krs →
    LimM (ev (cx.wc call) fx code e kn kx kr) fun n => ev (cx.wc (calls n)) (fxs n) code e (kns n) (kxs n) (krs n) := by
  intro n
  induction n with
  | zero => intro code hn; omega
  | succ n ih =>
    intro code hn call calls fx fxs hc hfx hfc hfcs e kn kns kx kxs kr krs hkn hkx hkr
    cases code <;> (try exact LimM.const _)
    case skip => exact hkn e
    case exit id => exact hkx id e
    case ret => exact hkr e
    case region id ops draw => exact evReg_lim hc id ops draw e hkn
    case seq x y =>
      have hx : SizeOf.sizeOf x < n := by simp at hn; omega
      have hy : SizeOf.sizeOf y < n := by simp at hn; omega
      simp only [ev]
      have hya : ∀ e, LimM (ev (cx.wc call) fx y e kn kx kr) fun n => ev (cx.wc (calls n)) (fxs n) y e (kns n) (kxs n) (krs n) := fun e => ih y hy call calls fx fxs hc hfx hfc hfcs e kn kns kx kxs kr krs hkn hkx hkr
      have key : ∀ oj : Option JA, LimM (match oj with | some ja => jn (fun vs => ev (cx.wc call) fx y (unpack ja vs) kn kx kr) fun j => ev (cx.wc call) fx x e (toJ ja j) kx kr | none => ev (cx.wc call) fx x e (fun e' => ev (cx.wc call) fx y e' kn kx kr) kx kr)
          fun n => (match oj with | some ja => jn (fun vs => ev (cx.wc (calls n)) (fxs n) y (unpack ja vs) (kns n) (kxs n) (krs n)) fun j => ev (cx.wc (calls n)) (fxs n) x e (toJ ja j) (kxs n) (krs n) | none => ev (cx.wc (calls n)) (fxs n) x e (fun e' => ev (cx.wc (calls n)) (fxs n) y e' (kns n) (kxs n) (krs n)) (kxs n) (krs n)) := by
        intro oj
        cases oj with
        | none => exact ih x hx call calls fx fxs hc hfx hfc hfcs e _ (fun n e' => ev (cx.wc (calls n)) (fxs n) y e' (kns n) (kxs n) (krs n)) kx kxs kr krs hya hkx hkr
        | some ja => exact ih x hx call calls fx fxs hc hfx hfc hfcs e _ (fun n => toJ ja fun vs => ev (cx.wc (calls n)) (fxs n) y (unpack ja vs) (kns n) (kxs n) (krs n)) kx kxs kr krs (fun e' => toJ_lim (fun vs => hya _) e') hkx hkr
      have h := key (match condKey x with | some t => findJ cx.ann.joins t | none => none)
      exact h
    case cond o x y =>
      have hx : SizeOf.sizeOf x < n := by simp at hn; omega
      have hy : SizeOf.sizeOf y < n := by simp at hn; omega
      cases o <;> (try exact LimM.const _)
      case const v =>
        simp only [ev]
        cases cA v with
        | bool b =>
          cases b with
          | true => exact ih x hx call calls fx fxs hc hfx hfc hfcs e kn kns kx kxs kr krs hkn hkx hkr
          | false => exact ih y hy call calls fx fxs hc hfx hfc hfcs e kn kns kx kxs kr krs hkn hkx hkr
        | _ => exact LimM.const _
      rename_i t
      simp only [ev]
      cases decide (t < 1000) with
      | false => exact LimM.const _
      | true =>
        simp only [cond_true]
        cases e.av t with
        | bool b =>
          cases b with
          | true => exact ih x hx call calls fx fxs hc hfx hfc hfcs e kn kns kx kxs kr krs hkn hkx hkr
          | false => exact ih y hy call calls fx fxs hc hfx hfc hfcs e kn kns kx kxs kr krs hkn hkx hkr
        | _ => exact LimM.const _
    case block id code =>
      have hbx : ∀ (kx : Nat → Env → M ρ) (kxs : Nat → Nat → Env → M ρ) (kn : Env → M ρ) (kns : Nat → Env → M ρ), (∀ i, LimF (kx i) fun n => kxs n i) → LimF kn kns → ∀ i, LimF (fun e' => bif Nat.beq i id then kn e' else kx i e') fun n e' => bif Nat.beq i id then kns n e' else kxs n i e' := by
        intro kx kxs kn kns hkx hkn i e'
        (try dsimp only)
        cases Nat.beq i id with
        | true => exact hkn e'
        | false => exact hkx i e'
      by_cases hcl : ∃ b, code = .loop b
      · obtain ⟨b, rfl⟩ := hcl
        have hb : SizeOf.sizeOf b < n := by simp at hn; omega
        have key : ∀ oj : Option JA, LimM (match oj with | none => M.fail | some ja => toJ ja (fx fun self vs => ev (cx.wc call) fx b (unpack ja vs) (toJ ja self) (fun i e' => bif Nat.beq i id then kn e' else kx i e') kr) e)
            fun n => (match oj with | none => M.fail | some ja => toJ ja (fxs n fun self vs => ev (cx.wc (calls n)) (fxs n) b (unpack ja vs) (toJ ja self) (fun i e' => bif Nat.beq i id then kns n e' else kxs n i e') (krs n)) e) := by
          intro oj
          cases oj with
          | none => exact LimM.const _
          | some ja =>
            refine toJ_lim (hfx _ (fun n self vs => ev (cx.wc (calls n)) (fxs n) b (unpack ja vs) (toJ ja self) (fun i e' => bif Nat.beq i id then kns n e' else kxs n i e') (krs n)) ?_ ?_ ?_) e
            · intro self selfs hs vs
              exact ih b hb call calls fx fxs hc hfx hfc hfcs (unpack ja vs) _ (fun n => toJ ja (selfs n)) _ (fun n i e' => bif Nat.beq i id then kns n e' else kxs n i e') kr krs (fun e' => toJ_lim hs e') (hbx kx kxs kn kns hkx hkn) hkr
            · intro self selfs hs vs
              exact ih b hb call (fun _ => call) fx (fun _ => fx) (fun f => LimF.const _) hfc hfc (fun _ => hfc) (unpack ja vs) _ (fun n => toJ ja (selfs n)) _ (fun n i e' => bif Nat.beq i id then kn e' else kx i e') kr (fun _ => kr) (fun e' => toJ_lim hs e') (fun i => LimF.const _) (LimF.const _)
            · intro m self selfs hs vs
              exact ih b hb (calls m) (fun _ => calls m) (fxs m) (fun _ => fxs m) (fun f => LimF.const _) (hfcs m) (hfcs m) (fun _ => hfcs m) (unpack ja vs) _ (fun n => toJ ja (selfs n)) _ (fun n i e' => bif Nat.beq i id then kns m e' else kxs m i e') (krs m) (fun _ => krs m) (fun e' => toJ_lim hs e') (fun i => LimF.const _) (LimF.const _)
        exact key (findJ cx.ann.loops id)
      · have hs : SizeOf.sizeOf code < n := by simp at hn; omega
        have hev : ∀ (cx : Cx) (fx : Fix ρ) (kn : Env → M ρ) (kx : Nat → Env → M ρ) (kr : Env → M ρ), ev cx fx (.block id code) e kn kx kr = ev cx fx code e kn (fun i e' => bif Nat.beq i id then kn e' else kx i e') kr := by
          intro cx fx kn kx kr
          cases code <;> first | rfl | exact absurd ⟨_, rfl⟩ hcl
        rw [hev]
        have : (fun n => ev (cx.wc (calls n)) (fxs n) (.block id code) e (kns n) (kxs n) (krs n)) = fun n => ev (cx.wc (calls n)) (fxs n) code e (kns n) (fun i e' => bif Nat.beq i id then kns n e' else kxs n i e') (krs n) := by
          funext n; exact hev _ _ _ _ _
        rw [this]
        exact ih code hs call calls fx fxs hc hfx hfc hfcs e kn kns _ (fun n i e' => bif Nat.beq i id then kns n e' else kxs n i e') kr krs hkn (hbx kx kxs kn kns hkx hkn) hkr
end
end Go.Av

/- Calls without fuel. Conditions: the program is good; the functions that are known by other means are continuous. -/
namespace Go.Av

theorem isoM_lim {m : List AV → M AV} {ms : Nat → List AV → M AV} (h : LimF m ms) (args : List AV) : LimM (isoM m args) fun n => isoM (ms n) args := by
  intro x
  obtain ⟨h1, h2⟩ := h (cls noHs args) []
  (try dsimp only at h1 h2)
  refine ⟨fun hne => ?_, fun n hne => ?_⟩
  · have hne' : m (cls noHs args) [] ≠ .fail := fun hf => hne (by simp only [isoM, hf])
    obtain ⟨N, hN⟩ := h1 hne'
    refine ⟨N, fun n hn => ?_⟩
    (try dsimp only)
    simp only [isoM, hN n hn]
  · (try dsimp only at hne ⊢)
    have hne' : ms n (cls noHs args) [] ≠ .fail := fun hf => hne (by simp only [isoM, hf])
    simp only [isoM, h2 n hne']

/-- The functions that are known by other means are continuous. -/
def OtherLim (p : Pg) : Prop := ∀ f E, p.other f = some E → ∀ (call : FuncId → List AV → M AV) (calls : Nat → FuncId → List AV → M AV), (∀ f, LimF (call f) fun n => calls n f) → LimF (E call) fun n => E (calls n)

section
variable {cx : Cx} {call : FuncId → List AV → M AV} {calls : Nat → FuncId → List AV → M AV} {fx : Fix AV} {fxs : Nat → Fix AV}

theorem evBody_lim (hc : ∀ f, LimF (call f) fun n => calls n f) (hfx : FixRel fx fxs) (hfc : FixC fx) (hfcs : ∀ n, FixC (fxs n)) (fn : Func) (own : Option Nat) :
    LimF (evBody (cx.wc call) fx fn own) fun n => evBody (cx.wc (calls n)) (fxs n) fn own := by
  intro args
  unfold evBody
  cases fn.body with
  | none => exact LimM.const _
  | some c =>
    have key : ∀ b : Bool, LimM (bif b then ev (cx.wc call) fx c (env0 args) (retK (cx.wc call) fn own) (fun _ _ => M.fail) (retK (cx.wc call) fn own) else M.fail) fun n => (bif b then ev (cx.wc (calls n)) (fxs n) c (env0 args) (retK (cx.wc (calls n)) fn own) (fun _ _ => M.fail) (retK (cx.wc (calls n)) fn own) else M.fail) := by
      intro b
      cases b with
      | false => exact LimM.const _
      | true =>
        have hr : LimF (retK (cx.wc call) fn own) fun n => retK (cx.wc (calls n)) fn own := LimF.const (retK cx fn own)
        exact ev_lim _ c (Nat.lt_succ_self _) call calls fx fxs hc hfx hfc hfcs (env0 args) _ (fun n => retK (cx.wc (calls n)) fn own) _ (fun _ _ _ => M.fail) _ (fun n => retK (cx.wc (calls n)) fn own) hr (fun i => LimF.const _) hr
    exact key (decide (args.length ≤ fn.ntmps) && decide (fn.ntmps ≤ 1000) && kindsOk cx.nt cx.ann.kinds)

theorem evFun_lim {p : Pg} (hO : OtherLim p) (hc : ∀ f, LimF (call f) fun n => calls n f) (hfx : FixRel fx fxs) (hfc : FixC fx) (hfcs : ∀ n, FixC (fxs n)) (f : FuncId) : LimF (evFun p call fx f) fun n => evFun p (calls n) (fxs n) f := by
  intro args
  unfold evFun
  cases ho : p.other f with
  | some E => exact hO f E ho call calls hc args
  | none =>
    simp only
    cases p.funcs f with
    | none => exact LimM.const _
    | some x =>
      obtain ⟨fn, a⟩ := x
      simp only
      have hb := evBody_lim (cx := p.cx call fn.ntmps a) hc hfx hfc hfcs fn (p.own f)
      cases a.iso with
      | true => exact isoM_lim hb args
      | false => exact hb args
end

theorem evCall_mono {p : Pg} (hO : OtherLim p) : ∀ n f args, LeM (evCall p n f args) (evCall p (n + 1) f args)
  | 0, f, args => fun x hne => absurd rfl hne
  | n + 1, f, args => by
    have hc : ∀ f, LimF (evCall p (n + 1) f) fun m => (if m = 0 then evCall p n else evCall p (n + 1)) f := by
      intro f args x
      refine ⟨fun _ => ⟨1, fun m hm => ?_⟩, fun m hne => ?_⟩
      · (try dsimp only)
        rw [if_neg (by omega)]
      · (try dsimp only at hne ⊢)
        by_cases h0 : m = 0
        · rw [if_pos h0] at hne ⊢; exact evCall_mono hO n f args x hne
        · rw [if_neg h0]
    have h := evFun_lim hO hc (fixRel_step n) (fixC_M (n + 1)) (fun m => by
      by_cases h0 : m = 0
      · rw [if_pos h0]; exact fixC_M n
      · rw [if_neg h0]; exact fixC_M (n + 1)) f args
    intro x hne
    have := (h x).2 0
    (try dsimp only at this)
    rw [if_pos rfl, if_pos rfl] at this
    exact this hne
theorem evCall_mono' {p : Pg} (hO : OtherLim p) {n m : Nat} (h : n ≤ m) (f : FuncId) (args : List AV) : LeM (evCall p n f args) (evCall p m f args) := by
  induction m with
  | zero => have : n = 0 := by omega
            subst this; exact .refl _
  | succ m ih =>
    by_cases hn : n = m + 1
    · subst hn; exact .refl _
    · exact (ih (by omega)).trans (evCall_mono hO m f args)

open Classical in
/-- A call, with as much fuel as it needs. -/
noncomputable def callW (p : Pg) (f : FuncId) (args : List AV) : M AV := fun h => if hx : ∃ n, evCall p n f args h ≠ .fail then evCall p (Classical.choose hx) f args h else .fail

theorem callW_lim {p : Pg} (hO : OtherLim p) (f : FuncId) : LimF (callW p f) fun n => evCall p n f := by
  intro args h
  refine chain_lim (fun n m hnm hne => evCall_mono' hO hnm f args h hne) ?_
  unfold callW
  by_cases hx : ∃ n, evCall p n f args h ≠ .fail
  · left
    simp only [dif_pos hx]
    exact ⟨_, Classical.choose_spec hx, rfl⟩
  · right
    simp only [dif_neg hx]
    exact ⟨fun n => Classical.byContradiction fun h => hx ⟨n, h⟩, trivial⟩

theorem IsLim.uniq {α : Type} {a a' : R α} {b : Nat → R α} (h : IsLim a b) (g : IsLim a' fun n => b (n + 1)) : a = a' := by
  by_cases ha : a = .fail
  · by_cases ha' : a' = .fail
    · rw [ha, ha']
    · obtain ⟨N, hN⟩ := g.1 ha'
      have h1 := hN N (Nat.le_refl _)
      (try dsimp only at h1)
      exact (h.2 (N + 1) (by rw [h1]; exact ha')).symm.trans h1
  · obtain ⟨N, hN⟩ := h.1 ha
    have h1 := hN (N + 1) (by omega)
    have h2 := g.2 N
    (try dsimp only at h2)
    exact h1.symm.trans (h2 (by rw [h1]; exact ha))

/-- The equation of a call. -/
theorem callW_eq {p : Pg} (hO : OtherLim p) (f : FuncId) (args : List AV) : callW p f args = evFun p (callW p) fixW f args := by
  funext h
  have h1 := callW_lim hO f args h
  have h2 := evFun_lim hO (fun f => callW_lim hO f) fixRel_fuel fixC_W (fun n => fixC_M n) f args h
  exact h1.uniq h2

/-- Every call is right. -/
theorem callW_sound [Dr] {P : Program} {p : Pg} (G : GoodPg P p) (hO : OtherLim p) : CallsOK P p.own (callW p) := by
  intro f args h S β w vs hr hg hw hh hv
  obtain ⟨N, hN⟩ := (callW_lim hO f args h).1 hr
  have h1 := hN N (Nat.le_refl _)
  (try dsimp only at h1)
  rw [← h1] at hr ⊢
  exact evCall_sound G N f args h S β w vs hr hg hw hh hv
/-- What a call with some fuel gives. -/
theorem callW_of {p : Pg} (hO : OtherLim p) {n : Nat} {f : FuncId} {args : List AV} {h : Hp} {r : R AV} (hr : evCall p n f args h = r) (hne : r ≠ .fail) : callW p f args h = r := by
  have := (callW_lim hO f args h).2 n (by (try dsimp only); rw [hr]; exact hne)
  (try dsimp only at this)
  rw [← this, hr]
end Go.Av

/- Loops without fuel. No condition. -/
namespace Go.Av

section
variable {ρ : Type}
theorem contC_of {F : (List AV → M ρ) → List AV → M ρ} (h : ∀ self selfs, LimF self selfs → ∀ vs, LimM (F self vs) fun n => F (selfs n) vs) : ContC F := h
/-- The equation of a loop. -/
theorem fixW_eq {F : (List AV → M ρ) → List AV → M ρ} (hF : ContC F) (vs : List AV) : fixW F vs = F (fixW F) vs := by
  funext h
  exact (fixW_lim hF vs h).uniq (hF _ _ (fixW_lim hF) vs h)
theorem condM_lim {c : AV} {x y : M ρ} {xs ys : Nat → M ρ} (hx : LimM x xs) (hy : LimM y ys) : LimM (condM c x y) fun n => condM c (xs n) (ys n) := by
  unfold condM
  cases c with
  | bool b => cases b <;> first | exact hx | exact hy
  | _ => exact LimM.const _
theorem jn_lim {k : List AV → M ρ} {ks : Nat → List AV → M ρ} {m : (List AV → M ρ) → M ρ} {ms : Nat → (List AV → M ρ) → M ρ} (hk : LimF k ks) (hm : ∀ j js, LimF j js → LimM (m j) fun n => ms n (js n)) : LimM (jn k m) fun n => jn (ks n) (ms n) :=
  hm k ks hk
theorem fixW_limF {F : (List AV → M ρ) → List AV → M ρ} {Fs : Nat → (List AV → M ρ) → List AV → M ρ} (h1 : Cont1 F Fs) (h2 : ContC F) (h3 : ∀ n, ContC (Fs n)) : LimF (fixW F) fun n => fixW (Fs n) := fixC_W F Fs h1 h2 h3
/-- The loops of a body. -/
theorem ev_contC (cx : Cx) (b : Code) (ja : JA) (kx : Nat → Env → M ρ) (kr : Env → M ρ) : ContC fun self vs => ev cx fixW b (unpack ja vs) (toJ ja self) kx kr := by
  intro self selfs hs vs
  exact ev_lim (cx := cx) _ b (Nat.lt_succ_self _) cx.call (fun _ => cx.call) fixW (fun _ => fixW) (fun f => LimF.const _) fixC_W fixC_W (fun _ => fixC_W) (unpack ja vs) _ (fun n => toJ ja (selfs n)) kx (fun _ => kx) kr (fun _ => kr) (fun e => toJ_lim hs e) (fun i => LimF.const _) (LimF.const _)
end
end Go.Av

/- Shallow programs: what a call is, once the evaluator has gone over the code. No condition. -/
namespace Go.Av

/-- An isolated body. -/
def isoP (m : M AV) : M AV := fun h => match m [] with
  | .ok r h' => .ok (frz 6 h' r) h
  | .pan v h' => .pan (frz 6 h' v) h
  | .fail => .fail
theorem isoM_eq (m : List AV → M AV) (args : List AV) : isoM m args = isoP (m (cls noHs args)) := rfl

theorem callW_iso {p : Pg} (hO : OtherLim p) {f : FuncId} {fn : Func} {a : Ann} (h1 : p.other f = none) (h2 : p.funcs f = some (fn, a)) (h3 : a.iso = true) (args : List AV) :
    callW p f args = isoP (evBody (p.cx (callW p) fn.ntmps a) fixW fn (p.own f) (cls noHs args)) := by
  rw [callW_eq hO]
  unfold evFun
  rw [h1]
  simp only
  rw [h2]
  simp only [h3, cond_true]
  rfl
theorem callW_heap {p : Pg} (hO : OtherLim p) {f : FuncId} {fn : Func} {a : Ann} (h1 : p.other f = none) (h2 : p.funcs f = some (fn, a)) (h3 : a.iso = false) (args : List AV) :
    callW p f args = evBody (p.cx (callW p) fn.ntmps a) fixW fn (p.own f) args := by
  rw [callW_eq hO]
  unfold evFun
  rw [h1]
  simp only
  rw [h2]
  simp only [h3, cond_false]
theorem callW_other {p : Pg} (hO : OtherLim p) {f : FuncId} {E : (FuncId → List AV → M AV) → List AV → M AV} (h1 : p.other f = some E) (args : List AV) : callW p f args = E (callW p) args := by
  rw [callW_eq hO]
  unfold evFun
  rw [h1]

/-- slices.Clone, by value and into the heap. -/
def cloneV (T : TT) (t : TypeId) : (FuncId → List AV → M AV) → List AV → M AV := fun _ args => match args with
  | [.sl es] => lft (appA T t (.sl []) (.sl es))
  | _ => M.fail
def cloneH (T : TT) (t : TypeId) : (FuncId → List AV → M AV) → List AV → M AV := fun _ args => match args with
  | [.sl es] => appH T t true (.sl []) (.sl es)
  | _ => M.fail
/-- A call whose panic with a value of type t is caught: the value and no error, or the zero value and the error. -/
def tryP (t : TypeId) (k : IntKind) (zero : AV) : R AV → R AV
  | .ok v h' => bif okEl 4 v then .ok (.tup [.agg (acells v), .int k 0]) h' else .fail
  | .pan (.iface t' (.int k' n)) h' => bif Nat.beq t' t && decide (k' = k) then .ok (.tup [zero, .int k n]) h' else .fail
  | _ => .fail
def tryE (t : TypeId) (k : IntKind) (zero : AV) : (FuncId → List AV → M AV) → List AV → M AV := fun call args => match args with
  | [f] => fun h => tryP t k zero (callV call f [] h)
  | _ => M.fail

theorem post_lim {m : M AV} {ms : Nat → M AV} (p : R AV → R AV) (hp : p .fail = .fail) (h : LimM m ms) : LimM (fun x => p (m x)) fun n => fun x => p (ms n x) := by
  intro x
  obtain ⟨h1, h2⟩ := h x
  constructor
  · intro hne
    obtain ⟨N, hN⟩ := h1 (fun hh => hne (by simp only [hh, hp]))
    exact ⟨N, fun n hn => congrArg p (hN n hn)⟩
  · intro n hne
    exact congrArg p (h2 n (fun hh => hne (by have := congrArg p hh; simpa [hp] using this)))
theorem cloneV_lim (T : TT) (t : TypeId) (call : FuncId → List AV → M AV) (calls : Nat → FuncId → List AV → M AV) : LimF (cloneV T t call) fun n => cloneV T t (calls n) := LimF.const _
theorem cloneH_lim (T : TT) (t : TypeId) (call : FuncId → List AV → M AV) (calls : Nat → FuncId → List AV → M AV) : LimF (cloneH T t call) fun n => cloneH T t (calls n) := LimF.const _
theorem tryE_lim (t : TypeId) (k : IntKind) (zero : AV) (call : FuncId → List AV → M AV) (calls : Nat → FuncId → List AV → M AV) (hc : ∀ f, LimF (call f) fun n => calls n f) : LimF (tryE t k zero call) fun n => tryE t k zero (calls n) := by
  have hv : ∀ f, LimM (callV call f []) fun n => callV (calls n) f [] := by
    intro f
    unfold callV
    split
    · exact hc _ _
    · exact LimM.const _
  intro args
  cases args with
  | nil => exact LimM.const _
  | cons f r =>
    cases r with
    | nil => exact post_lim (tryP t k zero) rfl (hv f)
    | cons _ _ => exact LimM.const _
theorem other_bif {α : Type} {b : Bool} {x : α} {o : Option α} {y : α} (h : (bif b then some x else o) = some y) : x = y ∨ o = some y := by
  cases b with
  | true => exact .inl (by simpa using h)
  | false => exact .inr h

theorem cloneH_nw (T : TT) (t : TypeId) (call : FuncId → List AV → M AV) (args : List AV) : NwM (cloneH T t call args) := by
  unfold cloneH
  split
  · rename_i y
    intro h v h' hh
    unfold appH at hh
    split at hh
    · cases hh
    · split at hh
      · split at hh
        · cases hh
        · split at hh
          · cases hh
          · rename_i bs _
            revert hh
            generalize (_ && _ : Bool) = b1
            cases b1 with
            | false => intro hh; cases hh
            | true =>
              simp only [cond_true]
              cases bs.isEmpty with
              | true => intro hh; cases hh; exact ⟨[], by simp⟩
              | false =>
                simp only [cond_false]
                generalize decide (_ ≤ 140737488355328) = b2
                cases b2 with
                | false => intro hh; cases hh
                | true => intro hh; cases hh; exact ⟨_, rfl⟩
      · cases hh
  · intro h v h' hh; cases hh

end Go.Av

/- The types of the package api, and how their values stand as abstract values. No condition. -/
namespace Go.Av.Ap

abbrev Str := List UInt8
/-- api.Value -/
inductive Val where
  | mk (kind n : Int) (names : List Str) (values : List Val)
instance : Inhabited Val := ⟨.mk 0 0 [] []⟩
/-- api.Exp -/
inductive Exp where
  | mk (op n : Int) (s m : Str) (names : List Str) (args : List Exp)
instance : Inhabited Exp := ⟨.mk 0 0 [] [] [] []⟩
/-- api.Type -/
inductive Ty where
  | mk (kind : Int) (fields : List (Str × Ty))
instance : Inhabited Ty := ⟨.mk 0 []⟩
abbrev Fld := Str × Ty
/-- api.Func -/
structure Fun where
  name : Str
  pub : Bool
  params : List Fld
  result : Ty
  effects : Int
  body : Exp
  deriving Inhabited
/-- api.Module -/
structure Mod where
  name : Str
  uses : List Str
  vars : List Fld
  init : List Exp
  funcs : List Fun
  moves : Bool
  old : List Fld
  forward : List Exp
  back : List Exp
  deriving Inhabited

def Val.kind : Val → Int | .mk k _ _ _ => k
def Val.n : Val → Int | .mk _ n _ _ => n
def Val.names : Val → List Str | .mk _ _ ns _ => ns
def Val.values : Val → List Val | .mk _ _ _ vs => vs
def Exp.op : Exp → Int | .mk o _ _ _ _ _ => o
def Exp.n : Exp → Int | .mk _ n _ _ _ _ => n
def Exp.s : Exp → Str | .mk _ _ s _ _ _ => s
def Exp.m : Exp → Str | .mk _ _ _ m _ _ => m
def Exp.names : Exp → List Str | .mk _ _ _ _ ns _ => ns
def Exp.args : Exp → List Exp | .mk _ _ _ _ _ es => es
def Ty.kind : Ty → Int | .mk k _ => k
def Ty.fields : Ty → List Fld | .mk _ fs => fs
@[simp] theorem Val.kind_mk (a b c d) : (Val.mk a b c d).kind = a := rfl
@[simp] theorem Val.n_mk (a b c d) : (Val.mk a b c d).n = b := rfl
@[simp] theorem Val.names_mk (a b c d) : (Val.mk a b c d).names = c := rfl
@[simp] theorem Val.values_mk (a b c d) : (Val.mk a b c d).values = d := rfl
theorem Val.eta (v : Val) : Val.mk v.kind v.n v.names v.values = v := by cases v; rfl
theorem Exp.eta (e : Exp) : Exp.mk e.op e.n e.s e.m e.names e.args = e := by cases e; rfl
theorem Ty.eta (t : Ty) : Ty.mk t.kind t.fields = t := by cases t; rfl

def strs (l : List Str) : AV := .sl (l.map .str)
mutual
def Val.av : Val → AV
  | .mk k n ns vs => .agg [.int .i64 k, .int .i64 n, strs ns, .sl (valsAv vs)]
def valsAv : List Val → List AV
  | [] => []
  | v :: vs => v.av :: valsAv vs
end
mutual
def Exp.cells : Exp → List AV
  | .mk o n s m ns es => [.int .i64 o, .int .i64 n, .str s, .str m, strs ns, .sl (expsAv es)]
def expsAv : List Exp → List AV
  | [] => []
  | e :: es => .agg e.cells :: expsAv es
end
def Exp.av (e : Exp) : AV := .agg e.cells
mutual
def Ty.cells : Ty → List AV
  | .mk k fs => [.int .i64 k, .sl (fldsAv fs)]
def fldsAv : List (Str × Ty) → List AV
  | [] => []
  | f :: fs => fldAv f :: fldsAv fs
def fldAv : Str × Ty → AV
  | (n, t) => .agg (.str n :: t.cells)
end
def Ty.av (t : Ty) : AV := .agg t.cells
def Fun.av (f : Fun) : AV := .agg ([.str f.name, .bool f.pub, .sl (fldsAv f.params)] ++ f.result.cells ++ [.int .i64 f.effects] ++ f.body.cells)
def funs (l : List Fun) : AV := .sl (l.map Fun.av)
def Mod.av (m : Mod) : AV := .agg [.str m.name, strs m.uses, .sl (fldsAv m.vars), .sl (expsAv m.init), funs m.funcs, .bool m.moves, .sl (fldsAv m.old), .sl (expsAv m.forward), .sl (expsAv m.back)]
def vals (l : List Val) : AV := .sl (valsAv l)
def exps (l : List Exp) : AV := .sl (expsAv l)
def flds (l : List Fld) : AV := .sl (fldsAv l)
def mods (l : List Mod) : AV := .sl (l.map Mod.av)
def ints (l : List Int) : AV := .sl (l.map (.int .i64))

/-- api.Vars, api.Deed, api.Call -/
structure Vars where
  module : Str
  values : List Val
  deriving Inhabited
structure Deed where
  effect : Int
  arg : Int
  answer : Int
  deriving DecidableEq, Inhabited
structure Call where
  module : Str
  func : Str
  args : List Val
  deriving Inhabited
def Vars.av (v : Vars) : AV := .agg [.str v.module, vals v.values]
def Deed.av (d : Deed) : AV := .agg [.int .i64 d.effect, .int .i64 d.arg, .int .i64 d.answer]
def Call.av (c : Call) : AV := .agg [.str c.module, .str c.func, vals c.args]
def varss (l : List Vars) : AV := .sl (l.map Vars.av)
def deeds (l : List Deed) : AV := .sl (l.map Deed.av)
def calls (l : List Call) : AV := .sl (l.map Call.av)
/-- api.Outcome -/
structure Out where
  err : Int
  value : Val
  deeds : List Deed
  calls : List Call
  state : List Vars
def Out.av (o : Out) : AV := .agg [.int .i64 o.err, .int .i64 o.value.kind, .int .i64 o.value.n, strs o.value.names, vals o.value.values, Ap.deeds o.deeds, Ap.calls o.calls, varss o.state]

theorem valsAv_map : (l : List Val) → valsAv l = l.map Val.av
  | [] => rfl
  | v :: l => by simp [valsAv, valsAv_map l]
theorem expsAv_map : (l : List Exp) → expsAv l = l.map Exp.av
  | [] => rfl
  | v :: l => by simp [expsAv, expsAv_map l, Exp.av]
theorem fldsAv_map : (l : List Fld) → fldsAv l = l.map fldAv
  | [] => rfl
  | v :: l => by simp [fldsAv, fldsAv_map l]

theorem Val.av_eq (v : Val) : v.av = .agg [.int .i64 v.kind, .int .i64 v.n, strs v.names, vals v.values] := by cases v; rfl
theorem Exp.cells_eq (e : Exp) : e.cells = [.int .i64 e.op, .int .i64 e.n, .str e.s, .str e.m, strs e.names, exps e.args] := by cases e; rfl
theorem Ty.cells_eq (t : Ty) : t.cells = [.int .i64 t.kind, flds t.fields] := by cases t; simp [Ty.cells, flds, Ty.kind, Ty.fields]
theorem fldAv_eq (f : Fld) : fldAv f = .agg [.str f.1, .int .i64 f.2.kind, flds f.2.fields] := by obtain ⟨n, t⟩ := f; simp [fldAv, Ty.cells_eq]

@[simp] theorem acells_val (v : Val) : acells v.av = [.int .i64 v.kind, .int .i64 v.n, strs v.names, vals v.values] := by rw [v.av_eq]; rfl
@[simp] theorem acells_exp (e : Exp) : acells e.av = [.int .i64 e.op, .int .i64 e.n, .str e.s, .str e.m, strs e.names, exps e.args] := by rw [Exp.av, e.cells_eq]; rfl
@[simp] theorem acells_fld (f : Fld) : acells (fldAv f) = [.str f.1, .int .i64 f.2.kind, flds f.2.fields] := by rw [fldAv_eq]; rfl
@[simp] theorem acells_ty (t : Ty) : acells t.av = [.int .i64 t.kind, flds t.fields] := by rw [Ty.av, t.cells_eq]; rfl
@[simp] theorem acells_fun (f : Fun) : acells f.av = [.str f.name, .bool f.pub, flds f.params, .int .i64 f.result.kind, flds f.result.fields, .int .i64 f.effects, .int .i64 f.body.op, .int .i64 f.body.n, .str f.body.s, .str f.body.m, strs f.body.names, exps f.body.args] := by
  simp [Fun.av, acells, Ty.cells_eq, Exp.cells_eq, flds]
@[simp] theorem acells_mod (m : Mod) : acells m.av = [.str m.name, strs m.uses, flds m.vars, exps m.init, funs m.funcs, .bool m.moves, flds m.old, exps m.forward, exps m.back] := rfl
/-- folding back -/
@[simp] theorem fold_val (v : Val) : AV.agg [.int .i64 v.kind, .int .i64 v.n, strs v.names, vals v.values] = v.av := (v.av_eq).symm
@[simp] theorem fold_exp (e : Exp) : AV.agg [.int .i64 e.op, .int .i64 e.n, .str e.s, .str e.m, strs e.names, exps e.args] = e.av := by rw [Exp.av, e.cells_eq]
@[simp] theorem fold_ty (t : Ty) : AV.agg [.int .i64 t.kind, flds t.fields] = t.av := by rw [Ty.av, t.cells_eq]
@[simp] theorem fold_fld (f : Fld) : AV.agg [.str f.1, .int .i64 f.2.kind, flds f.2.fields] = fldAv f := (fldAv_eq f).symm
@[simp] theorem fold_fun (f : Fun) : AV.agg [.str f.name, .bool f.pub, flds f.params, .int .i64 f.result.kind, flds f.result.fields, .int .i64 f.effects, .int .i64 f.body.op, .int .i64 f.body.n, .str f.body.s, .str f.body.m, strs f.body.names, exps f.body.args] = f.av := by
  simp [Fun.av, Ty.cells_eq, Exp.cells_eq, flds]
@[simp] theorem fold_mod (m : Mod) : AV.agg [.str m.name, strs m.uses, flds m.vars, exps m.init, funs m.funcs, .bool m.moves, flds m.old, exps m.forward, exps m.back] = m.av := rfl

/-! ### Clean values -/
theorem cls_map {α : Type} (g : Nat → Nat → Nat → Nat → Bool → AV) (f : α → AV) (h : ∀ x, cl g (f x) = f x) : (l : List α) → cls g (l.map f) = l.map f
  | [] => rfl
  | x :: l => by simp [cls, h x, cls_map g f h l]
@[simp] theorem cl_strs (g : Nat → Nat → Nat → Nat → Bool → AV) (l : List Str) : cl g (strs l) = strs l := by
  simp [strs, cl, cls_map g AV.str (fun _ => rfl) l]
@[simp] theorem cl_ints (g : Nat → Nat → Nat → Nat → Bool → AV) (l : List Int) : cl g (ints l) = ints l := by
  simp [ints, cl, cls_map g (AV.int .i64) (fun _ => rfl) l]
mutual
theorem Val.cl_av (g : Nat → Nat → Nat → Nat → Bool → AV) : (v : Val) → cl g v.av = v.av
  | .mk k n ns vs => by simp [Val.av, cl, cls, vals_cl g vs]
theorem vals_cl (g : Nat → Nat → Nat → Nat → Bool → AV) : (l : List Val) → cls g (valsAv l) = valsAv l
  | [] => rfl
  | v :: l => by simp [valsAv, cls, Val.cl_av g v, vals_cl g l]
end
mutual
theorem Exp.cl_cells (g : Nat → Nat → Nat → Nat → Bool → AV) : (e : Exp) → cls g e.cells = e.cells
  | .mk o n s m ns es => by simp [Exp.cells, cl, cls, exps_cl g es]
theorem exps_cl (g : Nat → Nat → Nat → Nat → Bool → AV) : (l : List Exp) → cls g (expsAv l) = expsAv l
  | [] => rfl
  | e :: l => by simp [expsAv, cls, cl, Exp.cl_cells g e, exps_cl g l]
end
mutual
theorem Ty.cl_cells (g : Nat → Nat → Nat → Nat → Bool → AV) : (t : Ty) → cls g t.cells = t.cells
  | .mk k fs => by simp [Ty.cells, cl, cls, flds_cl g fs]
theorem flds_cl (g : Nat → Nat → Nat → Nat → Bool → AV) : (l : List (Str × Ty)) → cls g (fldsAv l) = fldsAv l
  | [] => rfl
  | f :: l => by simp [fldsAv, cls, fld_cl g f, flds_cl g l]
theorem fld_cl (g : Nat → Nat → Nat → Nat → Bool → AV) : (f : Str × Ty) → cl g (fldAv f) = fldAv f
  | (n, t) => by simp [fldAv, cl, cls, Ty.cl_cells g t]
end
@[simp] theorem cl_val (g : Nat → Nat → Nat → Nat → Bool → AV) (v : Val) : cl g v.av = v.av := v.cl_av g
@[simp] theorem cl_vals (g : Nat → Nat → Nat → Nat → Bool → AV) (l : List Val) : cl g (vals l) = vals l := by simp [vals, cl, vals_cl]
@[simp] theorem cl_exp (g : Nat → Nat → Nat → Nat → Bool → AV) (e : Exp) : cl g e.av = e.av := by simp [Exp.av, cl, Exp.cl_cells]
@[simp] theorem cl_exps (g : Nat → Nat → Nat → Nat → Bool → AV) (l : List Exp) : cl g (exps l) = exps l := by simp [exps, cl, exps_cl]
@[simp] theorem cl_ty (g : Nat → Nat → Nat → Nat → Bool → AV) (t : Ty) : cl g t.av = t.av := by simp [Ty.av, cl, Ty.cl_cells]
@[simp] theorem cl_fld (g : Nat → Nat → Nat → Nat → Bool → AV) (f : Fld) : cl g (fldAv f) = fldAv f := fld_cl g f
@[simp] theorem cl_flds (g : Nat → Nat → Nat → Nat → Bool → AV) (l : List Fld) : cl g (flds l) = flds l := by simp [flds, cl, flds_cl]
theorem cls_append (g : Nat → Nat → Nat → Nat → Bool → AV) : (a b : List AV) → cls g (a ++ b) = cls g a ++ cls g b
  | [], b => rfl
  | x :: a, b => by simp [cls, cls_append g a b]
@[simp] theorem cl_fun (g : Nat → Nat → Nat → Nat → Bool → AV) (f : Fun) : cl g f.av = f.av := by
  simp [Fun.av, cl, cls, cls_append, flds_cl, Ty.cl_cells, Exp.cl_cells]
@[simp] theorem cl_funs (g : Nat → Nat → Nat → Nat → Bool → AV) (l : List Fun) : cl g (funs l) = funs l := by simp [funs, cl, cls_map g Fun.av (cl_fun g)]
@[simp] theorem cl_mod (g : Nat → Nat → Nat → Nat → Bool → AV) (m : Mod) : cl g m.av = m.av := by
  simp [Mod.av, cl, cls, flds_cl, exps_cl, cl_funs]
@[simp] theorem cl_mods (g : Nat → Nat → Nat → Nat → Bool → AV) (l : List Mod) : cl g (mods l) = mods l := by simp [mods, cl, cls_map g Mod.av (cl_mod g)]
@[simp] theorem cl_int (g : Nat → Nat → Nat → Nat → Bool → AV) (k : IntKind) (n : Int) : cl g (.int k n) = .int k n := rfl
@[simp] theorem cl_bool (g : Nat → Nat → Nat → Nat → Bool → AV) (b : Bool) : cl g (.bool b) = .bool b := rfl
@[simp] theorem cl_str (g : Nat → Nat → Nat → Nat → Bool → AV) (s : Str) : cl g (.str s) = .str s := rfl

@[simp] theorem cl_vars (g : Nat → Nat → Nat → Nat → Bool → AV) (v : Vars) : cl g v.av = v.av := by simp [Vars.av, cl, cls]
@[simp] theorem cl_deed (g : Nat → Nat → Nat → Nat → Bool → AV) (v : Deed) : cl g v.av = v.av := by simp [Deed.av, cl, cls]
@[simp] theorem cl_call (g : Nat → Nat → Nat → Nat → Bool → AV) (v : Call) : cl g v.av = v.av := by simp [Call.av, cl, cls]
@[simp] theorem cl_varss (g : Nat → Nat → Nat → Nat → Bool → AV) (l : List Vars) : cl g (varss l) = varss l := by simp [varss, cl, cls_map g Vars.av (cl_vars g)]
@[simp] theorem cl_deeds (g : Nat → Nat → Nat → Nat → Bool → AV) (l : List Deed) : cl g (deeds l) = deeds l := by simp [deeds, cl, cls_map g Deed.av (cl_deed g)]
@[simp] theorem cl_calls (g : Nat → Nat → Nat → Nat → Bool → AV) (l : List Call) : cl g (calls l) = calls l := by simp [calls, cl, cls_map g Call.av (cl_call g)]
@[simp] theorem cl_out (g : Nat → Nat → Nat → Nat → Bool → AV) (o : Out) : cl g o.av = o.av := by simp [Out.av, cl, cls]
@[simp] theorem acells_vars (v : Vars) : acells v.av = [.str v.module, vals v.values] := rfl
@[simp] theorem acells_deed (v : Deed) : acells v.av = [.int .i64 v.effect, .int .i64 v.arg, .int .i64 v.answer] := rfl
@[simp] theorem acells_call (v : Call) : acells v.av = [.str v.module, .str v.func, vals v.args] := rfl
@[simp] theorem acells_out (o : Out) : acells o.av = [.int .i64 o.err, .int .i64 o.value.kind, .int .i64 o.value.n, strs o.value.names, vals o.value.values, deeds o.deeds, calls o.calls, varss o.state] := rfl
@[simp] theorem fold_vars (v : Vars) : AV.agg [.str v.module, vals v.values] = v.av := rfl
@[simp] theorem fold_deed (v : Deed) : AV.agg [.int .i64 v.effect, .int .i64 v.arg, .int .i64 v.answer] = v.av := rfl
@[simp] theorem fold_call (v : Call) : AV.agg [.str v.module, .str v.func, vals v.args] = v.av := rfl
@[simp] theorem fold_out (o : Out) : AV.agg [.int .i64 o.err, .int .i64 o.value.kind, .int .i64 o.value.n, strs o.value.names, vals o.value.values, deeds o.deeds, calls o.calls, varss o.state] = o.av := rfl
@[simp] theorem size_vars (v : Vars) : sizeA v.av = some 2 := rfl
@[simp] theorem size_deed (v : Deed) : sizeA v.av = some 3 := rfl
@[simp] theorem size_call (v : Call) : sizeA v.av = some 3 := rfl
@[simp] theorem size_out (v : Out) : sizeA v.av = some 8 := rfl
@[simp] theorem okEl_vars (v : Vars) : okEl 2 v.av = true := by simp [okEl, okCell, vals]
@[simp] theorem okEl_deed (v : Deed) : okEl 3 v.av = true := by simp [okEl, okCell]
@[simp] theorem okEl_call (v : Call) : okEl 3 v.av = true := by simp [okEl, okCell, vals]
@[simp] theorem okEl_out (v : Out) : okEl 8 v.av = true := by simp [okEl, okCell, vals, strs, deeds, calls, varss]

/-- What nothing of the heap stands in. -/
def Clean (a : AV) : Prop := ∀ g, cl g a = a
theorem Clean.frz {a : AV} (h : Clean a) (d : Nat) (hp : Hp) : frz d hp a = a := by
  cases d with
  | zero => exact h _
  | succ d => exact h _
theorem isoP_pure {a : AV} (h : Clean a) : isoP (M.pure a) = M.pure a := by
  funext hp
  simp only [isoP, M.pure, h.frz]
theorem isoP_throw {a : AV} (h : Clean a) : isoP (throwM a) = throwM a := by
  funext hp
  simp only [isoP, throwM, h.frz]
@[simp] theorem isoP_bool (b : Bool) : isoP (M.pure (.bool b)) = M.pure (.bool b) := isoP_pure fun _ => rfl
@[simp] theorem isoP_int (k : IntKind) (n : Int) : isoP (M.pure (.int k n)) = M.pure (.int k n) := isoP_pure fun _ => rfl
@[simp] theorem isoP_str (s : Str) : isoP (M.pure (.str s)) = M.pure (.str s) := isoP_pure fun _ => rfl
@[simp] theorem isoP_val (v : Val) : isoP (M.pure v.av) = M.pure v.av := isoP_pure fun g => cl_val g v
@[simp] theorem isoP_vals (v : List Val) : isoP (M.pure (vals v)) = M.pure (vals v) := isoP_pure fun g => cl_vals g v
@[simp] theorem isoP_exp (v : Exp) : isoP (M.pure v.av) = M.pure v.av := isoP_pure fun g => cl_exp g v
@[simp] theorem isoP_fun (v : Fun) : isoP (M.pure v.av) = M.pure v.av := isoP_pure fun g => cl_fun g v

/-! ### Sizes -/
@[simp] theorem size_val (v : Val) : sizeA v.av = some 4 := by rw [v.av_eq]; rfl
@[simp] theorem size_exp (e : Exp) : sizeA e.av = some 6 := by rw [Exp.av, e.cells_eq]; rfl
@[simp] theorem size_fld (f : Fld) : sizeA (fldAv f) = some 3 := by rw [fldAv_eq]; rfl
@[simp] theorem size_ty (t : Ty) : sizeA t.av = some 2 := by rw [Ty.av, t.cells_eq]; rfl
@[simp] theorem size_fun (f : Fun) : sizeA f.av = some 12 := by simp [Fun.av, sizeA, Ty.cells_eq, Exp.cells_eq]
@[simp] theorem size_mod (m : Mod) : sizeA m.av = some 9 := rfl
@[simp] theorem okEl_val (v : Val) : okEl 4 v.av = true := by simp [okEl, okCell, strs, vals]
@[simp] theorem okEl_exp (e : Exp) : okEl 6 e.av = true := by simp [okEl, okCell, strs, exps]
@[simp] theorem okEl_fld (f : Fld) : okEl 3 (fldAv f) = true := by simp [okEl, okCell, flds]
@[simp] theorem okEl_fun (f : Fun) : okEl 12 f.av = true := by simp [okEl, okCell, flds, strs, exps]
@[simp] theorem okEl_mod (m : Mod) : okEl 9 m.av = true := by simp [okEl, okCell, flds, strs, exps, funs]
@[simp] theorem okEl_str (s : Str) : okEl 1 (.str s) = true := rfl
@[simp] theorem okEl_int (k : IntKind) (n : Int) : okEl 1 (.int k n) = true := rfl
theorem okSz_map {α : Type} {sz : Nat} {f : α → AV} (h : ∀ x, okEl sz (f x) = true) (l : List α) : okSz sz (l.map f) = true := by simp [okSz, h]
@[simp] theorem okSz_strs (l : List Str) : okSz 1 (l.map AV.str) = true := okSz_map okEl_str l
@[simp] theorem okSz_ints (l : List Int) : okSz 1 (l.map (AV.int .i64)) = true := okSz_map (okEl_int .i64) l
@[simp] theorem okSz_vals (l : List Val) : okSz 4 (valsAv l) = true := by rw [valsAv_map]; exact okSz_map okEl_val l
@[simp] theorem okSz_exps (l : List Exp) : okSz 6 (expsAv l) = true := by rw [expsAv_map]; exact okSz_map okEl_exp l
@[simp] theorem okSz_flds (l : List Fld) : okSz 3 (fldsAv l) = true := by rw [fldsAv_map]; exact okSz_map okEl_fld l
@[simp] theorem okSz_funs (l : List Fun) : okSz 12 (l.map Fun.av) = true := okSz_map okEl_fun l
@[simp] theorem okSz_mods (l : List Mod) : okSz 9 (l.map Mod.av) = true := okSz_map okEl_mod l

/-! ### Operations on lists of told elements -/
theorem indexAddrA_map {T : TT} {t e : Nat} {ti ei : TI} (ht : T t = some ti) (hk : ti.kind = .slice e) (he : T e = some ei) {α : Type} {f : α → AV} (hs : ∀ x, sizeA (f x) = some ei.size) {l : List α} {i : Nat} {x : α} (h : l[i]? = some x) :
    indexAddrA T t (.sl (l.map f)) (.int .i64 (i : Int)) = some (.ip (acells (f x))) := by
  unfold indexAddrA
  rw [ht]
  simp only [hk, he]
  rw [if_neg (by omega)]
  have : (l.map f)[(i : Int).toNat]? = some (f x) := by rw [Int.toNat_natCast, List.getElem?_map, h]; rfl
  rw [this]
  simp only
  rw [if_pos (hs x)]
theorem indexAddrA_int {T : TT} {t e : Nat} {ti ei : TI} (ht : T t = some ti) (hk : ti.kind = .slice e) (he : T e = some ei) {α : Type} [Inhabited α] {f : α → AV} (hs : ∀ x, sizeA (f x) = some ei.size) {l : List α} {n : Int} (h0 : 0 ≤ n) (h : n < (l.length : Int)) :
    indexAddrA T t (.sl (l.map f)) (.int .i64 n) = some (.ip (acells (f l[n.toNat]!))) := by
  have hlt : n.toNat < l.length := by omega
  have := indexAddrA_map ht hk he hs (l := l) (i := n.toNat) (x := l[n.toNat]!) (by rw [List.getElem!_eq_getElem?_getD, List.getElem?_eq_getElem hlt]; rfl)
  rw [show ((n.toNat : Nat) : Int) = n by omega] at this
  exact this
theorem appA_map {T : TT} {t e : Nat} {ti ei : TI} (ht : T t = some ti) (hk : ti.kind = .slice e) (he : T e = some ei) {α : Type} {f : α → AV} (hs : ∀ x, okEl ei.size (f x) = true) {a b : List α} (h : (a.length + b.length) * ei.bytes ≤ 140737488355328) (h0 : 0 < ei.bytes) :
    appA T t (.sl (a.map f)) (.sl (b.map f)) = some (.sl ((a ++ b).map f)) := by
  unfold appA
  rw [ht]
  simp only [hk, he, elsOf]
  rw [okSz_map hs, okSz_map hs]
  simp [h, h0, strOk]
end Go.Av.Ap

/- Rules by which shallow programs are simplified. No condition. -/
namespace Go.Av

attribute [simp] bnd_pure bnd_some bnd_fail bnd_throw
@[simp] theorem condM_bool {α : Type} (b : Bool) (x y : M α) : condM (.bool b) x y = if b = true then x else y := by cases b <;> rfl
theorem guardM_bool (b w : Bool) (n : Nat) (m : M (List AV)) : guardM (.bool b) w n m = if b = w then m else M.pure (List.replicate n (.tup [])) := by cases b <;> cases w <;> rfl
/-- What a guarded group of one slot leaves. -/
def gv (b w : Bool) (y : AV) : AV := bif b == w then y else .tup []
@[simp] theorem gv_ff (y : AV) : gv false false y = y := rfl
@[simp] theorem gv_tt (y : AV) : gv true true y = y := rfl
@[simp] theorem gv_ft (y : AV) : gv false true y = .tup [] := rfl
@[simp] theorem gv_tf (y : AV) : gv true false y = .tup [] := rfl
@[simp high] theorem guardM_pure1 (b w : Bool) (y : AV) : guardM (.bool b) w 1 (M.pure [y]) = M.pure [gv b w y] := by cases b <;> cases w <;> rfl
@[simp high] theorem guardM_gv (b w c w2 : Bool) (y : AV) : guardM (gv b w (.bool c)) w2 1 (M.pure [y]) = M.pure [gv b w (gv c w2 y)] := by cases b <;> cases w <;> cases c <;> cases w2 <;> rfl
@[simp high] theorem guardM_or (b w c e : Bool) : guardM (.bool b) w 1 (bnd (lft (pickA (gv b w (.bool c)) (.bool true) (gv b w (gv c false (.bool e))))) fun v => M.pure [v]) = M.pure [gv b w (.bool (c || e))] := by
  cases b <;> cases w <;> cases c <;> rfl
@[simp high] theorem guardM_and (b w c e : Bool) : guardM (.bool b) w 1 (bnd (lft (pickA (gv b w (.bool c)) (gv b w (gv c true (.bool e))) (.bool false))) fun v => M.pure [v]) = M.pure [gv b w (.bool (c && e))] := by
  cases b <;> cases w <;> cases c <;> rfl
@[simp high] theorem pickA_and (b c : Bool) : pickA (.bool b) (gv b true (.bool c)) (.bool false) = some (.bool (b && c)) := by cases b <;> rfl
@[simp high] theorem pickA_or (b c : Bool) : pickA (.bool b) (.bool true) (gv b false (.bool c)) = some (.bool (b || c)) := by cases b <;> rfl
@[simp] theorem guardM_skip1 (w : Bool) (n : Nat) (m : M (List AV)) : guardM (.bool !w) w n m = M.pure (List.replicate n (.tup [])) := by cases w <;> rfl
@[simp] theorem guardM_take1 (w : Bool) (n : Nat) (m : M (List AV)) : guardM (.bool w) w n m = m := by cases w <;> rfl
@[simp] theorem guardM_ft (n : Nat) (m : M (List AV)) : guardM (.bool false) true n m = M.pure (List.replicate n (.tup [])) := rfl
@[simp] theorem guardM_tf (n : Nat) (m : M (List AV)) : guardM (.bool true) false n m = M.pure (List.replicate n (.tup [])) := rfl
@[simp] theorem guardM_tup (w : Bool) (n : Nat) (m : M (List AV)) : guardM (.tup []) w n m = M.pure (List.replicate n (.tup [])) := rfl
@[simp] theorem pickA_true (x y : AV) : pickA (.bool true) x y = some x := rfl
@[simp] theorem pickA_false (x y : AV) : pickA (.bool false) x y = some y := rfl
theorem pickA_bool (b : Bool) (x y : AV) : pickA (.bool b) x y = some (if b = true then x else y) := by cases b <;> rfl
@[simp] theorem nth_zero (x : AV) (l : List AV) : nth (x :: l) 0 = x := rfl
@[simp] theorem nth_succ (x : AV) (l : List AV) (n : Nat) : nth (x :: l) (n + 1) = nth l n := rfl
@[simp] theorem jn_def {α : Type} (k : List AV → M α) (m : (List AV → M α) → M α) : jn k m = m k := rfl
@[simp] theorem noPan_pure {α : Type} (a : α) : noPan (M.pure a) = M.pure a := rfl
@[simp] theorem unA_not (b : Bool) : unA .not (.bool b) = some (.bool !b) := rfl
@[simp] theorem extractA_tup (l : List AV) (i : Nat) : extractA (.tup l) i = l[i]? := rfl
@[simp] theorem mkIface_nil : True := trivial
@[simp] theorem nilChkA_hp (l k : Nat) : nilChkA (.hp l k) = some (.hp l k) := rfl
@[simp] theorem nilChkA_ip (cs : List AV) : nilChkA (.ip cs) = some (.ip cs) := rfl
@[simp] theorem acells_str (s : List UInt8) : acells (.str s) = [.str s] := rfl
@[simp] theorem acells_int (k : IntKind) (n : Int) : acells (.int k n) = [.int k n] := rfl
@[simp] theorem acells_agg (cs : List AV) : acells (.agg cs) = cs := rfl
@[simp] theorem bin_add (T : TT) (t : Nat) (a b : Int) : binA T .add t (.int .i64 a) (.int .i64 b) = some (.int .i64 (IntKind.i64.wrap (a + b))) := rfl
@[simp] theorem bin_sub (T : TT) (t : Nat) (a b : Int) : binA T .sub t (.int .i64 a) (.int .i64 b) = some (.int .i64 (IntKind.i64.wrap (a - b))) := rfl
@[simp] theorem bin_mul (T : TT) (t : Nat) (a b : Int) : binA T .mul t (.int .i64 a) (.int .i64 b) = some (.int .i64 (IntKind.i64.wrap (a * b))) := rfl
@[simp] theorem bin_lss (T : TT) (t : Nat) (a b : Int) : binA T .lss t (.int .i64 a) (.int .i64 b) = some (.bool (decide (a < b))) := rfl
@[simp] theorem bin_leq (T : TT) (t : Nat) (a b : Int) : binA T .leq t (.int .i64 a) (.int .i64 b) = some (.bool (decide (a ≤ b))) := rfl
@[simp] theorem bin_gtr (T : TT) (t : Nat) (a b : Int) : binA T .gtr t (.int .i64 a) (.int .i64 b) = some (.bool (decide (b < a))) := rfl
@[simp] theorem bin_geq (T : TT) (t : Nat) (a b : Int) : binA T .geq t (.int .i64 a) (.int .i64 b) = some (.bool (decide (b ≤ a))) := rfl
@[simp] theorem bin_eql (T : TT) (t : Nat) (a b : Int) : binA T .eql t (.int .i64 a) (.int .i64 b) = some (.bool (a == b)) := rfl
@[simp] theorem bin_neq (T : TT) (t : Nat) (a b : Int) : binA T .neq t (.int .i64 a) (.int .i64 b) = some (.bool (a != b)) := rfl
@[simp] theorem str_eql (T : TT) (t : Nat) (a b : List UInt8) : binA T .eql t (.str a) (.str b) = some (.bool (a == b)) := rfl
@[simp] theorem str_neq (T : TT) (t : Nat) (a b : List UInt8) : binA T .neq t (.str a) (.str b) = some (.bool !(a == b)) := rfl
@[simp] theorem str_lss (T : TT) (t : Nat) (a b : List UInt8) : binA T .lss t (.str a) (.str b) = some (.bool (strLess a b)) := rfl
@[simp] theorem str_geq (T : TT) (t : Nat) (a b : List UInt8) : binA T .geq t (.str a) (.str b) = some (.bool !(strLess a b)) := rfl
@[simp] theorem cellsM_of {n : Nat} {x : AV} (h : okEl n x = true) : cellsM n x = M.pure (.agg (acells x)) := by
  unfold cellsM cellsN
  rw [h]
  rfl
@[simp] theorem cellsNil_of {n : Nat} {x : AV} (h : okEl n x = true) : cellsNil n [] x = M.pure (.agg (acells x)) := by
  unfold cellsNil cellsN
  rw [h]
  rfl
@[simp] theorem minsA_one (b : Bool) (x : AV) : minsA b [x] = some x := by simp [minsA]
@[simp] theorem minsA_two (b : Bool) (a c : Int) : minsA b [.int .i64 a, .int .i64 c] = some (.int .i64 (if b = true then max a c else min a c)) := by
  cases b
  · simp only [minsA, minA, cond_false]
    congr 2
    simp only [Int.min_def]
    split <;> split <;> simp_all <;> omega
  · simp only [minsA, minA, cond_true]
    congr 2
    simp only [Int.max_def]
    split <;> split <;> simp_all <;> omega

theorem bnd_ite {α β : Type} (c : Prop) [Decidable c] (x y : M α) (f : α → M β) : bnd (if c then x else y) f = if c then bnd x f else bnd y f := by split <;> rfl

theorem wrap_in {x : Int} (h1 : -9223372036854775808 ≤ x) (h2 : x ≤ 9223372036854775807) : IntKind.i64.wrap x = x := IntWalk.i64_in _ ⟨h1, h2⟩
/-- So great may a length be. -/
abbrev Big : Nat := 1099511627776
theorem wrap_nat {n : Nat} (h : n ≤ 4611686018427387904) : IntKind.i64.wrap (n : Int) = (n : Int) := IntWalk.i64_in _ (by omega)
theorem wrap_add1 {n : Nat} (h : n ≤ 4611686018427387904) : IntKind.i64.wrap ((n : Int) + 1) = ((n + 1 : Nat) : Int) := by
  rw [IntWalk.i64_in _ (by omega)]; omega
theorem wrap_sub1 {n : Nat} (h : n ≤ 4611686018427387904) : IntKind.i64.wrap (((n + 1 : Nat) : Int) - 1) = (n : Int) := by
  rw [IntWalk.i64_in _ (by omega)]; omega

namespace Ap
mutual
def Val.sz : Val → Nat
  | .mk _ _ ns vs => 1 + ns.length + valsSz vs
def valsSz : List Val → Nat
  | [] => 0
  | v :: vs => v.sz + valsSz vs
end
theorem valsSz_mem : {l : List Val} → {v : Val} → v ∈ l → v.sz ≤ valsSz l
  | w :: l, v, h => by
    simp only [valsSz]
    rcases List.mem_cons.1 h with rfl | h
    · omega
    · have := valsSz_mem h; omega
theorem Val.sz_pos (v : Val) : 1 ≤ v.sz := by cases v; simp [Val.sz]; omega
theorem valsSz_len : (l : List Val) → l.length ≤ valsSz l
  | [] => by simp
  | v :: l => by have := valsSz_len l; have := v.sz_pos; simp only [valsSz, List.length_cons]; omega
theorem Val.sz_names (v : Val) : v.names.length ≤ v.sz := by cases v; simp [Val.sz, Val.names]; omega
theorem Val.sz_values (v : Val) : valsSz v.values < v.sz := by cases v; simp [Val.sz, Val.values]; omega
theorem Val.sz_len (v : Val) : v.values.length < v.sz := Nat.lt_of_le_of_lt (valsSz_len _) v.sz_values
theorem Val.sz_mem {v x : Val} (h : x ∈ v.values) : x.sz < v.sz := Nat.lt_of_le_of_lt (valsSz_mem h) v.sz_values
end Ap
end Go.Av

namespace Go.Av
/-- The index of the first element that meets a test, counted from i on, or -1. -/
def idxAt {α : Type} (F : α → Bool) : List α → Int → Int
  | [], _ => -1
  | x :: l, i => if F x = true then i else idxAt F l (i + 1)
theorem idxAt_ge {α : Type} (F : α → Bool) : (l : List α) → (i : Int) → 0 ≤ i → (0 ≤ idxAt F l i ↔ l.any F = true)
  | [], i, _ => by simp [idxAt]
  | x :: l, i, h => by
    simp only [idxAt]
    split
    · rename_i hx; simp [hx, h]
    · rename_i hx; rw [idxAt_ge F l (i + 1) (by omega)]; simp [hx]
theorem idxAt_any {α : Type} (F : α → Bool) (l : List α) : decide (0 ≤ idxAt F l 0) = l.any F := by
  have := idxAt_ge F l 0 (by omega)
  cases h : l.any F with
  | true => simp [this.2 h]
  | false => simp only [decide_eq_false_iff_not]; intro hh; rw [this.1 hh] at h; cases h
end Go.Av

namespace Go.Av
@[simp] theorem natCast_beq (a b : Nat) : ((a : Int) == (b : Int)) = (a == b) := by rw [Bool.eq_iff_iff]; simp; omega
@[simp] theorem natCast_beq0 (a : Nat) : ((a : Int) == 0) = (a == 0) := by rw [Bool.eq_iff_iff]; simp
@[simp] theorem natCast_bne (a b : Nat) : ((a : Int) != (b : Int)) = (a != b) := by rw [Bool.eq_iff_iff]; simp; omega
end Go.Av

namespace Go.Av
def all2 {α β : Type} (F : α → β → Bool) : List α → List β → Bool
  | x :: l, y :: r => F x y && all2 F l r
  | [], [] => true
  | _, _ => false
theorem all2_drop {α β : Type} (F : α → β → Bool) (a : List α) (b : List β) (i : Nat) (h1 : i < a.length) (h2 : i < b.length) : all2 F (a.drop i) (b.drop i) = (F a[i] b[i] && all2 F (a.drop (i + 1)) (b.drop (i + 1))) := by
  rw [List.drop_eq_getElem_cons h1, List.drop_eq_getElem_cons h2]
  rfl
theorem all2_length {α β : Type} (F : α → β → Bool) : (a : List α) → (b : List β) → a.length ≠ b.length → all2 F a b = false
  | [], [], h => absurd rfl h
  | [], _ :: _, _ => rfl
  | _ :: _, [], _ => rfl
  | x :: a, y :: b, h => by
    have := all2_length F a b (by simpa using h)
    simp [all2, this]
end Go.Av

namespace Go.Av
open Ap
@[simp high] theorem cellsM_val (x : Val) : cellsM 4 (Val.av x) = M.pure (Val.av x) := by rw [cellsM_of (okEl_val x), acells_val, fold_val]
@[simp high] theorem cellsNil_val (x : Val) : cellsNil 4 [] (Val.av x) = M.pure (Val.av x) := by rw [cellsNil_of (okEl_val x), acells_val, fold_val]
@[simp high] theorem cellsM_exp (x : Exp) : cellsM 6 (Exp.av x) = M.pure (Exp.av x) := by rw [cellsM_of (okEl_exp x), acells_exp, fold_exp]
@[simp high] theorem cellsNil_exp (x : Exp) : cellsNil 6 [] (Exp.av x) = M.pure (Exp.av x) := by rw [cellsNil_of (okEl_exp x), acells_exp, fold_exp]
@[simp high] theorem cellsM_fld (x : Fld) : cellsM 3 (fldAv x) = M.pure (fldAv x) := by rw [cellsM_of (okEl_fld x), acells_fld, fold_fld]
@[simp high] theorem cellsNil_fld (x : Fld) : cellsNil 3 [] (fldAv x) = M.pure (fldAv x) := by rw [cellsNil_of (okEl_fld x), acells_fld, fold_fld]
@[simp high] theorem cellsM_fun (x : Fun) : cellsM 12 (Fun.av x) = M.pure (Fun.av x) := by rw [cellsM_of (okEl_fun x), acells_fun, fold_fun]
@[simp high] theorem cellsNil_fun (x : Fun) : cellsNil 12 [] (Fun.av x) = M.pure (Fun.av x) := by rw [cellsNil_of (okEl_fun x), acells_fun, fold_fun]
@[simp high] theorem cellsM_mod (x : Mod) : cellsM 9 (Mod.av x) = M.pure (Mod.av x) := by rw [cellsM_of (okEl_mod x), acells_mod, fold_mod]
@[simp high] theorem cellsNil_mod (x : Mod) : cellsNil 9 [] (Mod.av x) = M.pure (Mod.av x) := by rw [cellsNil_of (okEl_mod x), acells_mod, fold_mod]
@[simp high] theorem cellsM_vars (x : Vars) : cellsM 2 (Vars.av x) = M.pure (Vars.av x) := by rw [cellsM_of (okEl_vars x), acells_vars, fold_vars]
@[simp high] theorem cellsNil_vars (x : Vars) : cellsNil 2 [] (Vars.av x) = M.pure (Vars.av x) := by rw [cellsNil_of (okEl_vars x), acells_vars, fold_vars]
@[simp high] theorem cellsM_deed (x : Deed) : cellsM 3 (Deed.av x) = M.pure (Deed.av x) := by rw [cellsM_of (okEl_deed x), acells_deed, fold_deed]
@[simp high] theorem cellsNil_deed (x : Deed) : cellsNil 3 [] (Deed.av x) = M.pure (Deed.av x) := by rw [cellsNil_of (okEl_deed x), acells_deed, fold_deed]
@[simp high] theorem cellsM_call (x : Ap.Call) : cellsM 3 (Ap.Call.av x) = M.pure (Ap.Call.av x) := by rw [cellsM_of (okEl_call x), acells_call, fold_call]
@[simp high] theorem cellsNil_call (x : Ap.Call) : cellsNil 3 [] (Ap.Call.av x) = M.pure (Ap.Call.av x) := by rw [cellsNil_of (okEl_call x), acells_call, fold_call]
@[simp high] theorem cellsM_out (x : Ap.Out) : cellsM 8 (Ap.Out.av x) = M.pure (Ap.Out.av x) := by rw [cellsM_of (okEl_out x), acells_out, fold_out]
@[simp high] theorem cellsNil_out (x : Ap.Out) : cellsNil 8 [] (Ap.Out.av x) = M.pure (Ap.Out.av x) := by rw [cellsNil_of (okEl_out x), acells_out, fold_out]
@[simp] theorem okEl_ty (t : Ty) : okEl 2 t.av = true := by simp [okEl, okCell, flds]
@[simp high] theorem cellsM_ty (x : Ty) : cellsM 2 (Ty.av x) = M.pure (Ty.av x) := by rw [cellsM_of (okEl_ty x), acells_ty, fold_ty]
@[simp high] theorem cellsNil_ty (x : Ty) : cellsNil 2 [] (Ty.av x) = M.pure (Ty.av x) := by rw [cellsNil_of (okEl_ty x), acells_ty, fold_ty]
end Go.Av

namespace Go.Av
@[simp] theorem ite_pure_bool (c : Prop) [Decidable c] (a b : Bool) : (if c then (M.pure (.bool a) : M AV) else M.pure (.bool b)) = M.pure (.bool (if c then a else b)) := by split <;> rfl
@[simp] theorem ite_pure_int (c : Prop) [Decidable c] (a b : Int) : (if c then (M.pure (.int .i64 a) : M AV) else M.pure (.int .i64 b)) = M.pure (.int .i64 (if c then a else b)) := by split <;> rfl
end Go.Av

/- Counting loops of shallow programs as plain recursions. No condition. -/
namespace Go.Av

/-- A counting loop: r rounds left, at k, with a state. -/
def loopR {σ ρ : Type} (body : Nat → σ → (σ → ρ) → ρ) (fin : σ → ρ) : Nat → Nat → σ → ρ
  | 0, _, s => fin s
  | r + 1, k, s => body k s fun s' => loopR body fin r (k + 1) s'

theorem fix_loopR {σ : Type} {F : (List AV → M AV) → List AV → M AV} (hF : ∀ vs, fixW F vs = F (fixW F) vs) (st : Nat → σ → List AV) (n : Nat) (inv : Nat → σ → Prop) (body : Nat → σ → (σ → M AV) → M AV) (fin : σ → M AV)
    (hend : ∀ s, inv n s → F (fixW F) (st n s) = fin s)
    (hstep : ∀ k s, k < n → inv k s → (∀ s', inv (k + 1) s' → fixW F (st (k + 1) s') = loopR body fin (n - (k + 1)) (k + 1) s') → F (fixW F) (st k s) = body k s fun s' => loopR body fin (n - (k + 1)) (k + 1) s') :
    ∀ k s, k ≤ n → inv k s → fixW F (st k s) = loopR body fin (n - k) k s := by
  have key : ∀ r k s, n - k = r → k ≤ n → inv k s → fixW F (st k s) = loopR body fin r k s := by
    intro r
    induction r with
    | zero =>
      intro k s hr hk hi
      obtain rfl : k = n := by omega
      rw [hF]
      exact hend s hi
    | succ r ih =>
      intro k s hr hk hi
      rw [hF]
      have e : n - (k + 1) = r := by omega
      have := hstep k s (by omega) hi fun s' hi' => by rw [e]; exact ih (k + 1) s' e (by omega) hi'
      rw [this, e]
      rfl
  exact fun k s hk hi => key (n - k) k s rfl hk hi

/-- A loop that tests. -/
theorem fix_all {F : (List AV → M AV) → List AV → M AV} (hF : ∀ vs, fixW F vs = F (fixW F) vs) (st : Nat → List AV) (n : Nat) (G : Nat → Bool)
    (hend : F (fixW F) (st n) = M.pure (.bool true)) (hstep : ∀ k, k < n → F (fixW F) (st k) = if G k = true then fixW F (st (k + 1)) else M.pure (.bool false)) :
    ∀ k, k ≤ n → fixW F (st k) = M.pure (.bool ((List.range' k (n - k)).all G)) := by
  have key : ∀ r k, n - k = r → k ≤ n → fixW F (st k) = M.pure (.bool ((List.range' k r).all G)) := by
    intro r
    induction r with
    | zero =>
      intro k hr hk
      obtain rfl : k = n := by omega
      rw [hF, hend]
      rfl
    | succ r ih =>
      intro k hr hk
      rw [hF, hstep k (by omega), ih (k + 1) (by omega) (by omega)]
      simp only [List.range'_succ, List.all_cons]
      cases G k <;> rfl
  exact fun k hk => key (n - k) k rfl hk

theorem all_range' {α : Type} [Inhabited α] (P : α → Bool) (l : List α) : (List.range' 0 l.length).all (fun k => P l[k]!) = l.all P := by
  rw [Bool.eq_iff_iff]
  simp only [List.all_eq_true, List.mem_range'_1]
  constructor
  · intro h x hx
    obtain ⟨i, hi, rfl⟩ := List.getElem_of_mem hx
    have := h i ⟨Nat.zero_le _, by omega⟩
    rwa [getElem!_pos l i hi] at this
  · intro h k hk
    have hk' : k < l.length := by omega
    rw [getElem!_pos l k hk']
    exact h _ (List.getElem_mem hk')
theorem all_range2 {α β : Type} [Inhabited α] [Inhabited β] (P : α → β → Bool) : (a : List α) → (b : List β) → a.length = b.length → (List.range' 0 a.length).all (fun k => P a[k]! b[k]!) = all2 P a b
  | [], [], _ => rfl
  | x :: a, y :: b, h => by
    have ih := all_range2 P a b (by simpa using h)
    simp only [List.length_cons, List.range'_succ, List.all_cons, all2]
    congr 1
    rw [← ih]
    rw [Bool.eq_iff_iff]
    simp only [List.all_eq_true, List.mem_range'_1]
    constructor
    · intro h k hk
      have := h (k + 1) (by omega)
      simpa using this
    · intro h k hk
      obtain ⟨j, rfl⟩ : ∃ j, k = j + 1 := ⟨k - 1, by omega⟩
      simpa using h j (by omega)
  | [], _ :: _, h => by simp at h
  | _ :: _, [], h => by simp at h
theorem all2_beq {α : Type} [BEq α] : (a b : List α) → (a == b) = all2 (fun x y => x == y) a b
  | [], [] => rfl
  | [], _ :: _ => rfl
  | _ :: _, [] => rfl
  | x :: a, y :: b => by
    show (x == y && (a == b)) = _
    rw [all2_beq a b]
    rfl

/-! ### Slices of told elements -/
theorem sliceA_hi {T : TT} {t e : Nat} {ti ei : TI} (ht : T t = some ti) (hk : ti.kind = .slice e) (he : T e = some ei) (es : List AV) {n : Int} (h0 : 0 ≤ n) (h1 : n ≤ es.length) : sliceA T t (.sl es) none (some (.int .i64 n)) none = some (.sl (es.take n.toNat)) := by
  unfold sliceA
  rw [ht]
  simp [hk, he, boundA, h0, h1]
theorem sliceA_clip {T : TT} {t e : Nat} {ti ei : TI} (ht : T t = some ti) (hk : ti.kind = .slice e) (he : T e = some ei) (es : List AV) : sliceA T t (.sl es) none (some (.int .i64 es.length)) (some (.int .i64 es.length)) = some (.sl es) := by
  unfold sliceA
  rw [ht]
  simp [hk, he, boundA]
theorem sliceA_lo {T : TT} {t e : Nat} {ti ei : TI} (ht : T t = some ti) (hk : ti.kind = .slice e) (he : T e = some ei) (es : List AV) (hok : okSz ei.size es = true) {n : Int} (h0 : 0 ≤ n) (h1 : n ≤ es.length) : sliceA T t (.sl es) (some (.int .i64 n)) none none = some (.sl (es.drop n.toNat)) := by
  unfold sliceA
  rw [ht]
  simp [hk, he, boundA, h0, h1, hok]
end Go.Av

/- A function that copies a slice, told of its argument's three forms. Conditions: what the evaluator gives for each form. -/
namespace Go.Av
variable [Dr]

theorem clone_sound {P : Program} {cx : Cx} (hT : TOK P cx.T) (hC : CallsOK P cx.own cx.call) (hI : IsoCall cx) {f : FuncId} {fn : Func} (hf : P.funcs[f]? = some fn) (hnt : cx.nt = fn.ntmps) {E : List AV → Hp → R AV}
    (h0 : ∀ h, E [] h = .ok (.sl []) h) (h1 : ∀ e es h, evBody cx (fixM 0) fn none [.sl (e :: es)] h = E (e :: es) h) (h2 : ∀ h, evBody cx (fixM 0) fn none [.hn] h = .ok (.sl []) h)
    (h3 : ∀ l off h, evBody cx (fixM 0) fn none [.hs l off 0 1 false] h = .ok (.sl []) h) {es : List AV} {h : Hp} {S : Stab} {β : List Blk} {w : World} {vs : List Value}
    (hr : E es h ≠ .fail) (hg : GOK β h w) (hw : Wf S w) (hh : HeapX S β w h) (hv : VRs S β [.sl es] vs) : Calls P f vs.toArray w (CPost none S β h w (E es h)) ∧ fn.body.isSome = true := by
  cases es with
  | cons e es =>
    rw [← h1] at hr ⊢
    exact body_sound hT hC hI 0 hf hnt hr hg hw hh hv
  | nil =>
    rw [h0]
    simp only [VRs] at hv
    obtain ⟨v, _, rfl, hv, rfl⟩ := hv
    have hv0 := hv
    simp only [VR] at hv
    obtain ⟨a, cap, rfl, hc, hn, hq⟩ := hv
    cases a with
    | none =>
      have hcap := hn rfl
      subst hcap
      have hv2 : VRs S β [.hn] [.slice none ([] : List AV).length 0] := by simp [VRs, VR]
      have := body_sound (own := none) hT hC hI 0 hf hnt (args := [.hn]) (h := h) (by rw [h2]; simp) hg hw hh hv2
      rw [h2] at this
      exact this
    | some q =>
      obtain ⟨hs, _⟩ := hq q rfl
      have hq' : q = ⟨q.block, q.off, none⟩ := by cases q; simp_all
      have hX : HeapX S [(q.block, q.off + cap)] w [[]] := ⟨rfl, fun _ => .no, fun l cs hl hne => by
        cases l with
        | zero => simp at hl; exact absurd hl hne
        | succ l => simp at hl⟩
      have hE : ∀ b, ¬ HOwn [(q.block, q.off + cap)] [[]] b := by
        rintro b ⟨l, cs, n, k1, k2, _⟩
        cases l with
        | zero => simp at k1; exact k2 k1
        | succ l => simp at k1
      have hv2 : VRs S [(q.block, q.off + cap)] [.hs 0 q.off 0 1 false] [.slice (some q) ([] : List AV).length cap] := by
        simp only [VRs, VR]
        exact ⟨_, _, rfl, ⟨(q.block, q.off + cap), cap, rfl, by rw [← hq']; rfl, by omega, by simp⟩, rfl⟩
      have := body_sound (own := none) hT hC hI 0 hf hnt (args := [.hs 0 q.off 0 1 false]) (h := [[]]) (by rw [h3]; simp) ⟨hg.1, fun b _ => hE b⟩ hw hX hv2
      rw [h3] at this
      refine ⟨this.1.mono fun en w' hp => ?_, this.2⟩
      obtain ⟨S', β', v, k1, k2, k3, _⟩ := hp
      obtain ⟨S2, j1, j2, _⟩ := iso_key hw hh hE k3
      exact ⟨S2, β, v, k1, j2 (.sl []) v k2, j1, fun sz hsz => by cases hsz⟩
end Go.Av
