/- The machine of eval in the abstract heap. No condition. -/
import Derived.Test.YtgbopmciiadmlaaMach0
import Derived.Test.YtgbopmciiadmlaaLd
namespace Go.Proofs.Ytgbopmciiadmlaa
open Go Go.Av Go.Av.Ap
def pvOf (t : Bool) (p : List Mod) : AV := if t = true then (match p with | [] => .hn | _ => mods p) else mods p
theorem pvOf_ne {t : Bool} {p : List Mod} (h : p ≠ []) : pvOf t p = mods p := by
  cases t with
  | false => rfl
  | true => cases p with
    | nil => exact absurd rfl h
    | cons _ _ => rfl
def wvOf (t : Bool) (w : List Int) : AV := if t = true then .hn else ints w
def rowP (p : List Mod) (t : Bool) (m : Ms) (dv cv sv : AV) : List AV := [pvOf t p, wvOf t m.world, .int .i64 m.fuel, .int .i64 m.frames, .int .i64 0, .int .i64 0, .int .i64 0, .hn, .hn, dv, cv, sv]
abbrev RepP (p : List Mod) (nm : SNm) := Rep (rowP p nm.told) nm
structure LimP (p : List Mod) : Prop where
  len : p.length ≤ 1099511627776
  funcs : ∀ m ∈ p, m.funcs.length ≤ 1099511627776 ∧ m.vars.length ≤ 1099511627776
theorem LimP.funcsAt {p : List Mod} (L : LimP p) (i : Nat) : (p[i]?.getD default).funcs.length ≤ 1099511627776 ∧ (p[i]?.getD default).vars.length ≤ 1099511627776 := by
  cases h : p[i]? with
  | none => exact ⟨Nat.zero_le _, Nat.zero_le _⟩
  | some m => exact L.funcs m (List.mem_of_getElem? h)
theorem idxAt_lt {α : Type} (F : α → Bool) : (l : List α) → (i : Int) → idxAt F l i = -1 ∨ (i ≤ idxAt F l i ∧ idxAt F l i < i + l.length)
  | [], i => .inl rfl
  | x :: l, i => by
    simp only [idxAt]
    split
    · exact .inr ⟨Int.le_refl _, by simp; omega⟩
    · rcases idxAt_lt F l (i + 1) with h | h
      · exact .inl h
      · exact .inr ⟨by omega, by simp; omega⟩
theorem t35 {p : List Mod} {nm : SNm} {m : Ms} {h : Hp} (R : RepP p nm m h) (L : LimP p) (s : Str) : callW pg 35 [.hp 0 0, .str s] h = .ok (.int .i64 (modAt p s)) h := by
  obtain ⟨tag, dv, cv, sv, R⟩ := R
  have h0 : loadH T 22 (.hp 0 (0 + 0)) h = .ok (pvOf nm.told p) h := loadH_one rfl rfl R.r0 rfl
  have hpv : ∀ f : AV, callW pg 63 [pvOf nm.told p, f] = callW pg 63 [mods p, f] := fun f => by
    by_cases hp : p = []
    · subst hp
      cases nm.told with
      | false => rfl
      | true => rw [C63, C63]; rfl
    · rw [pvOf_ne hp]
  rw [C35]
  simp only [S35, nilChkA_hp, bnd_some, FH81_0]
  rw [bnd_ok h0, hpv]
  have := t63' p (by have := L.len; omega) s
  simp only [acells_str, this, bnd_pure]
  rfl
def funTup : Option Fun → AV
  | some f => .tup [f.av, .bool true]
  | none => .tup [Fun.av default, .bool false]
theorem t36 {p : List Mod} {nm : SNm} {m : Ms} {h : Hp} (R : RepP p nm m h) (L : LimP p) (a : Int) (ha : a < p.length) (s : Str) : callW pg 36 [.hp 0 0, .int .i64 a, .str s] h = .ok (funTup (funcX p a s)) h := by
  obtain ⟨tag, dv, cv, sv, R⟩ := R
  have h0 : p ≠ [] → loadH T 22 (.hp 0 (0 + 0)) h = .ok (mods p) h := fun hp => loadH_one rfl rfl R.r0 (by rw [← pvOf_ne (t := nm.told) hp]; rfl)
  have hz : buildA T false 67 [] = some (Fun.av default) := rfl
  have hzz : ∀ f : Fun, AV.agg [nth (acells f.av) 0, nth (acells f.av) 1, nth (acells f.av) 2, nth (acells f.av) 3, nth (acells f.av) 4, nth (acells f.av) 5, nth (acells f.av) 6, nth (acells f.av) 7, nth (acells f.av) 8, nth (acells f.av) 9, nth (acells f.av) 10, nth (acells f.av) 11] = f.av := fun f => by simp
  have hcf : ∀ f : Fun, cellsNil 12 [] f.av = M.pure (.agg (acells f.av)) := fun f => cellsNil_of (okEl_fun f)
  have hac : ∀ f : Fun, acells (.agg (acells f.av)) = acells f.av := fun _ => rfl
  rw [C36]
  unfold funcX
  simp only [S36, bin_lss, bnd_some, condM_bool]
  by_cases h1 : a < 0
  · simp only [h1, decide_true, if_true, hz, bnd_some, hcf, bnd_pure, hac, hzz]
    rfl
  · simp only [h1, decide_false, Bool.false_eq_true, if_false, nilChkA_hp, bnd_some, FH81_0]
    rw [bnd_ok (h0 (fun e => by subst e; simp at ha; omega))]
    have hi := IX22 (l := p) (n := a) (by omega) ha
    have hlt : a.toNat < p.length := by omega
    have e1 : p[a.toNat]! = p[a.toNat]?.getD default := by rw [getElem!_pos p a.toNat hlt, List.getElem?_eq_getElem hlt]; rfl
    have hlen := (L.funcsAt a.toNat).1
    have hx := t65' (p[a.toNat]?.getD default).funcs (by omega) s
    generalize hm : p[a.toNat]?.getD default = md at hx hlen e1
    rw [hi, e1]
    simp only [bnd_some, acells_mod, FA63_4, List.drop_succ_cons, List.drop_zero, LD59, acells_str, hx, bnd_pure, bin_lss, condM_bool]
    by_cases h2 : funAt md.funcs s < 0
    · simp only [h2, decide_true, if_true, hz, bnd_some, hcf, bnd_pure, hac, hzz]
      rfl
    · simp only [h2, decide_false, Bool.false_eq_true, if_false]
      rcases idxAt_lt (fun f => f.name == s) md.funcs 0 with h3 | h3
      · exact absurd (show funAt md.funcs s < 0 by unfold funAt; rw [h3]; decide) h2
      · have h4 : funAt md.funcs s < (md.funcs.length : Int) := by unfold funAt; omega
        have h5 : (funAt md.funcs s).toNat < md.funcs.length := by omega
        rw [IX59 (by omega) h4, getElem!_pos md.funcs _ h5, List.getElem?_eq_getElem h5]
        have hld : loadA T 67 (.ip (acells (md.funcs[(funAt md.funcs s).toNat]).av)) = some (md.funcs[(funAt md.funcs s).toNat]).av := by simp
        simp only [bnd_some, hld, hcf, bnd_pure, hac, hzz]
        rfl
end Go.Proofs.Ytgbopmciiadmlaa
