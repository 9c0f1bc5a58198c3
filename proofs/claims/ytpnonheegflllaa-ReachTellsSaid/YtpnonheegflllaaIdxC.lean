/- reach.index: the walk. No condition. -/
import Derived.Test.YtpnonheegflllaaBackC
import Derived.Test.YtpnonheegflllaaMaps
import Derived.Test.YtpnonheegflllaaGood
namespace Go.Proofs.Ytpnonheegflllaa
open Go Go.Av Go.Av.Ap Go.RowKit Go.Shelf
attribute [local go_sem] Oper.semAt_some
set_option maxRecDepth 100000
structure M9 where
  n : ByteArray
  a1 : Value
  a2 : Value
  a3 : Value
  a4 : Value
  a5 : Value
  a6 : Value
  a7 : Value
  a8 : Value
instance : Inhabited M9 := ⟨⟨⟨#[]⟩, undef, undef, undef, undef, undef, undef, undef, undef⟩⟩
def Cells9 (W : World) (b off : Nat) (zs : List M9) : Prop := ∀ j, j < zs.length → W.cell? ⟨b, off + j * 9, none⟩ = some (.string (zs[j]?.getD default).n) ∧ W.cell? ⟨b, off + j * 9 + 1, none⟩ = some (zs[j]?.getD default).a1 ∧ W.cell? ⟨b, off + j * 9 + 2, none⟩ = some (zs[j]?.getD default).a2 ∧ W.cell? ⟨b, off + j * 9 + 3, none⟩ = some (zs[j]?.getD default).a3 ∧ W.cell? ⟨b, off + j * 9 + 4, none⟩ = some (zs[j]?.getD default).a4 ∧ W.cell? ⟨b, off + j * 9 + 5, none⟩ = some (zs[j]?.getD default).a5 ∧ W.cell? ⟨b, off + j * 9 + 6, none⟩ = some (zs[j]?.getD default).a6 ∧ W.cell? ⟨b, off + j * 9 + 7, none⟩ = some (zs[j]?.getD default).a7 ∧ W.cell? ⟨b, off + j * 9 + 8, none⟩ = some (zs[j]?.getD default).a8
theorem Cells9.keep {n₀ bo : Nat} {A B : World} (h : KeepX n₀ bo A B) {b off : Nat} (hb : b < n₀) (hn : b ≠ bo) {zs : List M9} (c : Cells9 A b off zs) : Cells9 B b off zs := fun j hj => by
  have := c j hj
  simpa only [h.cell hb hn] using this
section
variable (S : Stab) (β : List Blk)
def IsSl (v : Value) : Prop := ∃ p l c, v = .slice p l c
def FunR (y : Str × AV) (z : F12) : Prop := z.n.data.toList = y.1 ∧ VR S β y.2 z.v ∧ (∃ p, z.a1 = .bool p) ∧ IsSl z.a2 ∧ (∃ k, z.a3 = .int .i64 k) ∧ IsSl z.a4 ∧ (∃ k, z.a5 = .int .i64 k) ∧ (∃ k, z.a6 = .int .i64 k) ∧ (∃ k, z.a7 = .int .i64 k) ∧ (∃ x, z.a8 = .string x) ∧ (∃ x, z.a9 = .string x) ∧ IsSl z.a10 ∧ IsSl z.a11
def FunsR : List (Str × AV) → List F12 → Prop
  | [], zs => zs = []
  | y :: l, zs => ∃ z r, zs = z :: r ∧ FunR S β y z ∧ FunsR l r
def ModR (w : World) (m : Str × List (Str × AV)) (z : M9) : Prop := z.n.data.toList = m.1 ∧ ∃ zs, FunsR S β m.2 zs ∧ Funs12 w.heap.size w.heap.size w z.a4 zs ∧ IsSl z.a4 ∧ IsSl z.a1 ∧ IsSl z.a2 ∧ IsSl z.a3 ∧ (∃ p, z.a5 = .bool p) ∧ IsSl z.a6 ∧ IsSl z.a7 ∧ IsSl z.a8
def ModsR (w : World) : List (Str × List (Str × AV)) → List M9 → Prop
  | [], zs => zs = []
  | m :: l, zs => ∃ z r, zs = z :: r ∧ ModR S β w m z ∧ ModsR w l r
end
theorem FunsR.length {S : Stab} {β : List Blk} : {l : List (Str × AV)} → {zs : List F12} → FunsR S β l zs → zs.length = l.length
  | [], _, h => by simp only [FunsR] at h; simp [h]
  | y :: l, zs, h => by
    simp only [FunsR] at h
    obtain ⟨z, r, rfl, _, h⟩ := h
    simp [FunsR.length h]
theorem FunsR.get {S : Stab} {β : List Blk} : {l : List (Str × AV)} → {zs : List F12} → FunsR S β l zs → ∀ {i : Nat}, i < l.length → ∃ y, l[i]? = some y ∧ FunR S β y (zs[i]?.getD default)
  | [], _, _, i, hi => by simp at hi
  | y :: l, zs, h, i, hi => by
    simp only [FunsR] at h
    obtain ⟨z, r, rfl, h1, h⟩ := h
    cases i with
    | zero => exact ⟨y, rfl, by simpa using h1⟩
    | succ i => simpa using FunsR.get h (i := i) (by simpa using hi)
theorem ModsR.length {S : Stab} {β : List Blk} {w : World} : {l : List (Str × List (Str × AV))} → {zs : List M9} → ModsR S β w l zs → zs.length = l.length
  | [], _, h => by simp only [ModsR] at h; simp [h]
  | y :: l, zs, h => by
    simp only [ModsR] at h
    obtain ⟨z, r, rfl, _, h⟩ := h
    simp [ModsR.length h]
theorem ModsR.get {S : Stab} {β : List Blk} {w : World} : {l : List (Str × List (Str × AV))} → {zs : List M9} → ModsR S β w l zs → ∀ {i : Nat}, i < l.length → ∃ y, l[i]? = some y ∧ ModR S β w y (zs[i]?.getD default)
  | [], _, _, i, hi => by simp at hi
  | y :: l, zs, h, i, hi => by
    simp only [ModsR] at h
    obtain ⟨z, r, rfl, h1, h⟩ := h
    cases i with
    | zero => exact ⟨y, rfl, by simpa using h1⟩
    | succ i => simpa using ModsR.get h (i := i) (by simpa using hi)
def MapIs (S : Stab) (β : List Blk) (W : World) (b : Nat) (es : List AV) : Prop := MapAt S β W b es
theorem MapIs.kept {S : Stab} {β : List Blk} {W W' : World} {b : Nat} {es : List AV} (h : MapIs S β W b es) (hb : W'.heap[b]? = W.heap[b]?) : MapIs S β W' b es := by
  obtain ⟨ents, clock, h1, h2, h3⟩ := h
  exact ⟨ents, clock, hb.trans h1, h2, h3⟩
theorem MapIs.lt {S : Stab} {β : List Blk} {W : World} {b : Nat} {es : List AV} (h : MapIs S β W b es) : b < W.heap.size := by
  obtain ⟨ents, clock, h1, _⟩ := h
  exact (Array.getElem?_eq_some_iff.1 h1).1
theorem MapIs.not_cells {S : Stab} {β : List Blk} {W : World} {b : Nat} {es : List AV} (h : MapIs S β W b es) : ∃ o, W.heap[b]? = some o ∧ o.isCells = false := by
  obtain ⟨ents, clock, h1, _⟩ := h
  exact ⟨_, h1, rfl⟩
theorem MapIs.put {S : Stab} {β : List Blk} {W : World} {b : Nat} {es es' : List AV} {t kt et : Nat} {k v : AV} {vk vv : Value} (h : MapIs S β W b es) (hmt : mapTy T t = some (kt, et)) (hck : ckV T 20 kt k = true) (hp : putA T kt es k v = some es') (hk : VR S β k vk) (hv : VR S β v vv) :
    ∃ o, (Instr.mapUpdate t (.map (some b)) vk vv).run Try.prog W = .ok () (setBlk W b o) ∧ o.isCells = false ∧ MapIs S β (setBlk W b o) b es' := by
  obtain ⟨ents, clock, h1, h2, h3⟩ := h
  obtain ⟨ents', clock', k1, k2, k3, _⟩ := put_ok (P := Try.prog) (w := W) tok hmt hck hp hk hv h2 h3 h1
  exact ⟨.map ents' clock', k1, rfl, ents', clock', setBlk_new _ (Array.getElem?_eq_some_iff.1 h1).1, k2, k3⟩
theorem MapIs.look {S : Stab} {β : List Blk} {W : World} {b : Nat} {es : List AV} {t : Nat} {ok : Bool} {k r : AV} {vk : Value} (h : MapIs S β W b es) (hl : lookA T t es k ok = some r) (hk : VR S β k vk) : Pur Try.prog W S β (Instr.lookup t (.map (some b)) vk ok) r := by
  obtain ⟨ents, clock, h1, h2, h3⟩ := h
  exact look_ok tok hl hk h2 (.inr ⟨b, clock, rfl, h1⟩)
theorem leaves_marks {F : Fence} {n : Nat} {P : Program} {fn : Func} {tmps : Array Value} {R : Ending → World → Prop} (n₀ : Nat) (I : World → Prop) (hI : ∀ W D, n₀ ≤ D → I W → W.heap[D]? = some (.deferred (some [])) → I (W.putObj D (.deferred none)))
    (hend : ∀ W, I W → LeavesInM F n P fn tmps R [] .returning W) : ∀ (Ds : List Nat) (W : World), Ds.Nodup → (∀ D ∈ Ds, n₀ ≤ D ∧ W.heap[D]? = some (.deferred (some []))) → I W →
    LeavesInM F n P fn tmps R (Ds.map fun D => { target := .collected D, args := #[] }) .returning W
  | [], W, _, _, hW => hend W hW
  | D :: Ds, W, hn, hD, hW => by
    have hn' := List.nodup_cons.1 hn
    have hk := (hD D (by simp)).2
    refine ⟨by simp, .inl ⟨D, _, rfl, run_takeDeferred hk, ?_⟩⟩
    refine leaves_marks n₀ I hI hend Ds _ hn'.2 (fun E hE => ⟨(hD E (by simp [hE])).1, ?_⟩) (hI W D (hD D (by simp)).1 hW hk)
    rw [World.putObj_heap_other (fun e => hn'.1 (by rw [← e]; exact hE))]
    exact (hD E (by simp [hE])).2
theorem idx_step {V : Type} {l : List (Str × List (Str × V))} {k : Nat} {m : Str × List (Str × V)} (h : l[k]? = some m) (seen : List Str) (out : List (Ref × V)) :
    idxG (l.drop k) seen out = (if m.1 ∈ seen then idxG (l.drop (k + 1)) seen out else idxG (l.drop (k + 1)) (seen ++ [m.1]) (idxF m.1 m.2 out)) := by
  obtain ⟨hlt, rfl⟩ := List.getElem?_eq_some_iff.1 h
  rw [List.drop_eq_getElem_cons hlt]
  rfl
abbrev PF (S : Stab) (β : List Blk) := { p : (Nat × F12) × (Str × AV) // FunR S β p.2 p.1.2 }
def outOf {S : Stab} {β : List Blk} (mn : Str) (pre : List (PF S β)) (out : List (Ref × AV)) : List (Ref × AV) := pre.foldl (fun o x => putK o (mn, x.1.2.1) x.1.2.2) out
theorem pfs_ex {S : Stab} {β : List Blk} {l : List (Str × AV)} {zs : List F12} (h : FunsR S β l zs) : ∃ yl : List (PF S β), yl.length = zs.length ∧ (∀ k (hk : k < yl.length), (yl[k]).1.1 = (zs.length - 1 - k, zs[zs.length - 1 - k]?.getD default)) ∧ ∀ mn out, outOf mn yl out = idxF mn l out := by
  have hl := h.length
  have hget : ∀ j, j < l.length → FunR S β (l[l.length - 1 - j]?.getD default) (zs[l.length - 1 - j]?.getD default) := fun j hj => by
    obtain ⟨y, h1, h2⟩ := h.get (i := l.length - 1 - j) (by omega)
    rw [h1]; exact h2
  let yl : List (PF S β) := (List.range l.length).pmap (fun j hj => ⟨((l.length - 1 - j, zs[l.length - 1 - j]?.getD default), l[l.length - 1 - j]?.getD default), hget j hj⟩) (fun j hj => by simpa using hj)
  have hyl : yl.length = l.length := by simp [yl]
  have hk : ∀ k (hk : k < yl.length), (yl[k]).1 = ((l.length - 1 - k, zs[l.length - 1 - k]?.getD default), l[l.length - 1 - k]?.getD default) := fun k hk => by simp [yl]
  refine ⟨yl, by rw [hyl, hl], fun k h => by rw [hk k h, hl], fun mn out => ?_⟩
  have hrev : yl.map (fun x => x.1.2) = l.reverse := by
    apply List.ext_getElem
    · simp [hyl]
    · intro i h1 h2
      have hi : i < l.length := by simpa using h2
      rw [List.getElem_map, hk i (by rw [hyl]; exact hi), List.getElem_reverse]
      simp [List.getElem?_eq_getElem (show l.length - 1 - i < l.length by omega)]
  unfold outOf idxF
  rw [← List.foldl_reverse, ← hrev, List.foldl_map]
structure IdxI (S : Stab) (β : List Blk) (w : World) (l : List (Str × List (Str × AV))) (B3 bs bo k : Nat) (Ds : List Nat) (W : World) : Prop where
  below : Below w.heap.size w W
  b3 : W.heap[B3]? = some (.cells #[.map (some bo)] 56 (0, 0))
  maps : ∃ seen out, MapIs S β W bs (seen.map seenA) ∧ MapIs S β W bo (out.map (entA id)) ∧ idxG (l.drop k) seen out = idxG l [] []
  marks : Ds.Nodup ∧ ∀ D ∈ Ds, w.heap.size ≤ D ∧ W.heap[D]? = some (.deferred (some []))
set_option maxHeartbeats 8000000 in
theorem idx_in (F : Fence) (n : Nat) (f1 : F.fn 25) (f2 : F.fn 40) (f3 : F.fn 51) (hro : F.round = none) (hn : 5 ≤ n) (S : Stab) (β : List Blk) (a : Option Addr) (len cap : Nat) (zs : List M9) (l : List (Str × List (Str × AV))) (w : World) (hR : ModsR S β w l zs) (hlen : len = zs.length) (hmax : l.length ≤ 1000000 ∧ ∀ m ∈ l, m.2.length ≤ 1000000)
    (hcells : zs = [] ∨ ∃ b off, a = some ⟨b, off, none⟩ ∧ b < w.heap.size ∧ Cells9 w b off zs) :
    CallsIn F n Try.prog 25 #[.slice a len cap] w fun e W' => ∃ bo, e = .returned (.map (some bo)) ∧ w.heap.size ≤ bo ∧ MapIs S β W' bo ((idxG l [] []).map (entA id)) ∧ Below w.heap.size w W' := by
  have h1 : 1 ≤ n := by omega
  have hll := hR.length
  obtain rfl : len = l.length := by omega
  clear hlen
  have hmk : ∀ t W, (Instr.makeMap t none).run Try.prog W = .ok (.map (some W.heap.size)) (W.alloc (.map #[] 0)) := fun t W => by simp [Instr.makeMap]
  refine callsIn_of_wp_marks Try.func25 rfl f1 ?_ hro
  simp only [Try.ntmps25, List.size_toArray, List.length_cons, List.length_nil, Nat.reduceAdd, Nat.reduceSub, Array.replicate_succ, Array.replicate_zero, List.push_toArray, List.append_toArray, List.nil_append, List.cons_append]
  gi_wp2
  have e3 := World.alloc_heap_new (w.alloc (.map #[] 0)) (.cells #[.map (some w.heap.size)] 56)
  have e4 := World.alloc_heap_new ((w.alloc (.map #[] 0)).alloc (.cells #[.map (some w.heap.size)] 56)) (.map #[] 0)
  have e2 := World.alloc_heap_new w (.map #[] 0)
  simp only [World.size_alloc] at e3 e4
  have hB0 : Below w.heap.size w (((w.alloc (.map #[] 0)).alloc (.cells #[.map (some w.heap.size)] 56)).alloc (.map #[] 0)) :=
    (((Below.refl _ w).alloc (Nat.le_refl _) _).alloc (by simp) _).alloc (by simp; omega) _
  have hb3 : (((w.alloc (.map #[] 0)).alloc (.cells #[.map (some w.heap.size)] 56)).alloc (.map #[] 0)).heap[w.heap.size + 1]? = some (.cells #[.map (some w.heap.size)] 56 (0, 0)) := (alloc_old _ _ (by simp)).trans e3
  have hm2 : MapIs S β (((w.alloc (.map #[] 0)).alloc (.cells #[.map (some w.heap.size)] 56)).alloc (.map #[] 0)) w.heap.size [] :=
    ⟨#[], 0, (alloc_old _ _ (by simp; omega)).trans ((alloc_old _ _ (by simp)).trans e2), ⟨rfl, fun i e x he => by simp at he⟩, fun x hx => by simp at hx, by simp⟩
  have hm4 : MapIs S β (((w.alloc (.map #[] 0)).alloc (.cells #[.map (some w.heap.size)] 56)).alloc (.map #[] 0)) (w.heap.size + 1 + 1) [] :=
    ⟨#[], 0, e4, ⟨rfl, fun i e x he => by simp at he⟩, fun x hx => by simp at hx, by simp⟩
  generalize (((w.alloc (.map #[] 0)).alloc (.cells #[.map (some w.heap.size)] 56)).alloc (.map #[] 0)) = W0 at hB0 hb3 hm2 hm4 ⊢
  clear e2 e3 e4
  refine wpIn_loop (fun a' W => ∃ (k : Nat) (Ds : List Nat) (j1 j5 j6 j7 j8 j14 j15 j16 j17 j18 j19 j20 j21 j22 j23 j24 j25 j26 j27 j28 j29 j30 j31 j32 j33 j34 j35 j36 j37 : Value), IdxI S β w l (w.heap.size + 1) (w.heap.size + 1 + 1) w.heap.size k Ds W ∧ k ≤ l.length ∧ a' = { tmps := #[.slice a l.length cap, j1, .map none, .pointer (some ⟨w.heap.size + 1, 0, none⟩), .map (some (w.heap.size + 1 + 1)), j5, j6, j7, j8, .map (some w.heap.size), .map (some (w.heap.size + 1 + 1)), .slice a l.length cap, .int .i64 (l.length : Int), .int .i64 (k : Int), j14, j15, j16, j17, j18, j19, j20, j21, j22, j23, j24, j25, j26, j27, j28, j29, j30, j31, j32, j33, j34, j35, j36, j37], defers := Ds.map fun D => { target := .collected D, args := #[] } })
    (fun a' _ => ((l.length : Int) - intOf (a'.tmps.getD 13 undef)).toNat) ⟨0, [], undef, undef, undef, undef, undef, undef, undef, undef, undef, undef, undef, undef, undef, undef, undef, undef, undef, undef, undef, undef, undef, undef, undef, undef, undef, undef, undef, undef, undef, ⟨hB0, hb3, ⟨[], [], hm4, hm2, by simp⟩, by simp, by simp⟩, Nat.zero_le _, rfl⟩ ?_
  rintro a1 W ⟨k, Ds, j1, j5, j6, j7, j8, j14, j15, j16, j17, j18, j19, j20, j21, j22, j23, j24, j25, j26, j27, j28, j29, j30, j31, j32, j33, j34, j35, j36, j37, hI, hk, rfl⟩
  by_cases hlt : k < l.length
  · obtain ⟨m, hm, hMn, fz, hfz, hfuns, hsl, hs1', hs2', hs3', hs5', hs6', hs7', hs8'⟩ := hR.get hlt
    have hkz : k < zs.length := by omega
    obtain ⟨b, off, rfl, hb, hcs⟩ := hcells.resolve_left (by rintro rfl; simp at hkz)
    have hkl : k < l.length := by omega
    obtain ⟨seen, out, hs, ho, hidx⟩ := hI.maps
    rw [idx_step hm] at hidx
    have hK0 : KeepX w.heap.size w.heap.size w W := KeepX.of_below hI.below
    obtain ⟨c0, c1, c2, c3, c4, c5, c6, c7, c8⟩ := (hcs.keep hK0 hb (by omega)) k hkz
    generalize hz : zs[k]?.getD default = z at hMn hfuns hsl hs1' hs2' hs3' hs5' hs6' hs7' hs8' c0 c1 c2 c3 c4 c5 c6 c7 c8
    obtain ⟨z0, z1, z2, z3, z4, z5, z6, z7, z8⟩ := z
    simp only at hMn hfuns hsl hs1' hs2' hs3' hs5' hs6' hs7' hs8' c0 c1 c2 c3 c4 c5 c6 c7 c8
    obtain ⟨sp, sl, sc, rfl⟩ := hsl
    obtain ⟨p1, l1, q1, rfl⟩ := hs1'
    obtain ⟨p2, l2, q2, rfl⟩ := hs2'
    obtain ⟨p3, l3, q3, rfl⟩ := hs3'
    obtain ⟨p5, rfl⟩ := hs5'
    obtain ⟨p6, l6, q6, rfl⟩ := hs6'
    obtain ⟨p7, l7, q7, rfl⟩ := hs7'
    obtain ⟨p8, l8, q8, rfl⟩ := hs8'
    have hn1 : W.heap.size < (W.alloc (.cells #[.string z0, .slice p1 l1 q1, .slice p2 l2 q2, .slice p3 l3 q3, .slice sp sl sc, .bool p5, .slice p6 l6 q6, .slice p7 l7 q7, .slice p8 l8 q8] 42)).heap.size := by simp
    have hB1 : Below w.heap.size w (W.alloc (.cells #[.string z0, .slice p1 l1 q1, .slice p2 l2 q2, .slice p3 l3 q3, .slice sp sl sc, .bool p5, .slice p6 l6 q6, .slice p7 l7 q7, .slice p8 l8 q8] 42)) := hI.below.alloc hI.below.size _
    have hr1 : (W.alloc (.cells #[.string z0, .slice p1 l1 q1, .slice p2 l2 q2, .slice p3 l3 q3, .slice sp sl sc, .bool p5, .slice p6 l6 q6, .slice p7 l7 q7, .slice p8 l8 q8] 42)).heap[W.heap.size]? = some (.cells #[.string z0, .slice p1 l1 q1, .slice p2 l2 q2, .slice p3 l3 q3, .slice sp sl sc, .bool p5, .slice p6 l6 q6, .slice p7 l7 q7, .slice p8 l8 q8] 42 (0, 0)) := World.alloc_heap_new W _
    have hb31 : (W.alloc (.cells #[.string z0, .slice p1 l1 q1, .slice p2 l2 q2, .slice p3 l3 q3, .slice sp sl sc, .bool p5, .slice p6 l6 q6, .slice p7 l7 q7, .slice p8 l8 q8] 42)).heap[w.heap.size + 1]? = some (.cells #[.map (some w.heap.size)] 56 (0, 0)) := (alloc_old W _ (Array.getElem?_eq_some_iff.1 hI.b3).1).trans hI.b3
    have hs1 := hs.kept (alloc_old W (.cells #[.string z0, .slice p1 l1 q1, .slice p2 l2 q2, .slice p3 l3 q3, .slice sp sl sc, .bool p5, .slice p6 l6 q6, .slice p7 l7 q7, .slice p8 l8 q8] 42) hs.lt)
    have ho1 := ho.kept (alloc_old W (.cells #[.string z0, .slice p1 l1 q1, .slice p2 l2 q2, .slice p3 l3 q3, .slice sp sl sc, .bool p5, .slice p6 l6 q6, .slice p7 l7 q7, .slice p8 l8 q8] 42) ho.lt)
    have hk1 : ∀ D ∈ Ds, w.heap.size ≤ D ∧ (W.alloc (.cells #[.string z0, .slice p1 l1 q1, .slice p2 l2 q2, .slice p3 l3 q3, .slice sp sl sc, .bool p5, .slice p6 l6 q6, .slice p7 l7 q7, .slice p8 l8 q8] 42)).heap[D]? = some (.deferred (some [])) := fun D hD => ⟨(hI.marks.2 D hD).1, (alloc_old W _ (Array.getElem?_eq_some_iff.1 (hI.marks.2 D hD).2).1).trans (hI.marks.2 D hD).2⟩
    have hname : VR S β (.str m.1) (.string z0) := by simp only [VR]; exact ⟨z0, rfl, hMn⟩
    obtain ⟨v, hlook, hvr⟩ := hs1.look (t := 79) (look_seen seen m.1) hname
    simp only [VR] at hvr
    subst hvr
    by_cases hse : m.1 ∈ seen
    · rw [if_pos hse] at hidx
      simp only [hse, decide_true] at hlook
      gi_wp2_with (first
        | (gi_at_lookup; refine wpListIn_lookup_run rfl _ _ 79 false rfl hlook ?_)
        | gi_in)
      refine ⟨⟨k + 1, Ds, _, _, _, _, _, _, _, _, _, _, _, _, _, _, _, _, _, _, _, _, _, _, _, _, _, _, _, _, _, ⟨hB1, hb31, ⟨seen, out, hs1, ho1, hidx⟩, hI.marks.1, hk1⟩, by omega, rfl⟩, ?_⟩
      simp [intOf]
      omega
    · rw [if_neg hse] at hidx
      simp only [hse, decide_false] at hlook
      obtain ⟨os, hupd, hos, hs2⟩ := hs1.put (t := 79) mt79 rfl (put_seen seen m.1 hse) hname (vv := .bool true) (by simp only [VR])
      have hx1 : W.heap.size ≠ w.heap.size + 1 + 1 := fun e => by have := hs.lt; omega
      obtain ⟨W2, hW2⟩ : ∃ W2, setBlk (W.alloc (.cells #[.string z0, .slice p1 l1 q1, .slice p2 l2 q2, .slice p3 l3 q3, .slice sp sl sc, .bool p5, .slice p6 l6 q6, .slice p7 l7 q7, .slice p8 l8 q8] 42)) (w.heap.size + 1 + 1) os = W2 := ⟨_, rfl⟩
      have hr2 : W2.heap[W.heap.size]? = some (.cells #[.string z0, .slice p1 l1 q1, .slice p2 l2 q2, .slice p3 l3 q3, .slice sp sl sc, .bool p5, .slice p6 l6 q6, .slice p7 l7 q7, .slice p8 l8 q8] 42 (0, 0)) := by rw [← hW2, setBlk_old _ _ _ hx1]; exact hr1
      have hb32 : W2.heap[w.heap.size + 1]? = some (.cells #[.map (some w.heap.size)] 56 (0, 0)) := by rw [← hW2, setBlk_old _ _ _ (by omega)]; exact hb31
      have ho2 : MapIs S β W2 w.heap.size (out.map (entA id)) := ho1.kept (by rw [← hW2, setBlk_old _ _ _ (by omega)])
      have hB2 : Below w.heap.size w W2 := by rw [← hW2]; exact hB1.grown (grown_setBlk _ _ _) hB1.size (fun j e => by cases e; omega)
      have hk2 : ∀ D ∈ Ds, w.heap.size ≤ D ∧ W2.heap[D]? = some (.deferred (some [])) := fun D hD => ⟨(hk1 D hD).1, by
        rw [← hW2, setBlk_old _ _ _ (fun e => by obtain ⟨en, cl, k1, _⟩ := hs1; rw [← e, (hk1 D hD).2] at k1; cases k1)]; exact (hk1 D hD).2⟩
      rw [hW2] at hupd hs2
      have hsz2 : W2.heap.size = W.heap.size + 1 := by rw [← hW2]; simp [setBlk]
      clear hW2
      have hcm0 : W2.cell? ⟨W.heap.size, 0, none⟩ = some (.string z0) := by simp [World.cell?, hr2]
      have hcm4 : W2.cell? ⟨W.heap.size, 4, none⟩ = some (.slice sp sl sc) := by simp [World.cell?, hr2]
      gi_wp2_with (first
        | (gi_at_lookup; refine wpListIn_lookup_run rfl _ _ 79 false rfl hlook ?_)
        | (gi_at_mapUpdate; refine wpListIn_update_run rfl _ _ _ 79 rfl hupd ?_)
        | (gi_at_call 40; refine (back_in F (n - 1) f2 hro _ _ _ _).mono ?_; rintro e w' ⟨rfl, rfl⟩)
        | gi_in)
      obtain ⟨yl, hyl, hye, hyo⟩ := pfs_ex hfz
      have hD : ∀ D ∈ Ds, D < W.heap.size := fun D hD => (Array.getElem?_eq_some_iff.1 (hI.marks.2 D hD).2).1
      have hs3 := hs2.kept (alloc_old W2 (.cells #[.slice sp sl sc] 38) hs2.lt)
      have ho3 := ho2.kept (alloc_old W2 (.cells #[.slice sp sl sc] 38) ho2.lt)
      have hB3 : Below w.heap.size w (W2.alloc (.cells #[.slice sp sl sc] 38)) := hB2.alloc hB2.size _
      have hr3 : (W2.alloc (.cells #[.slice sp sl sc] 38)).heap[W.heap.size]? = some (.cells #[.string z0, .slice p1 l1 q1, .slice p2 l2 q2, .slice p3 l3 q3, .slice sp sl sc, .bool p5, .slice p6 l6 q6, .slice p7 l7 q7, .slice p8 l8 q8] 42 (0, 0)) := (alloc_old W2 _ (by omega)).trans hr2
      have hb33 : (W2.alloc (.cells #[.slice sp sl sc] 38)).heap[w.heap.size + 1]? = some (.cells #[.map (some w.heap.size)] 56 (0, 0)) := (alloc_old W2 _ (Array.getElem?_eq_some_iff.1 hb32).1).trans hb32
      have hbx3 : (W2.alloc (.cells #[.slice sp sl sc] 38)).cell? ⟨W.heap.size + 1, 0, none⟩ = some (.slice sp sl sc) := by
        have := World.alloc_heap_new W2 (.cells #[.slice sp sl sc] 38)
        rw [hsz2] at this
        simp [World.cell?, this]
      have hk3 : ∀ D ∈ Ds, w.heap.size ≤ D ∧ (W2.alloc (.cells #[.slice sp sl sc] 38)).heap[D]? = some (.deferred (some [])) := fun D hd => ⟨(hk2 D hd).1, (alloc_old W2 _ (by have := hD D hd; omega)).trans (hk2 D hd).2⟩
      have hsz3 : (W2.alloc (.cells #[.slice sp sl sc] 38)).heap.size = W.heap.size + 2 := by simp [hsz2]
      have hwW := hI.below.size
      have hbsW := hs.lt
      generalize (W2.alloc (.cells #[.slice sp sl sc] 38)) = W3 at hs3 ho3 hB3 hr3 hb33 hbx3 hk3 hsz3 ⊢
      clear hs2 ho2 hB2 hr2 hb32 hk2 hsz2 hupd hcm0 hcm4 hlook hs1 ho1 hB1 hr1 hb31 hk1 hn1 W2
      have hfl := hfz.length
      have hfm := hmax.2 m (List.mem_of_getElem? hm)
      have hF3 : Funs12 W3.heap.size w.heap.size W3 (.slice sp sl sc) fz := (hfuns.keep (KeepX.of_below hB3)).mono (by omega)
      have keepO : ∀ (j : Nat) (X Y : World) (row : Option Nat) (o : Obj), X.heap[j]? = some o → j < W3.heap.size → X.grownBy Y row → (∀ r, row = some r → W3.heap.size ≤ r ∧ ∃ o : Obj, X.heap[r]? = some o ∧ o.isCells = false) → Y.heap[j]? = X.heap[j]? := fun j X Y row o hj hlt hg hr =>
        hg.block j (Array.getElem?_eq_some_iff.1 hj).1 (fun e => by have := (hr j e.symm).1; omega)
      refine wpIn_rangeFunc_ownH hro h1 (gf := 51) (lb := #[.pointer (some ⟨W.heap.size + 1, 0, none⟩)]) rfl f3 (enters_of Try.func51 (by kernel_rfl) rfl)
        (back_stops F (n - 1) f3 hro (by omega) (W.heap.size + 1) w.heap.size (.slice sp sl sc) fz (by omega) (fun x : PF S β => #[Value.int .i64 (x.1.1.1 : Int), x.1.1.2.v]) yl hyl (fun k hk => by rw [hye k hk]) W3 (by omega) (by omega) hbx3 hF3)
        keepX_t (keepX_b (Nat.le_refl _)) (Below.refl _ _) (fun _ => rfl)
        (fun pre W' => W3.heap.size ≤ W'.heap.size ∧ Below w.heap.size w W' ∧ W'.heap[w.heap.size + 1]? = some (.cells #[.map (some w.heap.size)] 56 (0, 0)) ∧ W'.heap[W.heap.size]? = some (.cells #[.string z0, .slice p1 l1 q1, .slice p2 l2 q2, .slice p3 l3 q3, .slice sp sl sc, .bool p5, .slice p6 l6 q6, .slice p7 l7 q7, .slice p8 l8 q8] 42 (0, 0)) ∧
          MapIs S β W' (w.heap.size + 1 + 1) ((seen ++ [m.1]).map seenA) ∧ MapIs S β W' w.heap.size ((outOf m.1 pre out).map (entA id)) ∧ ∀ D ∈ Ds, w.heap.size ≤ D ∧ W'.heap[D]? = some (.deferred (some [])))
        (fun _ _ _ => False) ?hI (fun c s A B row h => h.elim) ⟨Nat.le_refl _, hB3, hb33, hr3, hs3, ho3, hk3⟩
        (fun y a' W' => ∃ Bx, W.heap.size + 2 ≤ Bx ∧ W'.heap[Bx]? = some (.cells y.1.1.2.arr 48 (0, 0)) ∧ a' = { tmps := #[.slice (some ⟨b, off, none⟩) l.length cap, j1, .map none, .pointer (some ⟨w.heap.size + 1, 0, none⟩), .map (some (w.heap.size + 1 + 1)), j5, .pointer (some ⟨W.heap.size, 0, none⟩), j7, .pointer (some ⟨Bx, 0, none⟩), .map (some w.heap.size), .map (some (w.heap.size + 1 + 1)), .slice (some ⟨b, off, none⟩) l.length cap, .int .i64 (l.length : Int), .int .i64 (k : Int), .bool true, .pointer (some ⟨b, off + k * 9, none⟩), .agg #[.string z0, .slice p1 l1 q1, .slice p2 l2 q2, .slice p3 l3 q3, .slice sp sl sc, .bool p5, .slice p6 l6 q6, .slice p7 l7 q7, .slice p8 l8 q8], .map (some (w.heap.size + 1 + 1)), .pointer (some ⟨W.heap.size, 0, none⟩), .string z0, .bool false, .map (some (w.heap.size + 1 + 1)), .pointer (some ⟨W.heap.size, 0, none⟩), .string z0, .pointer (some ⟨W.heap.size, 4, none⟩), .slice sp sl sc, .func (.func 51) #[] #[.pointer (some ⟨W.heap.size + 1, 0, none⟩)], .int .i64 (y.1.1.1 : Int), y.1.1.2.v, j29, j30, j31, j32, j33, j34, j35, j36, j37], defers := [] })
        ?hAx ?assign ?body ?done ?stop
      case hI =>
        rintro s X Y row ⟨i0, i1, i2, i3, i4, i5, i6⟩ hg hr
        refine ⟨Nat.le_trans i0 hg.size, i1.grown hg i1.size (fun k e => by have := (hr k e).1; omega), (keepO _ X Y row _ i2 (by omega) hg hr).trans i2, (keepO _ X Y row _ i3 (by omega) hg hr).trans i3, ?_, ?_, fun D hd => ⟨(i6 D hd).1, (keepO _ X Y row _ (i6 D hd).2 (by have := hD D hd; omega) hg hr).trans (i6 D hd).2⟩⟩
        · obtain ⟨o, ho, _⟩ := i4.not_cells
          exact i4.kept (keepO _ X Y row _ ho (by omega) hg hr)
        · obtain ⟨o, ho, _⟩ := i5.not_cells
          exact i5.kept (keepO _ X Y row _ ho (by omega) hg hr)
      case hAx =>
        rintro y a' _ X Y row ⟨Bx, x1, x2, x3⟩ hg hr
        exact ⟨Bx, x1, (hg.block Bx (Array.getElem?_eq_some_iff.1 x2).1 (fun e => by obtain ⟨_, o, ho, hc⟩ := hr Bx e.symm; rw [x2] at ho; cases ho; cases hc)).trans x2, x3⟩
      case assign =>
        rintro lo pre y W' K ⟨i0, i1, i2, i3, i4, i5, i6⟩ hK
        obtain ⟨⟨⟨yi, ⟨y0, y1, y2, y3, y4, y5, y6, y7, y8, y9, y10, y11⟩⟩, yn, ya⟩, hy1, hy2, g1, g2, g3, g4, g5, g6, g7, g8, g9, g10, g11⟩ := y
        simp only at hy1 hy2 g1 g2 g3 g4 g5 g6 g7 g8 g9 g10 g11
        obtain ⟨yv1, rfl⟩ := g1
        obtain ⟨yp2, yl2, yc2, rfl⟩ := g2
        obtain ⟨yv3, rfl⟩ := g3
        obtain ⟨yp4, yl4, yc4, rfl⟩ := g4
        obtain ⟨yv5, rfl⟩ := g5
        obtain ⟨yv6, rfl⟩ := g6
        obtain ⟨yv7, rfl⟩ := g7
        obtain ⟨yv8, rfl⟩ := g8
        obtain ⟨yv9, rfl⟩ := g9
        obtain ⟨yp10, yl10, yc10, rfl⟩ := g10
        obtain ⟨yp11, yl11, yc11, rfl⟩ := g11
        simp only [F12.v, F12.arr] at hK ⊢
        gi_wp2
        exact hK _ _ ((KeepsOthers.alloc _ _).from _) (fun k hk _ => alloc_old W' _ (by omega)) ⟨by simp; omega, i1.alloc i1.size _, (alloc_old W' _ (Array.getElem?_eq_some_iff.1 i2).1).trans i2, (alloc_old W' _ (Array.getElem?_eq_some_iff.1 i3).1).trans i3, i4.kept (alloc_old W' _ i4.lt), i5.kept (alloc_old W' _ i5.lt), fun D hd => ⟨(i6 D hd).1, (alloc_old W' _ (Array.getElem?_eq_some_iff.1 (i6 D hd).2).1).trans (i6 D hd).2⟩⟩ ⟨W'.heap.size, by omega, World.alloc_heap_new W' _, rfl⟩
      case body =>
        rintro lo pre y a' W' hl ⟨r, hr⟩ ⟨i0, i1, i2, i3, i4, i5, i6⟩ ⟨Bx, hbx, rx, rfl⟩ hlen
        obtain ⟨⟨⟨yi, ⟨y0, y1, y2, y3, y4, y5, y6, y7, y8, y9, y10, y11⟩⟩, yn, ya⟩, hy1, hy2, g1, g2, g3, g4, g5, g6, g7, g8, g9, g10, g11⟩ := y
        simp only at hy1 hy2 g1 g2 g3 g4 g5 g6 g7 g8 g9 g10 g11 rx
        obtain ⟨yv1, rfl⟩ := g1
        obtain ⟨yp2, yl2, yc2, rfl⟩ := g2
        obtain ⟨yv3, rfl⟩ := g3
        obtain ⟨yp4, yl4, yc4, rfl⟩ := g4
        obtain ⟨yv5, rfl⟩ := g5
        obtain ⟨yv6, rfl⟩ := g6
        obtain ⟨yv7, rfl⟩ := g7
        obtain ⟨yv8, rfl⟩ := g8
        obtain ⟨yv9, rfl⟩ := g9
        obtain ⟨yp10, yl10, yc10, rfl⟩ := g10
        obtain ⟨yp11, yl11, yc11, rfl⟩ := g11
        simp only [F12.arr] at rx
        simp only [F12.v] at hy2 ⊢
        have hc3 : W'.cell? ⟨w.heap.size + 1, 0, none⟩ = some (.map (some w.heap.size)) := by simp [World.cell?, i2]
        have hcm0 : W'.cell? ⟨W.heap.size, 0, none⟩ = some (.string z0) := by simp [World.cell?, i3]
        have hcy0 : W'.cell? ⟨Bx, 0, none⟩ = some (.string y0) := by simp [World.cell?, rx]
        have hcy1 : W'.cell? ⟨Bx, 1, none⟩ = some (.bool yv1) := by simp [World.cell?, rx]
        have hcy2 : W'.cell? ⟨Bx, 2, none⟩ = some (.slice yp2 yl2 yc2) := by simp [World.cell?, rx]
        have hcy3 : W'.cell? ⟨Bx, 3, none⟩ = some (.int .i64 yv3) := by simp [World.cell?, rx]
        have hcy4 : W'.cell? ⟨Bx, 4, none⟩ = some (.slice yp4 yl4 yc4) := by simp [World.cell?, rx]
        have hcy5 : W'.cell? ⟨Bx, 5, none⟩ = some (.int .i64 yv5) := by simp [World.cell?, rx]
        have hcy6 : W'.cell? ⟨Bx, 6, none⟩ = some (.int .i64 yv6) := by simp [World.cell?, rx]
        have hcy7 : W'.cell? ⟨Bx, 7, none⟩ = some (.int .i64 yv7) := by simp [World.cell?, rx]
        have hcy8 : W'.cell? ⟨Bx, 8, none⟩ = some (.string yv8) := by simp [World.cell?, rx]
        have hcy9 : W'.cell? ⟨Bx, 9, none⟩ = some (.string yv9) := by simp [World.cell?, rx]
        have hcy10 : W'.cell? ⟨Bx, 10, none⟩ = some (.slice yp10 yl10 yc10) := by simp [World.cell?, rx]
        have hcy11 : W'.cell? ⟨Bx, 11, none⟩ = some (.slice yp11 yl11 yc11) := by simp [World.cell?, rx]
        have hkr : VR S β (refA (m.1, yn)) (.agg #[.string z0, .string y0]) := by
          simp only [refA, VR, VRs]
          exact ⟨_, rfl, _, _, rfl, ⟨z0, rfl, hMn⟩, _, _, rfl, ⟨y0, rfl, hy1⟩, rfl⟩
        obtain ⟨om, hupd, hom, ho'⟩ := i5.put (t := 56) mt56 rfl (put_ent id (outOf m.1 pre out) (m.1, yn) ya) hkr hy2
        gi_wp2_with (first
          | (gi_at_mapUpdate; refine wpListIn_update_run rfl _ _ _ 56 rfl hupd ?_)
          | gi_in)
        refine ⟨⟨by simp [setBlk], fun k o hk hko _ => (setBlk_old _ _ _ (by omega)).trans hko⟩, fun k hk hn => setBlk_old _ _ _ hn, by simp [setBlk]; omega, i1.grown (grown_setBlk _ _ _) i1.size (fun j e => by cases e; omega), (setBlk_old _ _ _ (by omega)).trans i2, (setBlk_old _ _ _ (by omega)).trans i3, i4.kept (setBlk_old _ _ _ (by omega)), ?_, fun D hd => ⟨(i6 D hd).1, (setBlk_old _ _ _ (fun e => ?_)).trans (i6 D hd).2⟩⟩
        · have hout : ∀ (x : PF S β), outOf m.1 (pre ++ [x]) out = putK (outOf m.1 pre out) (m.1, x.1.2.1) x.1.2.2 := fun x => by simp [outOf]
          rw [hout]
          exact ho'
        · obtain ⟨o, hoo, _⟩ := i5.not_cells
          obtain ⟨en, cl, k1, _⟩ := i5
          rw [← e, (i6 D hd).2] at k1
          cases k1
      case done =>
        rintro D ys W' hDl rfl ⟨i0, i1, i2, i3, i4, i5, i6⟩ hK
        gi_wp2
        rw [hyo] at i5
        refine ⟨⟨k + 1, D :: Ds, _, _, _, _, _, _, _, _, _, _, _, _, _, _, _, _, _, _, _, _, _, _, _, _, _, _, _, _, _, ⟨i1, i2, ⟨seen ++ [m.1], _, i4, i5, hidx⟩, List.nodup_cons.2 ⟨fun hd => by have := hD D hd; omega, hI.marks.1⟩, fun E hE => ?_⟩, by omega, rfl⟩, ?_⟩
        · rcases List.mem_cons.1 hE with rfl | hE
          · exact ⟨by omega, hK⟩
          · exact i6 E hE
        · simp [intOf]
          omega
      case stop =>
        rintro D c pre W' hD _ h hK
        exact h.elim
  · obtain rfl : k = l.length := by omega
    have hc3 : W.cell? ⟨w.heap.size + 1, 0, none⟩ = some (.map (some w.heap.size)) := by simp [World.cell?, hI.b3]
    gi_wp2
    obtain ⟨seen, out, hs, ho, hidx⟩ := hI.maps
    have hout : out = idxG l [] [] := by simpa [idxG] using hidx
    subst hout
    refine leaves_marks w.heap.size (fun W' => Below w.heap.size w W' ∧ MapIs S β W' w.heap.size ((idxG l [] []).map (entA id))) (fun W' D hD ⟨i1, i2⟩ hk => ⟨i1.trans (belowK_b (w := w) (Nat.le_refl _) W' D _ _ hD hk rfl rfl), i2.kept ?_⟩) (fun W' ⟨i1, i2⟩ => ?_) Ds W hI.marks.1 hI.marks.2 ⟨hI.below, ho⟩
    · refine World.putObj_heap_other (fun e => ?_)
      obtain ⟨ents, clock, k1, _⟩ := i2
      have : W'.heap[D]? = some (.map ents clock) := by first | (rw [e]; exact k1) | (rw [← e]; exact k1)
      rw [this] at hk
      cases hk
    · exact ⟨_, results_tmp rfl _ _ _, w.heap.size, rfl, Nat.le_refl _, i2, i1⟩
end Go.Proofs.Ytpnonheegflllaa
