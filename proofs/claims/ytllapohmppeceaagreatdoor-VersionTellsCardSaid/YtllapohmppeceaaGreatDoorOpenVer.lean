/- A version, read as an argument. No condition. -/
import Derived.Test.YtllapohmppeceaaGreatDoorCards
import Derived.Test.YtllapohmppeceaaGreatDoorSlices
import Derived.Lib.SmallJoins
namespace Go.Proofs.YtllapohmppeceaaGreatDoor
open Go Go.Av Go.Av.Ap Go.ChangeShapes Go.WideShapes Go.ChangeAt Go.RowKit Go.Joins Go.Deep
set_option maxRecDepth 1000000
section
variable {H : Type} {enc : TypeId × Value → H}
theorem one23 : oneCellFields Tryz.prog #[{ name := "Major", type := 3, offset := 0, embedded := false, tag := "", pkgPath := "", byteOffset := 0 }, { name := "Minor", type := 3, offset := 1, embedded := false, tag := "", pkgPath := "", byteOffset := 8 }, { name := "Patch", type := 3, offset := 2, embedded := false, tag := "", pkgPath := "", byteOffset := 16 }] = true := by kernel_rfl
theorem cells23 : Tryz.prog.cellsOf 23 = 3 := by kernel_rfl
theorem open_ver {W : World} {base b0 : Nat} {sp : Nat → Bool} {r : Reach} {held : Bool} {v : Value} {d : DataW H} {p : List MemPlace} (hv : Value.okWide Tryz.prog W r b0 23 v) (h : DataW.Trod enc Tryz.prog W base sp held 23 v d p) :
    ∃ x : Ver, v = .agg #[.int .i64 x.a, .int .i64 x.b, .int .i64 x.c] ∧ p = [] ∧ ∀ (W' : World) (base' : Nat) (sp' : Nat → Bool) (held' : Bool), DataW.Trod enc Tryz.prog W' base' sp' held' 23 v d [] := by
  obtain ⟨v0, v1, v2, y0, y1, y2, n, rfl, rfl, rfl, h0, h1, h2⟩ := open_agg3 Tryz.underlying23 one23 cells23 hv h
  obtain ⟨n0, e0, hy0, w0⟩ := DataW.trod_int Tryz.underlying3 h0
  obtain ⟨n1, e1, hy1, w1⟩ := DataW.trod_int Tryz.underlying3 h1
  obtain ⟨n2, e2, hy2, w2⟩ := DataW.trod_int Tryz.underlying3 h2
  simp only [List.cons.injEq, and_true] at e0 e1 e2
  subst e0 e1 e2 hy0 hy1 hy2
  refine ⟨⟨n0, n1, n2⟩, rfl, rfl, fun W' base' sp' held' => ?_⟩
  have := shut_agg3 (enc := enc) (w := W') (base := base') (spare := sp') (held := held') (v0 := .int .i64 n0) (v1 := .int .i64 n1) (v2 := .int .i64 n2) (y0 := (.lit (.int .i64 n0), [])) (y1 := (.lit (.int .i64 n1), [])) (y2 := (.lit (.int .i64 n2), [])) Tryz.underlying23 one23 cells23
    ⟨1, by simp [DataW.trod, Tryz.underlying3, w0]⟩ ⟨1, by simp [DataW.trod, Tryz.underlying3, w1]⟩ ⟨1, by simp [DataW.trod, Tryz.underlying3, w2]⟩
  exact this
end
abbrev w3 : Value := .agg #[.int .i64 0, .int .i64 0, .int .i64 0]
abbrev w0 : Value := .slice none 0 0
end Go.Proofs.YtllapohmppeceaaGreatDoor
