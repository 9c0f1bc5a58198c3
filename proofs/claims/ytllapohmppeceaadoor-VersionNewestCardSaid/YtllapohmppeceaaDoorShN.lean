/- The equations of the second program's functions. No condition. -/
import Derived.Test.YtllapohmppeceaaDoorN
import Derived.Test.YtllapohmppeceaaDoorSh1
namespace Go.Proofs.YtllapohmppeceaaDoor.N
open Go Go.Av
set_option maxRecDepth 100000
theorem E44 (call : FuncId → List AV → M AV) (fx : Fix AV) (a0 : AV) : evBody (pg.cx call Tryd.f44.ntmps ann44) fx Tryd.f44 (own 44) [a0] = S44 call fx a0 := by kernel_rfl
theorem C44 (a0 : AV) : callW pg 44 [a0] = isoP (S44 (callW pg) fixW (cl noHs a0)) := (callW_iso hOther rfl rfl rfl _).trans (congrArg isoP (E44 _ _ (cl noHs a0)))
theorem E28 (call : FuncId → List AV → M AV) (fx : Fix AV) (a0 a1 : AV) : evBody (pg.cx call Tryd.f28.ntmps ann28) fx Tryd.f28 (own 28) [a0, a1] = S28 call fx a0 a1 := by kernel_rfl
theorem C28 (a0 a1 : AV) : callW pg 28 [a0, a1] = isoP (S28 (callW pg) fixW (cl noHs a0) (cl noHs a1)) := (callW_iso hOther rfl rfl rfl _).trans (congrArg isoP (E28 _ _ (cl noHs a0) (cl noHs a1)))
theorem E27 (call : FuncId → List AV → M AV) (fx : Fix AV) (a0 : AV) : evBody (pg.cx call Tryd.f27.ntmps ann27) fx Tryd.f27 (own 27) [a0] = S27 call fx a0 := by kernel_rfl
theorem C27 (a0 : AV) : callW pg 27 [a0] = isoP (S27 (callW pg) fixW (cl noHs a0)) := (callW_iso hOther rfl rfl rfl _).trans (congrArg isoP (E27 _ _ (cl noHs a0)))
theorem E12 (call : FuncId → List AV → M AV) (fx : Fix AV) (a0 a1 : AV) : evBody (pg.cx call Tryd.f12.ntmps ann12) fx Tryd.f12 (own 12) [a0, a1] = S12 call fx a0 a1 := by kernel_rfl
theorem C12 (a0 a1 : AV) : callW pg 12 [a0, a1] = isoP (S12 (callW pg) fixW (cl noHs a0) (cl noHs a1)) := (callW_iso hOther rfl rfl rfl _).trans (congrArg isoP (E12 _ _ (cl noHs a0) (cl noHs a1)))
theorem E5 (call : FuncId → List AV → M AV) (fx : Fix AV) (a0 a1 a2 : AV) : evBody (pg.cx call Tryd.f5.ntmps ann5) fx Tryd.f5 (own 5) [a0, a1, a2] = S5 call fx a0 a1 a2 := by kernel_rfl
theorem C5 (a0 a1 a2 : AV) : callW pg 5 [a0, a1, a2] = isoP (S5 (callW pg) fixW (cl noHs a0) (cl noHs a1) (cl noHs a2)) := (callW_iso hOther rfl rfl rfl _).trans (congrArg isoP (E5 _ _ (cl noHs a0) (cl noHs a1) (cl noHs a2)))
theorem E6 (call : FuncId → List AV → M AV) (fx : Fix AV) (a0 a1 a2 : AV) : evBody (pg.cx call Tryd.f6.ntmps ann6) fx Tryd.f6 (own 6) [a0, a1, a2] = S6 call fx a0 a1 a2 := by kernel_rfl
theorem C6 (a0 a1 a2 : AV) : callW pg 6 [a0, a1, a2] = isoP (S6 (callW pg) fixW (cl noHs a0) (cl noHs a1) (cl noHs a2)) := (callW_iso hOther rfl rfl rfl _).trans (congrArg isoP (E6 _ _ (cl noHs a0) (cl noHs a1) (cl noHs a2)))
theorem E7 (call : FuncId → List AV → M AV) (fx : Fix AV) (a0 a1 a2 : AV) : evBody (pg.cx call Tryd.f7.ntmps ann7) fx Tryd.f7 (own 7) [a0, a1, a2] = S7 call fx a0 a1 a2 := by kernel_rfl
theorem C7 (a0 a1 a2 : AV) : callW pg 7 [a0, a1, a2] = isoP (S7 (callW pg) fixW (cl noHs a0) (cl noHs a1) (cl noHs a2)) := (callW_iso hOther rfl rfl rfl _).trans (congrArg isoP (E7 _ _ (cl noHs a0) (cl noHs a1) (cl noHs a2)))
theorem E14 (call : FuncId → List AV → M AV) (fx : Fix AV) (a0 : AV) : evBody (pg.cx call Tryd.f14.ntmps ann14) fx Tryd.f14 (own 14) [a0] = S14 call fx a0 := by kernel_rfl
theorem C14 (a0 : AV) : callW pg 14 [a0] = isoP (S14 (callW pg) fixW (cl noHs a0)) := (callW_iso hOther rfl rfl rfl _).trans (congrArg isoP (E14 _ _ (cl noHs a0)))
theorem E15 (call : FuncId → List AV → M AV) (fx : Fix AV) (a0 a1 : AV) : evBody (pg.cx call Tryd.f15.ntmps ann15) fx Tryd.f15 (own 15) [a0, a1] = S15 call fx a0 a1 := by kernel_rfl
theorem C15 (a0 a1 : AV) : callW pg 15 [a0, a1] = isoP (S15 (callW pg) fixW (cl noHs a0) (cl noHs a1)) := (callW_iso hOther rfl rfl rfl _).trans (congrArg isoP (E15 _ _ (cl noHs a0) (cl noHs a1)))
theorem E16 (call : FuncId → List AV → M AV) (fx : Fix AV) (a0 a1 : AV) : evBody (pg.cx call Tryd.f16.ntmps ann16) fx Tryd.f16 (own 16) [a0, a1] = S16 call fx a0 a1 := by kernel_rfl
theorem C16 (a0 a1 : AV) : callW pg 16 [a0, a1] = isoP (S16 (callW pg) fixW (cl noHs a0) (cl noHs a1)) := (callW_iso hOther rfl rfl rfl _).trans (congrArg isoP (E16 _ _ (cl noHs a0) (cl noHs a1)))
theorem E17 (call : FuncId → List AV → M AV) (fx : Fix AV) (a0 a1 : AV) : evBody (pg.cx call Tryd.f17.ntmps ann17) fx Tryd.f17 (own 17) [a0, a1] = S17 call fx a0 a1 := by kernel_rfl
theorem C17 (a0 a1 : AV) : callW pg 17 [a0, a1] = isoP (S17 (callW pg) fixW (cl noHs a0) (cl noHs a1)) := (callW_iso hOther rfl rfl rfl _).trans (congrArg isoP (E17 _ _ (cl noHs a0) (cl noHs a1)))
theorem E18 (call : FuncId → List AV → M AV) (fx : Fix AV) (a0 a1 : AV) : evBody (pg.cx call Tryd.f18.ntmps ann18) fx Tryd.f18 (own 18) [a0, a1] = S18 call fx a0 a1 := by kernel_rfl
theorem C18 (a0 a1 : AV) : callW pg 18 [a0, a1] = isoP (S18 (callW pg) fixW (cl noHs a0) (cl noHs a1)) := (callW_iso hOther rfl rfl rfl _).trans (congrArg isoP (E18 _ _ (cl noHs a0) (cl noHs a1)))
theorem E19 (call : FuncId → List AV → M AV) (fx : Fix AV) (a0 : AV) : evBody (pg.cx call Tryd.f19.ntmps ann19) fx Tryd.f19 (own 19) [a0] = S19 call fx a0 := by kernel_rfl
theorem C19 (a0 : AV) : callW pg 19 [a0] = isoP (S19 (callW pg) fixW (cl noHs a0)) := (callW_iso hOther rfl rfl rfl _).trans (congrArg isoP (E19 _ _ (cl noHs a0)))
theorem E20 (call : FuncId → List AV → M AV) (fx : Fix AV) (a0 a1 : AV) : evBody (pg.cx call Tryd.f20.ntmps ann20) fx Tryd.f20 (own 20) [a0, a1] = S20 call fx a0 a1 := by kernel_rfl
theorem C20 (a0 a1 : AV) : callW pg 20 [a0, a1] = isoP (S20 (callW pg) fixW (cl noHs a0) (cl noHs a1)) := (callW_iso hOther rfl rfl rfl _).trans (congrArg isoP (E20 _ _ (cl noHs a0) (cl noHs a1)))
theorem E21 (call : FuncId → List AV → M AV) (fx : Fix AV) (a0 a1 : AV) : evBody (pg.cx call Tryd.f21.ntmps ann21) fx Tryd.f21 (own 21) [a0, a1] = S21 call fx a0 a1 := by kernel_rfl
theorem C21 (a0 a1 : AV) : callW pg 21 [a0, a1] = isoP (S21 (callW pg) fixW (cl noHs a0) (cl noHs a1)) := (callW_iso hOther rfl rfl rfl _).trans (congrArg isoP (E21 _ _ (cl noHs a0) (cl noHs a1)))
theorem E29 (call : FuncId → List AV → M AV) (fx : Fix AV) (a0 a1 : AV) : evBody (pg.cx call Tryd.f29.ntmps ann29) fx Tryd.f29 (own 29) [a0, a1] = S29 call fx a0 a1 := by kernel_rfl
theorem C29 (a0 a1 : AV) : callW pg 29 [a0, a1] = S29 (callW pg) fixW a0 a1 := (callW_heap hOther rfl rfl rfl _).trans (E29 _ _ a0 a1)
theorem E31 (call : FuncId → List AV → M AV) (fx : Fix AV) (a0 : AV) : evBody (pg.cx call Tryd.f31.ntmps ann31) fx Tryd.f31 (own 31) [a0] = S31 call fx a0 := by kernel_rfl
theorem C31 (a0 : AV) : callW pg 31 [a0] = isoP (S31 (callW pg) fixW (cl noHs a0)) := (callW_iso hOther rfl rfl rfl _).trans (congrArg isoP (E31 _ _ (cl noHs a0)))
theorem E34 (call : FuncId → List AV → M AV) (fx : Fix AV) (a0 : AV) : evBody (pg.cx call Tryd.f34.ntmps ann34) fx Tryd.f34 (own 34) [a0] = S34 call fx a0 := by kernel_rfl
theorem C34 (a0 : AV) : callW pg 34 [a0] = isoP (S34 (callW pg) fixW (cl noHs a0)) := (callW_iso hOther rfl rfl rfl _).trans (congrArg isoP (E34 _ _ (cl noHs a0)))
theorem E35 (call : FuncId → List AV → M AV) (fx : Fix AV) (a0 a1 : AV) : evBody (pg.cx call Tryd.f35.ntmps ann35) fx Tryd.f35 (own 35) [a0, a1] = S35 call fx a0 a1 := by kernel_rfl
theorem C35 (a0 a1 : AV) : callW pg 35 [a0, a1] = isoP (S35 (callW pg) fixW (cl noHs a0) (cl noHs a1)) := (callW_iso hOther rfl rfl rfl _).trans (congrArg isoP (E35 _ _ (cl noHs a0) (cl noHs a1)))
theorem E36 (call : FuncId → List AV → M AV) (fx : Fix AV) (a0 a1 : AV) : evBody (pg.cx call Tryd.f36.ntmps ann36) fx Tryd.f36 (own 36) [a0, a1] = S36 call fx a0 a1 := by kernel_rfl
theorem C36 (a0 a1 : AV) : callW pg 36 [a0, a1] = isoP (S36 (callW pg) fixW (cl noHs a0) (cl noHs a1)) := (callW_iso hOther rfl rfl rfl _).trans (congrArg isoP (E36 _ _ (cl noHs a0) (cl noHs a1)))
theorem E37 (call : FuncId → List AV → M AV) (fx : Fix AV) (a0 a1 : AV) : evBody (pg.cx call Tryd.f37.ntmps ann37) fx Tryd.f37 (own 37) [a0, a1] = S37 call fx a0 a1 := by kernel_rfl
theorem C37 (a0 a1 : AV) : callW pg 37 [a0, a1] = isoP (S37 (callW pg) fixW (cl noHs a0) (cl noHs a1)) := (callW_iso hOther rfl rfl rfl _).trans (congrArg isoP (E37 _ _ (cl noHs a0) (cl noHs a1)))
theorem E38 (call : FuncId → List AV → M AV) (fx : Fix AV) (a0 a1 : AV) : evBody (pg.cx call Tryd.f38.ntmps ann38) fx Tryd.f38 (own 38) [a0, a1] = S38 call fx a0 a1 := by kernel_rfl
theorem C38 (a0 a1 : AV) : callW pg 38 [a0, a1] = isoP (S38 (callW pg) fixW (cl noHs a0) (cl noHs a1)) := (callW_iso hOther rfl rfl rfl _).trans (congrArg isoP (E38 _ _ (cl noHs a0) (cl noHs a1)))
theorem E39 (call : FuncId → List AV → M AV) (fx : Fix AV) (a0 a1 : AV) : evBody (pg.cx call Tryd.f39.ntmps ann39) fx Tryd.f39 (own 39) [a0, a1] = S39 call fx a0 a1 := by kernel_rfl
theorem C39 (a0 a1 : AV) : callW pg 39 [a0, a1] = isoP (S39 (callW pg) fixW (cl noHs a0) (cl noHs a1)) := (callW_iso hOther rfl rfl rfl _).trans (congrArg isoP (E39 _ _ (cl noHs a0) (cl noHs a1)))
theorem E45 (call : FuncId → List AV → M AV) (fx : Fix AV) (a0 a1 : AV) : evBody (pg.cx call Tryd.f45.ntmps ann45) fx Tryd.f45 (own 45) [a0, a1] = S45 call fx a0 a1 := by kernel_rfl
theorem C45 (a0 a1 : AV) : callW pg 45 [a0, a1] = S45 (callW pg) fixW a0 a1 := (callW_heap hOther rfl rfl rfl _).trans (E45 _ _ a0 a1)
end Go.Proofs.YtllapohmppeceaaDoor.N
