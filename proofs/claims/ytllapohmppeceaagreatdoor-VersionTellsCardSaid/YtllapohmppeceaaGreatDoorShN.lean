/- The equations of the second program's functions. No condition. -/
import Derived.Test.YtllapohmppeceaaGreatDoorN
import Derived.Test.YtllapohmppeceaaGreatDoorSh1
namespace Go.Proofs.YtllapohmppeceaaGreatDoor.N
open Go Go.Av
set_option maxRecDepth 100000
theorem E5 (call : FuncId → List AV → M AV) (fx : Fix AV) (a0 : AV) : evBody (pg.cx call Tryz.f5.ntmps ann5) fx Tryz.f5 (own 5) [a0] = S5 call fx a0 := by kernel_rfl
theorem C5 (a0 : AV) : callW pg 5 [a0] = isoP (S5 (callW pg) fixW (cl noHs a0)) := (callW_iso hOther rfl rfl rfl _).trans (congrArg isoP (E5 _ _ (cl noHs a0)))
theorem E6 (call : FuncId → List AV → M AV) (fx : Fix AV) (a0 : AV) : evBody (pg.cx call Tryz.f6.ntmps ann6) fx Tryz.f6 (own 6) [a0] = S6 call fx a0 := by kernel_rfl
theorem C6 (a0 : AV) : callW pg 6 [a0] = isoP (S6 (callW pg) fixW (cl noHs a0)) := (callW_iso hOther rfl rfl rfl _).trans (congrArg isoP (E6 _ _ (cl noHs a0)))
theorem E7 (call : FuncId → List AV → M AV) (fx : Fix AV) (a0 a1 : AV) : evBody (pg.cx call Tryz.f7.ntmps ann7) fx Tryz.f7 (own 7) [a0, a1] = S7 call fx a0 a1 := by kernel_rfl
theorem C7 (a0 a1 : AV) : callW pg 7 [a0, a1] = isoP (S7 (callW pg) fixW (cl noHs a0) (cl noHs a1)) := (callW_iso hOther rfl rfl rfl _).trans (congrArg isoP (E7 _ _ (cl noHs a0) (cl noHs a1)))
theorem E8 (call : FuncId → List AV → M AV) (fx : Fix AV) (a0 a1 : AV) : evBody (pg.cx call Tryz.f8.ntmps ann8) fx Tryz.f8 (own 8) [a0, a1] = S8 call fx a0 a1 := by kernel_rfl
theorem C8 (a0 a1 : AV) : callW pg 8 [a0, a1] = isoP (S8 (callW pg) fixW (cl noHs a0) (cl noHs a1)) := (callW_iso hOther rfl rfl rfl _).trans (congrArg isoP (E8 _ _ (cl noHs a0) (cl noHs a1)))
theorem E9 (call : FuncId → List AV → M AV) (fx : Fix AV) (a0 : AV) : evBody (pg.cx call Tryz.f9.ntmps ann9) fx Tryz.f9 (own 9) [a0] = S9 call fx a0 := by kernel_rfl
theorem C9 (a0 : AV) : callW pg 9 [a0] = isoP (S9 (callW pg) fixW (cl noHs a0)) := (callW_iso hOther rfl rfl rfl _).trans (congrArg isoP (E9 _ _ (cl noHs a0)))
theorem E10 (call : FuncId → List AV → M AV) (fx : Fix AV) (a0 : AV) : evBody (pg.cx call Tryz.f10.ntmps ann10) fx Tryz.f10 (own 10) [a0] = S10 call fx a0 := by kernel_rfl
theorem C10 (a0 : AV) : callW pg 10 [a0] = isoP (S10 (callW pg) fixW (cl noHs a0)) := (callW_iso hOther rfl rfl rfl _).trans (congrArg isoP (E10 _ _ (cl noHs a0)))
theorem E11 (call : FuncId → List AV → M AV) (fx : Fix AV) (a0 a1 : AV) : evBody (pg.cx call Tryz.f11.ntmps ann11) fx Tryz.f11 (own 11) [a0, a1] = S11 call fx a0 a1 := by kernel_rfl
theorem C11 (a0 a1 : AV) : callW pg 11 [a0, a1] = isoP (S11 (callW pg) fixW (cl noHs a0) (cl noHs a1)) := (callW_iso hOther rfl rfl rfl _).trans (congrArg isoP (E11 _ _ (cl noHs a0) (cl noHs a1)))
theorem E12 (call : FuncId → List AV → M AV) (fx : Fix AV) (a0 a1 : AV) : evBody (pg.cx call Tryz.f12.ntmps ann12) fx Tryz.f12 (own 12) [a0, a1] = S12 call fx a0 a1 := by kernel_rfl
theorem C12 (a0 a1 : AV) : callW pg 12 [a0, a1] = isoP (S12 (callW pg) fixW (cl noHs a0) (cl noHs a1)) := (callW_iso hOther rfl rfl rfl _).trans (congrArg isoP (E12 _ _ (cl noHs a0) (cl noHs a1)))
theorem E13 (call : FuncId → List AV → M AV) (fx : Fix AV) (a0 : AV) : evBody (pg.cx call Tryz.f13.ntmps ann13) fx Tryz.f13 (own 13) [a0] = S13 call fx a0 := by kernel_rfl
theorem C13 (a0 : AV) : callW pg 13 [a0] = isoP (S13 (callW pg) fixW (cl noHs a0)) := (callW_iso hOther rfl rfl rfl _).trans (congrArg isoP (E13 _ _ (cl noHs a0)))
theorem E14 (call : FuncId → List AV → M AV) (fx : Fix AV) (a0 : AV) : evBody (pg.cx call Tryz.f14.ntmps ann14) fx Tryz.f14 (own 14) [a0] = S14 call fx a0 := by kernel_rfl
theorem C14 (a0 : AV) : callW pg 14 [a0] = isoP (S14 (callW pg) fixW (cl noHs a0)) := (callW_iso hOther rfl rfl rfl _).trans (congrArg isoP (E14 _ _ (cl noHs a0)))
theorem E15 (call : FuncId → List AV → M AV) (fx : Fix AV) (a0 a1 : AV) : evBody (pg.cx call Tryz.f15.ntmps ann15) fx Tryz.f15 (own 15) [a0, a1] = S15 call fx a0 a1 := by kernel_rfl
theorem C15 (a0 a1 : AV) : callW pg 15 [a0, a1] = isoP (S15 (callW pg) fixW (cl noHs a0) (cl noHs a1)) := (callW_iso hOther rfl rfl rfl _).trans (congrArg isoP (E15 _ _ (cl noHs a0) (cl noHs a1)))
theorem E16 (call : FuncId → List AV → M AV) (fx : Fix AV) (a0 a1 : AV) : evBody (pg.cx call Tryz.f16.ntmps ann16) fx Tryz.f16 (own 16) [a0, a1] = S16 call fx a0 a1 := by kernel_rfl
theorem C16 (a0 a1 : AV) : callW pg 16 [a0, a1] = isoP (S16 (callW pg) fixW (cl noHs a0) (cl noHs a1)) := (callW_iso hOther rfl rfl rfl _).trans (congrArg isoP (E16 _ _ (cl noHs a0) (cl noHs a1)))
theorem E17 (call : FuncId → List AV → M AV) (fx : Fix AV) (a0 a1 : AV) : evBody (pg.cx call Tryz.f17.ntmps ann17) fx Tryz.f17 (own 17) [a0, a1] = S17 call fx a0 a1 := by kernel_rfl
theorem C17 (a0 a1 : AV) : callW pg 17 [a0, a1] = isoP (S17 (callW pg) fixW (cl noHs a0) (cl noHs a1)) := (callW_iso hOther rfl rfl rfl _).trans (congrArg isoP (E17 _ _ (cl noHs a0) (cl noHs a1)))
theorem E18 (call : FuncId → List AV → M AV) (fx : Fix AV) (a0 a1 : AV) : evBody (pg.cx call Tryz.f18.ntmps ann18) fx Tryz.f18 (own 18) [a0, a1] = S18 call fx a0 a1 := by kernel_rfl
theorem C18 (a0 a1 : AV) : callW pg 18 [a0, a1] = isoP (S18 (callW pg) fixW (cl noHs a0) (cl noHs a1)) := (callW_iso hOther rfl rfl rfl _).trans (congrArg isoP (E18 _ _ (cl noHs a0) (cl noHs a1)))
theorem E19 (call : FuncId → List AV → M AV) (fx : Fix AV) (a0 a1 : AV) : evBody (pg.cx call Tryz.f19.ntmps ann19) fx Tryz.f19 (own 19) [a0, a1] = S19 call fx a0 a1 := by kernel_rfl
theorem C19 (a0 a1 : AV) : callW pg 19 [a0, a1] = isoP (S19 (callW pg) fixW (cl noHs a0) (cl noHs a1)) := (callW_iso hOther rfl rfl rfl _).trans (congrArg isoP (E19 _ _ (cl noHs a0) (cl noHs a1)))
theorem E20 (call : FuncId → List AV → M AV) (fx : Fix AV) (a0 : AV) : evBody (pg.cx call Tryz.f20.ntmps ann20) fx Tryz.f20 (own 20) [a0] = S20 call fx a0 := by kernel_rfl
theorem C20 (a0 : AV) : callW pg 20 [a0] = isoP (S20 (callW pg) fixW (cl noHs a0)) := (callW_iso hOther rfl rfl rfl _).trans (congrArg isoP (E20 _ _ (cl noHs a0)))
theorem E21 (call : FuncId → List AV → M AV) (fx : Fix AV) (a0 : AV) : evBody (pg.cx call Tryz.f21.ntmps ann21) fx Tryz.f21 (own 21) [a0] = S21 call fx a0 := by kernel_rfl
theorem C21 (a0 : AV) : callW pg 21 [a0] = isoP (S21 (callW pg) fixW (cl noHs a0)) := (callW_iso hOther rfl rfl rfl _).trans (congrArg isoP (E21 _ _ (cl noHs a0)))
theorem E22 (call : FuncId → List AV → M AV) (fx : Fix AV) (a0 a1 : AV) : evBody (pg.cx call Tryz.f22.ntmps ann22) fx Tryz.f22 (own 22) [a0, a1] = S22 call fx a0 a1 := by kernel_rfl
theorem C22 (a0 a1 : AV) : callW pg 22 [a0, a1] = isoP (S22 (callW pg) fixW (cl noHs a0) (cl noHs a1)) := (callW_iso hOther rfl rfl rfl _).trans (congrArg isoP (E22 _ _ (cl noHs a0) (cl noHs a1)))
theorem E23 (call : FuncId → List AV → M AV) (fx : Fix AV) (a0 a1 a2 : AV) : evBody (pg.cx call Tryz.f23.ntmps ann23) fx Tryz.f23 (own 23) [a0, a1, a2] = S23 call fx a0 a1 a2 := by kernel_rfl
theorem C23 (a0 a1 a2 : AV) : callW pg 23 [a0, a1, a2] = isoP (S23 (callW pg) fixW (cl noHs a0) (cl noHs a1) (cl noHs a2)) := (callW_iso hOther rfl rfl rfl _).trans (congrArg isoP (E23 _ _ (cl noHs a0) (cl noHs a1) (cl noHs a2)))
theorem E24 (call : FuncId → List AV → M AV) (fx : Fix AV) (a0 a1 : AV) : evBody (pg.cx call Tryz.f24.ntmps ann24) fx Tryz.f24 (own 24) [a0, a1] = S24 call fx a0 a1 := by kernel_rfl
theorem C24 (a0 a1 : AV) : callW pg 24 [a0, a1] = isoP (S24 (callW pg) fixW (cl noHs a0) (cl noHs a1)) := (callW_iso hOther rfl rfl rfl _).trans (congrArg isoP (E24 _ _ (cl noHs a0) (cl noHs a1)))
theorem E25 (call : FuncId → List AV → M AV) (fx : Fix AV) (a0 a1 : AV) : evBody (pg.cx call Tryz.f25.ntmps ann25) fx Tryz.f25 (own 25) [a0, a1] = S25 call fx a0 a1 := by kernel_rfl
theorem C25 (a0 a1 : AV) : callW pg 25 [a0, a1] = isoP (S25 (callW pg) fixW (cl noHs a0) (cl noHs a1)) := (callW_iso hOther rfl rfl rfl _).trans (congrArg isoP (E25 _ _ (cl noHs a0) (cl noHs a1)))
theorem E31 (call : FuncId → List AV → M AV) (fx : Fix AV) (a0 : AV) : evBody (pg.cx call Tryz.f31.ntmps ann31) fx Tryz.f31 (own 31) [a0] = S31 call fx a0 := by kernel_rfl
theorem C31 (a0 : AV) : callW pg 31 [a0] = isoP (S31 (callW pg) fixW (cl noHs a0)) := (callW_iso hOther rfl rfl rfl _).trans (congrArg isoP (E31 _ _ (cl noHs a0)))
theorem E32 (call : FuncId → List AV → M AV) (fx : Fix AV) (a0 a1 : AV) : evBody (pg.cx call Tryz.f32.ntmps ann32) fx Tryz.f32 (own 32) [a0, a1] = S32 call fx a0 a1 := by kernel_rfl
theorem C32 (a0 a1 : AV) : callW pg 32 [a0, a1] = isoP (S32 (callW pg) fixW (cl noHs a0) (cl noHs a1)) := (callW_iso hOther rfl rfl rfl _).trans (congrArg isoP (E32 _ _ (cl noHs a0) (cl noHs a1)))
theorem E33 (call : FuncId → List AV → M AV) (fx : Fix AV) (a0 a1 : AV) : evBody (pg.cx call Tryz.f33.ntmps ann33) fx Tryz.f33 (own 33) [a0, a1] = S33 call fx a0 a1 := by kernel_rfl
theorem C33 (a0 a1 : AV) : callW pg 33 [a0, a1] = isoP (S33 (callW pg) fixW (cl noHs a0) (cl noHs a1)) := (callW_iso hOther rfl rfl rfl _).trans (congrArg isoP (E33 _ _ (cl noHs a0) (cl noHs a1)))
theorem E34 (call : FuncId → List AV → M AV) (fx : Fix AV) (a0 : AV) : evBody (pg.cx call Tryz.f34.ntmps ann34) fx Tryz.f34 (own 34) [a0] = S34 call fx a0 := by kernel_rfl
theorem C34 (a0 : AV) : callW pg 34 [a0] = isoP (S34 (callW pg) fixW (cl noHs a0)) := (callW_iso hOther rfl rfl rfl _).trans (congrArg isoP (E34 _ _ (cl noHs a0)))
theorem E35 (call : FuncId → List AV → M AV) (fx : Fix AV) (a0 a1 : AV) : evBody (pg.cx call Tryz.f35.ntmps ann35) fx Tryz.f35 (own 35) [a0, a1] = S35 call fx a0 a1 := by kernel_rfl
theorem C35 (a0 a1 : AV) : callW pg 35 [a0, a1] = isoP (S35 (callW pg) fixW (cl noHs a0) (cl noHs a1)) := (callW_iso hOther rfl rfl rfl _).trans (congrArg isoP (E35 _ _ (cl noHs a0) (cl noHs a1)))
theorem E36 (call : FuncId → List AV → M AV) (fx : Fix AV) (a0 a1 : AV) : evBody (pg.cx call Tryz.f36.ntmps ann36) fx Tryz.f36 (own 36) [a0, a1] = S36 call fx a0 a1 := by kernel_rfl
theorem C36 (a0 a1 : AV) : callW pg 36 [a0, a1] = isoP (S36 (callW pg) fixW (cl noHs a0) (cl noHs a1)) := (callW_iso hOther rfl rfl rfl _).trans (congrArg isoP (E36 _ _ (cl noHs a0) (cl noHs a1)))
theorem E37 (call : FuncId → List AV → M AV) (fx : Fix AV) (a0 a1 : AV) : evBody (pg.cx call Tryz.f37.ntmps ann37) fx Tryz.f37 (own 37) [a0, a1] = S37 call fx a0 a1 := by kernel_rfl
theorem C37 (a0 a1 : AV) : callW pg 37 [a0, a1] = isoP (S37 (callW pg) fixW (cl noHs a0) (cl noHs a1)) := (callW_iso hOther rfl rfl rfl _).trans (congrArg isoP (E37 _ _ (cl noHs a0) (cl noHs a1)))
theorem E38 (call : FuncId → List AV → M AV) (fx : Fix AV) (a0 a1 : AV) : evBody (pg.cx call Tryz.f38.ntmps ann38) fx Tryz.f38 (own 38) [a0, a1] = S38 call fx a0 a1 := by kernel_rfl
theorem C38 (a0 a1 : AV) : callW pg 38 [a0, a1] = S38 (callW pg) fixW a0 a1 := (callW_heap hOther rfl rfl rfl _).trans (E38 _ _ a0 a1)
theorem E40 (call : FuncId → List AV → M AV) (fx : Fix AV) (a0 : AV) : evBody (pg.cx call Tryz.f40.ntmps ann40) fx Tryz.f40 (own 40) [a0] = S40 call fx a0 := by kernel_rfl
theorem C40 (a0 : AV) : callW pg 40 [a0] = isoP (S40 (callW pg) fixW (cl noHs a0)) := (callW_iso hOther rfl rfl rfl _).trans (congrArg isoP (E40 _ _ (cl noHs a0)))
theorem E42 (call : FuncId → List AV → M AV) (fx : Fix AV) (a0 a1 : AV) : evBody (pg.cx call Tryz.f42.ntmps ann42) fx Tryz.f42 (own 42) [a0, a1] = S42 call fx a0 a1 := by kernel_rfl
theorem C42 (a0 a1 : AV) : callW pg 42 [a0, a1] = isoP (S42 (callW pg) fixW (cl noHs a0) (cl noHs a1)) := (callW_iso hOther rfl rfl rfl _).trans (congrArg isoP (E42 _ _ (cl noHs a0) (cl noHs a1)))
theorem E43 (call : FuncId → List AV → M AV) (fx : Fix AV) (a0 : AV) : evBody (pg.cx call Tryz.f43.ntmps ann43) fx Tryz.f43 (own 43) [a0] = S43 call fx a0 := by kernel_rfl
theorem C43 (a0 : AV) : callW pg 43 [a0] = isoP (S43 (callW pg) fixW (cl noHs a0)) := (callW_iso hOther rfl rfl rfl _).trans (congrArg isoP (E43 _ _ (cl noHs a0)))
theorem E44 (call : FuncId → List AV → M AV) (fx : Fix AV) (a0 a1 : AV) : evBody (pg.cx call Tryz.f44.ntmps ann44) fx Tryz.f44 (own 44) [a0, a1] = S44 call fx a0 a1 := by kernel_rfl
theorem C44 (a0 a1 : AV) : callW pg 44 [a0, a1] = isoP (S44 (callW pg) fixW (cl noHs a0) (cl noHs a1)) := (callW_iso hOther rfl rfl rfl _).trans (congrArg isoP (E44 _ _ (cl noHs a0) (cl noHs a1)))
theorem E45 (call : FuncId → List AV → M AV) (fx : Fix AV) (a0 a1 a2 a3 : AV) : evBody (pg.cx call Tryz.f45.ntmps ann45) fx Tryz.f45 (own 45) [a0, a1, a2, a3] = S45 call fx a0 a1 a2 a3 := by kernel_rfl
theorem C45 (a0 a1 a2 a3 : AV) : callW pg 45 [a0, a1, a2, a3] = isoP (S45 (callW pg) fixW (cl noHs a0) (cl noHs a1) (cl noHs a2) (cl noHs a3)) := (callW_iso hOther rfl rfl rfl _).trans (congrArg isoP (E45 _ _ (cl noHs a0) (cl noHs a1) (cl noHs a2) (cl noHs a3)))
theorem E46 (call : FuncId → List AV → M AV) (fx : Fix AV) (a0 a1 : AV) : evBody (pg.cx call Tryz.f46.ntmps ann46) fx Tryz.f46 (own 46) [a0, a1] = S46 call fx a0 a1 := by kernel_rfl
theorem C46 (a0 a1 : AV) : callW pg 46 [a0, a1] = isoP (S46 (callW pg) fixW (cl noHs a0) (cl noHs a1)) := (callW_iso hOther rfl rfl rfl _).trans (congrArg isoP (E46 _ _ (cl noHs a0) (cl noHs a1)))
theorem E47 (call : FuncId → List AV → M AV) (fx : Fix AV) (a0 a1 : AV) : evBody (pg.cx call Tryz.f47.ntmps ann47) fx Tryz.f47 (own 47) [a0, a1] = S47 call fx a0 a1 := by kernel_rfl
theorem C47 (a0 a1 : AV) : callW pg 47 [a0, a1] = isoP (S47 (callW pg) fixW (cl noHs a0) (cl noHs a1)) := (callW_iso hOther rfl rfl rfl _).trans (congrArg isoP (E47 _ _ (cl noHs a0) (cl noHs a1)))
theorem E52 (call : FuncId → List AV → M AV) (fx : Fix AV) (a0 : AV) : evBody (pg.cx call Tryz.f52.ntmps ann52) fx Tryz.f52 (own 52) [a0] = S52 call fx a0 := by kernel_rfl
theorem C52 (a0 : AV) : callW pg 52 [a0] = isoP (S52 (callW pg) fixW (cl noHs a0)) := (callW_iso hOther rfl rfl rfl _).trans (congrArg isoP (E52 _ _ (cl noHs a0)))
theorem E53 (call : FuncId → List AV → M AV) (fx : Fix AV) (a0 a1 : AV) : evBody (pg.cx call Tryz.f53.ntmps ann53) fx Tryz.f53 (own 53) [a0, a1] = S53 call fx a0 a1 := by kernel_rfl
theorem C53 (a0 a1 : AV) : callW pg 53 [a0, a1] = S53 (callW pg) fixW a0 a1 := (callW_heap hOther rfl rfl rfl _).trans (E53 _ _ a0 a1)
theorem E3 (call : FuncId → List AV → M AV) (fx : Fix AV) (a0 a1 a2 a3 a4 a5 : AV) : evBody (pg.cx call Tryz.f3.ntmps ann3) fx Tryz.f3 (own 3) [a0, a1, a2, a3, a4, a5] = S3 call fx a0 a1 a2 a3 a4 a5 := by kernel_rfl
theorem C3 (a0 a1 a2 a3 a4 a5 : AV) : callW pg 3 [a0, a1, a2, a3, a4, a5] = isoP (S3 (callW pg) fixW (cl noHs a0) (cl noHs a1) (cl noHs a2) (cl noHs a3) (cl noHs a4) (cl noHs a5)) := (callW_iso hOther rfl rfl rfl _).trans (congrArg isoP (E3 _ _ (cl noHs a0) (cl noHs a1) (cl noHs a2) (cl noHs a3) (cl noHs a4) (cl noHs a5)))
end Go.Proofs.YtllapohmppeceaaGreatDoor.N
