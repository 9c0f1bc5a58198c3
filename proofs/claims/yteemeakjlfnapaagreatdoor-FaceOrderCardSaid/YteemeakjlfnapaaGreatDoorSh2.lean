/- Shallow programs of the functions, part 2: written by a program. No condition. -/
import Derived.Test.YteemeakjlfnapaaGreatDoorAnn
namespace Go.Proofs.YteemeakjlfnapaaGreatDoor
open Go Go.Av
set_option maxRecDepth 100000
noncomputable def L32_0 (call : FuncId → List AV → M AV) (fx : Fix AV) (v0 : List AV → M AV) (v1 : List AV) : M AV :=
  bnd (lft (fieldAddrA T 56 (nth v1 0) 1)) (fun v2 =>
  bnd (lft (loadA T 54 v2)) (fun v3 =>
  bnd (lft (lenA T 54 v3)) (fun v4 =>
  bnd (lft (binA T BinOp.lss 3 (nth v1 1) v4)) (fun v5 =>
  bnd (guardM v5 true 1 (bnd (lft (binA T BinOp.lss 3 (nth v1 1) (AV.int IntKind.i64 9))) (fun v6 =>
  M.pure [v6]))) (fun v7 =>
  bnd (lft (pickA v5 (nth v7 0) (AV.bool false))) (fun v8 =>
  condM v8 (bnd (lft (fieldAddrA T 56 (nth v1 0) 1)) (fun v9 =>
  bnd (lft (loadA T 54 v9)) (fun v10 =>
  bnd (lft (indexAddrA T 54 v10 (nth v1 1))) (fun v11 =>
  bnd (lft (loadA T 27 v11)) (fun v12 =>
  bnd (call 53 [v12]) (fun v13 =>
  bnd (lft (unA UnOp.not v13)) (fun v14 =>
  condM v14 (M.pure (AV.bool false)) (bnd (lft (binA T BinOp.add 3 (nth v1 1) (AV.int IntKind.i64 1))) (fun v15 =>
  v0 [nth v1 0, v15]))))))))) (bnd (lft (fieldAddrA T 56 (nth v1 0) 1)) (fun v16 =>
  bnd (lft (loadA T 54 v16)) (fun v17 =>
  bnd (lft (lenA T 54 v17)) (fun v18 =>
  bnd (lft (binA T BinOp.leq 3 v18 (AV.int IntKind.i64 8))) (fun v19 =>
  bnd (guardM v19 true 1 (bnd (lft (fieldAddrA T 56 (nth v1 0) 2)) (fun v20 =>
  bnd (lft (loadA T 27 v20)) (fun v21 =>
  bnd (call 53 [v21]) (fun v22 =>
  M.pure [v22]))))) (fun v23 =>
  bnd (lft (pickA v19 (nth v23 0) (AV.bool false))) (fun v24 =>
  M.pure v24)))))))))))))
theorem XL32_0 {call : FuncId → List AV → M AV} : Cont1 (L32_0 call fixW ) fun _n => L32_0 call fixW  := by
  intro v0 v0s hself v1
  unfold L32_0
  exact (LimM.bnd (LimM.const _) fun _ => (LimM.bnd (LimM.const _) fun _ => (LimM.bnd (LimM.const _) fun _ => (LimM.bnd (LimM.const _) fun _ => (LimM.bnd (LimM.const _) fun _ => (LimM.bnd (LimM.const _) fun _ => (condM_lim (LimM.bnd (LimM.const _) fun _ => (LimM.bnd (LimM.const _) fun _ => (LimM.bnd (LimM.const _) fun _ => (LimM.bnd (LimM.const _) fun _ => (LimM.bnd (LimM.const _) fun _ => (LimM.bnd (LimM.const _) fun _ => (condM_lim (LimM.const _) (LimM.bnd (LimM.const _) fun _ => (hself _))))))))) (LimM.const _))))))))
theorem FL32_0 (call : FuncId → List AV → M AV) (vs : List AV) : fixW (L32_0 call fixW ) vs = L32_0 call fixW  (fixW (L32_0 call fixW )) vs := fixW_eq (XL32_0 ) vs
noncomputable def S32 (call : FuncId → List AV → M AV) (fx : Fix AV) (a0 : AV) : M AV :=
  fx (L32_0 call fx) [AV.ip (acells a0), AV.int IntKind.i64 0]
theorem E32 (call : FuncId → List AV → M AV) (fx : Fix AV) (a0 : AV) : evBody (pg.cx call Tryz.f32.ntmps ann32) fx Tryz.f32 (own 32) [a0] = S32 call fx a0 := by kernel_rfl
theorem C32 (a0 : AV) : callW pg 32 [a0] = isoP (S32 (callW pg) fixW (cl noHs a0)) := (callW_iso hOther rfl rfl rfl _).trans (congrArg isoP (E32 _ _ (cl noHs a0)))
noncomputable def S44 (call : FuncId → List AV → M AV) (fx : Fix AV) (a0 a1 : AV) : M AV :=
  bnd (lft (fieldAddrA T 56 (AV.ip (acells a1)) 1)) (fun v0 =>
  bnd (lft (loadA T 54 v0)) (fun v1 =>
  bnd (lft (fieldAddrA T 56 (AV.ip (acells a0)) 1)) (fun v2 =>
  bnd (lft (loadA T 54 v2)) (fun v3 =>
  bnd (call 111 [v1, v3, AV.fn (Fn.func 56) [] []]) (fun v4 =>
  bnd (guardM v4 true 1 (bnd (lft (fieldAddrA T 56 (AV.ip (acells a0)) 2)) (fun v5 =>
  bnd (lft (loadA T 27 v5)) (fun v6 =>
  bnd (lft (fieldAddrA T 56 (AV.ip (acells a1)) 2)) (fun v7 =>
  bnd (lft (loadA T 27 v7)) (fun v8 =>
  bnd (call 56 [v6, v8]) (fun v9 =>
  M.pure [v9]))))))) (fun v10 =>
  bnd (lft (pickA v4 (nth v10 0) (AV.bool false))) (fun v11 =>
  bnd (guardM v11 true 1 (bnd (lft (fieldAddrA T 56 (AV.ip (acells a0)) 3)) (fun v12 =>
  bnd (lft (loadA T 3 v12)) (fun v13 =>
  bnd (lft (fieldAddrA T 56 (AV.ip (acells a1)) 3)) (fun v14 =>
  bnd (lft (loadA T 3 v14)) (fun v15 =>
  bnd (lft (binA T BinOp.andNot 3 v13 v15)) (fun v16 =>
  bnd (lft (binA T BinOp.eql 3 v16 (AV.int IntKind.i64 0))) (fun v17 =>
  M.pure [v17])))))))) (fun v18 =>
  bnd (lft (pickA v11 (nth v18 0) (AV.bool false))) (fun v19 =>
  M.pure v19)))))))))
theorem E44 (call : FuncId → List AV → M AV) (fx : Fix AV) (a0 a1 : AV) : evBody (pg.cx call Tryz.f44.ntmps ann44) fx Tryz.f44 (own 44) [a0, a1] = S44 call fx a0 a1 := by kernel_rfl
theorem C44 (a0 a1 : AV) : callW pg 44 [a0, a1] = isoP (S44 (callW pg) fixW (cl noHs a0) (cl noHs a1)) := (callW_iso hOther rfl rfl rfl _).trans (congrArg isoP (E44 _ _ (cl noHs a0) (cl noHs a1)))
noncomputable def S56 (call : FuncId → List AV → M AV) (fx : Fix AV) (a0 a1 : AV) : M AV :=
  bnd (lft (loadA T 27 (AV.ip (acells a0)))) (fun v0 =>
  bnd (call 73 [v0]) (fun v1 =>
  bnd (guardM v1 true 1 (bnd (lft (loadA T 27 (AV.ip (acells a1)))) (fun v2 =>
  bnd (call 73 [v2]) (fun v3 =>
  M.pure [v3])))) (fun v4 =>
  bnd (lft (pickA v1 (nth v4 0) (AV.bool false))) (fun v5 =>
  bnd (guardM v5 true 1 (bnd (lft (loadA T 27 (AV.ip (acells a0)))) (fun v6 =>
  bnd (lft (loadA T 27 (AV.ip (acells a1)))) (fun v7 =>
  bnd (call 125 [v6, v7]) (fun v8 =>
  M.pure [v8]))))) (fun v9 =>
  bnd (lft (pickA v5 (nth v9 0) (AV.bool false))) (fun v10 =>
  M.pure v10))))))
theorem E56 (call : FuncId → List AV → M AV) (fx : Fix AV) (a0 a1 : AV) : evBody (pg.cx call Tryz.f56.ntmps ann56) fx Tryz.f56 (own 56) [a0, a1] = S56 call fx a0 a1 := by kernel_rfl
theorem C56 (a0 a1 : AV) : callW pg 56 [a0, a1] = isoP (S56 (callW pg) fixW (cl noHs a0) (cl noHs a1)) := (callW_iso hOther rfl rfl rfl _).trans (congrArg isoP (E56 _ _ (cl noHs a0) (cl noHs a1)))
noncomputable def S77 (call : FuncId → List AV → M AV) (fx : Fix AV) (a0 : AV) : M AV :=
  bnd (lft (fieldAddrA T 56 (AV.ip (acells a0)) 0)) (fun v0 =>
  bnd (lft (loadA T 9 v0)) (fun v1 =>
  bnd (call 76 [v1]) (fun v2 =>
  bnd (lft (unA UnOp.not v2)) (fun v3 =>
  bnd (guardM v3 false 1 (bnd (lft (fieldAddrA T 56 (AV.ip (acells a0)) 1)) (fun v4 =>
  bnd (lft (loadA T 54 v4)) (fun v5 =>
  bnd (lft (lenA T 54 v5)) (fun v6 =>
  bnd (lft (binA T BinOp.gtr 3 v6 (AV.int IntKind.i64 6))) (fun v7 =>
  M.pure [v7])))))) (fun v8 =>
  bnd (lft (pickA v3 (AV.bool true) (nth v8 0))) (fun v9 =>
  bnd (guardM v9 false 1 (bnd (lft (fieldAddrA T 56 (AV.ip (acells a0)) 3)) (fun v10 =>
  bnd (lft (loadA T 3 v10)) (fun v11 =>
  bnd (lft (binA T BinOp.andNot 3 v11 (AV.int IntKind.i64 15))) (fun v12 =>
  bnd (lft (binA T BinOp.neq 3 v12 (AV.int IntKind.i64 0))) (fun v13 =>
  M.pure [v13])))))) (fun v14 =>
  bnd (lft (pickA v9 (AV.bool true) (nth v14 0))) (fun v15 =>
  bnd (guardM v15 false 1 (bnd (lft (fieldAddrA T 56 (AV.ip (acells a0)) 2)) (fun v16 =>
  bnd (lft (loadA T 27 v16)) (fun v17 =>
  bnd (call 47 [v17]) (fun v18 =>
  bnd (lft (unA UnOp.not v18)) (fun v19 =>
  M.pure [v19])))))) (fun v20 =>
  bnd (lft (pickA v15 (AV.bool true) (nth v20 0))) (fun v21 =>
  condM v21 (M.pure (AV.bool false)) (bnd (lft (fieldAddrA T 56 (AV.ip (acells a0)) 1)) (fun v22 =>
  bnd (lft (loadA T 54 v22)) (fun v23 =>
  bnd (call 148 [v23, AV.fn (Fn.func 149) [] []]) (fun v24 =>
  bnd (lft (unA UnOp.not v24)) (fun v25 =>
  M.pure v25)))))))))))))))
theorem E77 (call : FuncId → List AV → M AV) (fx : Fix AV) (a0 : AV) : evBody (pg.cx call Tryz.f77.ntmps ann77) fx Tryz.f77 (own 77) [a0] = S77 call fx a0 := by kernel_rfl
theorem C77 (a0 : AV) : callW pg 77 [a0] = isoP (S77 (callW pg) fixW (cl noHs a0)) := (callW_iso hOther rfl rfl rfl _).trans (congrArg isoP (E77 _ _ (cl noHs a0)))
noncomputable def S125 (call : FuncId → List AV → M AV) (fx : Fix AV) (a0 a1 : AV) : M AV :=
  bnd (lft (fieldAddrA T 27 (AV.ip (acells a0)) 0)) (fun v0 =>
  bnd (lft (loadA T 3 v0)) (fun v1 =>
  bnd (lft (fieldAddrA T 27 (AV.ip (acells a1)) 0)) (fun v2 =>
  bnd (lft (loadA T 3 v2)) (fun v3 =>
  bnd (lft (binA T BinOp.eql 3 v1 v3)) (fun v4 =>
  bnd (guardM v4 true 1 (bnd (lft (fieldAddrA T 27 (AV.ip (acells a1)) 1)) (fun v5 =>
  bnd (lft (loadA T 25 v5)) (fun v6 =>
  bnd (call 131 [v6, AV.fn (Fn.func 186) [] [AV.ip (acells a0)]]) (fun v7 =>
  bnd (lft (unA UnOp.not v7)) (fun v8 =>
  M.pure [v8])))))) (fun v9 =>
  bnd (lft (pickA v4 (nth v9 0) (AV.bool false))) (fun v10 =>
  M.pure v10)))))))
theorem E125 (call : FuncId → List AV → M AV) (fx : Fix AV) (a0 a1 : AV) : evBody (pg.cx call Tryz.f125.ntmps ann125) fx Tryz.f125 (own 125) [a0, a1] = S125 call fx a0 a1 := by kernel_rfl
theorem C125 (a0 a1 : AV) : callW pg 125 [a0, a1] = isoP (S125 (callW pg) fixW (cl noHs a0) (cl noHs a1)) := (callW_iso hOther rfl rfl rfl _).trans (congrArg isoP (E125 _ _ (cl noHs a0) (cl noHs a1)))
noncomputable def L130_0 (call : FuncId → List AV → M AV) (fx : Fix AV) (v2 : List AV → M AV) (v3 : List AV) : M AV :=
  bnd (lft (fieldAddrA T 27 (nth v3 2) 1)) (fun v4 =>
  bnd (lft (loadA T 25 v4)) (fun v5 =>
  bnd (lft (lenA T 25 v5)) (fun v6 =>
  bnd (lft (binA T BinOp.lss 3 (nth v3 4) v6)) (fun v7 =>
  bnd (guardM v7 true 1 (bnd (lft (binA T BinOp.leq 3 (nth v3 3) (nth v3 0))) (fun v8 =>
  M.pure [v8]))) (fun v9 =>
  bnd (lft (pickA v7 (nth v9 0) (AV.bool false))) (fun v10 =>
  condM v10 (bnd (lft (fieldAddrA T 27 (nth v3 2) 1)) (fun v11 =>
  bnd (lft (loadA T 25 v11)) (fun v12 =>
  bnd (lft (indexAddrA T 25 v12 (nth v3 4))) (fun v13 =>
  bnd (lft (fieldAddrA T 76 v13 1)) (fun v14 =>
  bnd (lft (loadA T 27 v14)) (fun v15 =>
  bnd (lft (binA T BinOp.sub 3 (nth v3 0) (nth v3 3))) (fun v16 =>
  bnd (lft (binA T BinOp.sub 3 (nth v3 1) (AV.int IntKind.i64 1))) (fun v17 =>
  bnd (call 130 [v15, v16, v17]) (fun v18 =>
  bnd (lft (binA T BinOp.add 3 (nth v3 3) v18)) (fun v19 =>
  bnd (lft (binA T BinOp.add 3 (nth v3 4) (AV.int IntKind.i64 1))) (fun v20 =>
  v2 [nth v3 0, nth v3 1, nth v3 2, v19, v20]))))))))))) (M.pure (nth v3 3))))))))
theorem XL130_0 {call : FuncId → List AV → M AV} : Cont1 (L130_0 call fixW ) fun _n => L130_0 call fixW  := by
  intro v2 v2s hself v3
  unfold L130_0
  exact (LimM.bnd (LimM.const _) fun _ => (LimM.bnd (LimM.const _) fun _ => (LimM.bnd (LimM.const _) fun _ => (LimM.bnd (LimM.const _) fun _ => (LimM.bnd (LimM.const _) fun _ => (LimM.bnd (LimM.const _) fun _ => (condM_lim (LimM.bnd (LimM.const _) fun _ => (LimM.bnd (LimM.const _) fun _ => (LimM.bnd (LimM.const _) fun _ => (LimM.bnd (LimM.const _) fun _ => (LimM.bnd (LimM.const _) fun _ => (LimM.bnd (LimM.const _) fun _ => (LimM.bnd (LimM.const _) fun _ => (LimM.bnd (LimM.const _) fun _ => (LimM.bnd (LimM.const _) fun _ => (LimM.bnd (LimM.const _) fun _ => (hself _))))))))))) (LimM.const _))))))))
theorem FL130_0 (call : FuncId → List AV → M AV) (vs : List AV) : fixW (L130_0 call fixW ) vs = L130_0 call fixW  (fixW (L130_0 call fixW )) vs := fixW_eq (XL130_0 ) vs
noncomputable def S130 (call : FuncId → List AV → M AV) (fx : Fix AV) (a0 a1 a2 : AV) : M AV :=
  bnd (lft (binA T BinOp.lss 3 a2 (AV.int IntKind.i64 1))) (fun v0 =>
  condM v0 (bnd (lft (binA T BinOp.add 3 a1 (AV.int IntKind.i64 1))) (fun v1 =>
  M.pure v1)) (fx (L130_0 call fx) [a1, a2, AV.ip (acells a0), AV.int IntKind.i64 1, AV.int IntKind.i64 0]))
theorem E130 (call : FuncId → List AV → M AV) (fx : Fix AV) (a0 a1 a2 : AV) : evBody (pg.cx call Tryz.f130.ntmps ann130) fx Tryz.f130 (own 130) [a0, a1, a2] = S130 call fx a0 a1 a2 := by kernel_rfl
theorem C130 (a0 a1 a2 : AV) : callW pg 130 [a0, a1, a2] = isoP (S130 (callW pg) fixW (cl noHs a0) (cl noHs a1) (cl noHs a2)) := (callW_iso hOther rfl rfl rfl _).trans (congrArg isoP (E130 _ _ (cl noHs a0) (cl noHs a1) (cl noHs a2)))
noncomputable def S131 (call : FuncId → List AV → M AV) (fx : Fix AV) (a0 a1 : AV) : M AV :=
  bnd (call 189 [a0, a1]) (fun v0 =>
  bnd (lft (binA T BinOp.geq 3 v0 (AV.int IntKind.i64 0))) (fun v1 =>
  M.pure v1))
theorem E131 (call : FuncId → List AV → M AV) (fx : Fix AV) (a0 a1 : AV) : evBody (pg.cx call Tryz.f131.ntmps ann131) fx Tryz.f131 (own 131) [a0, a1] = S131 call fx a0 a1 := by kernel_rfl
theorem C131 (a0 a1 : AV) : callW pg 131 [a0, a1] = isoP (S131 (callW pg) fixW (cl noHs a0) (cl noHs a1)) := (callW_iso hOther rfl rfl rfl _).trans (congrArg isoP (E131 _ _ (cl noHs a0) (cl noHs a1)))
noncomputable def L204_0 (call : FuncId → List AV → M AV) (fx : Fix AV) (v1 : List AV → M AV) (v2 : List AV) : M AV :=
  bnd (lft (binA T BinOp.lss 3 (nth v2 3) (nth v2 2))) (fun v3 =>
  condM v3 (bnd (lft (indexAddrA T 54 (nth v2 0) (nth v2 3))) (fun v4 =>
  bnd (lft (loadA T 27 v4)) (fun v5 =>
  bnd (callV call (nth v2 1) [v5]) (fun v6 =>
  condM v6 (M.pure (nth v2 3)) (bnd (lft (binA T BinOp.add 3 (nth v2 3) (AV.int IntKind.i64 1))) (fun v7 =>
  v1 [nth v2 0, nth v2 1, nth v2 2, v7])))))) (M.pure (AV.int IntKind.i64 (-1))))
theorem XL204_0 {call : FuncId → List AV → M AV} : Cont1 (L204_0 call fixW ) fun _n => L204_0 call fixW  := by
  intro v1 v1s hself v2
  unfold L204_0
  exact (LimM.bnd (LimM.const _) fun _ => (condM_lim (LimM.bnd (LimM.const _) fun _ => (LimM.bnd (LimM.const _) fun _ => (LimM.bnd (LimM.const _) fun _ => (condM_lim (LimM.const _) (LimM.bnd (LimM.const _) fun _ => (hself _)))))) (LimM.const _)))
theorem FL204_0 (call : FuncId → List AV → M AV) (vs : List AV) : fixW (L204_0 call fixW ) vs = L204_0 call fixW  (fixW (L204_0 call fixW )) vs := fixW_eq (XL204_0 ) vs
noncomputable def S204 (call : FuncId → List AV → M AV) (fx : Fix AV) (a0 a1 : AV) : M AV :=
  bnd (lft (lenA T 54 a0)) (fun v0 =>
  fx (L204_0 call fx) [a0, a1, v0, AV.int IntKind.i64 0])
theorem E204 (call : FuncId → List AV → M AV) (fx : Fix AV) (a0 a1 : AV) : evBody (pg.cx call Tryz.f204.ntmps ann204) fx Tryz.f204 (own 204) [a0, a1] = S204 call fx a0 a1 := by kernel_rfl
theorem C204 (a0 a1 : AV) : callW pg 204 [a0, a1] = isoP (S204 (callW pg) fixW (cl noHs a0) (cl noHs a1)) := (callW_iso hOther rfl rfl rfl _).trans (congrArg isoP (E204 _ _ (cl noHs a0) (cl noHs a1)))
end Go.Proofs.YteemeakjlfnapaaGreatDoor
