/- Shallow programs of the functions, part 2: written by a program. No condition. -/
import Derived.Test.YteemeakjlfnapaaGreatDoorAnn
namespace Go.Proofs.YteemeakjlfnapaaGreatDoor
open Go Go.Av
set_option maxRecDepth 100000
noncomputable def L15_0 (call : FuncId → List AV → M AV) (fx : Fix AV) (v0 : List AV → M AV) (v1 : List AV) : M AV :=
  bnd (lft (fieldAddrA T 24 (nth v1 0) 1)) (fun v2 =>
  bnd (lft (loadA T 22 v2)) (fun v3 =>
  bnd (lft (lenA T 22 v3)) (fun v4 =>
  bnd (lft (binA T BinOp.lss 3 (nth v1 1) v4)) (fun v5 =>
  bnd (guardM v5 true 1 (bnd (lft (binA T BinOp.leq 3 (nth v1 1) (AV.int IntKind.i64 10))) (fun v6 =>
  M.pure [v6]))) (fun v7 =>
  bnd (lft (pickA v5 (nth v7 0) (AV.bool false))) (fun v8 =>
  condM v8 (bnd (lft (fieldAddrA T 24 (nth v1 0) 1)) (fun v9 =>
  bnd (lft (loadA T 22 v9)) (fun v10 =>
  bnd (lft (indexAddrA T 22 v10 (nth v1 1))) (fun v11 =>
  bnd (lft (loadA T 56 v11)) (fun v12 =>
  bnd (cellsM 5 v12) (fun v13 =>
  bnd (lft (fieldAddrA T 56 (AV.ip (acells v13)) 0)) (fun v14 =>
  bnd (lft (loadA T 9 v14)) (fun v15 =>
  bnd (lft (lenA T 9 v15)) (fun v16 =>
  bnd (lft (binA T BinOp.gtr 3 v16 (AV.int IntKind.i64 30))) (fun v17 =>
  bnd (guardM v17 false 1 (bnd (lft (fieldAddrA T 56 (AV.ip (acells v13)) 1)) (fun v18 =>
  bnd (lft (loadA T 54 v18)) (fun v19 =>
  bnd (lft (lenA T 54 v19)) (fun v20 =>
  bnd (lft (binA T BinOp.gtr 3 v20 (AV.int IntKind.i64 8))) (fun v21 =>
  M.pure [v21])))))) (fun v22 =>
  bnd (lft (pickA v17 (AV.bool true) (nth v22 0))) (fun v23 =>
  bnd (guardM v23 false 1 (bnd (lft (fieldAddrA T 56 (AV.ip (acells v13)) 1)) (fun v24 =>
  bnd (lft (loadA T 54 v24)) (fun v25 =>
  bnd (call 61 [v25]) (fun v26 =>
  bnd (lft (unA UnOp.not v26)) (fun v27 =>
  M.pure [v27])))))) (fun v28 =>
  bnd (lft (pickA v23 (AV.bool true) (nth v28 0))) (fun v29 =>
  bnd (guardM v29 false 1 (bnd (lft (fieldAddrA T 56 (AV.ip (acells v13)) 2)) (fun v30 =>
  bnd (lft (loadA T 27 v30)) (fun v31 =>
  bnd (lft (buildSliceA T 54 1 [(0, v31)])) (fun v32 =>
  bnd (call 61 [v32]) (fun v33 =>
  bnd (lft (unA UnOp.not v33)) (fun v34 =>
  M.pure [v34]))))))) (fun v35 =>
  bnd (lft (pickA v29 (AV.bool true) (nth v35 0))) (fun v36 =>
  condM v36 (M.pure (AV.bool false)) (bnd (lft (binA T BinOp.add 3 (nth v1 1) (AV.int IntKind.i64 1))) (fun v37 =>
  v0 [nth v1 0, v37])))))))))))))))))) (bnd (lft (fieldAddrA T 24 (nth v1 0) 0)) (fun v38 =>
  bnd (lft (loadA T 9 v38)) (fun v39 =>
  bnd (lft (lenA T 9 v39)) (fun v40 =>
  bnd (lft (binA T BinOp.leq 3 v40 (AV.int IntKind.i64 30))) (fun v41 =>
  bnd (guardM v41 true 1 (bnd (lft (fieldAddrA T 24 (nth v1 0) 1)) (fun v42 =>
  bnd (lft (loadA T 22 v42)) (fun v43 =>
  bnd (lft (lenA T 22 v43)) (fun v44 =>
  bnd (lft (binA T BinOp.leq 3 v44 (AV.int IntKind.i64 10))) (fun v45 =>
  M.pure [v45])))))) (fun v46 =>
  bnd (lft (pickA v41 (nth v46 0) (AV.bool false))) (fun v47 =>
  M.pure v47)))))))))))))
theorem XL15_0 {call : FuncId → List AV → M AV} : Cont1 (L15_0 call fixW ) fun _n => L15_0 call fixW  := by
  intro v0 v0s hself v1
  unfold L15_0
  exact (LimM.bnd (LimM.const _) fun _ => (LimM.bnd (LimM.const _) fun _ => (LimM.bnd (LimM.const _) fun _ => (LimM.bnd (LimM.const _) fun _ => (LimM.bnd (LimM.const _) fun _ => (LimM.bnd (LimM.const _) fun _ => (condM_lim (LimM.bnd (LimM.const _) fun _ => (LimM.bnd (LimM.const _) fun _ => (LimM.bnd (LimM.const _) fun _ => (LimM.bnd (LimM.const _) fun _ => (LimM.bnd (LimM.const _) fun _ => (LimM.bnd (LimM.const _) fun _ => (LimM.bnd (LimM.const _) fun _ => (LimM.bnd (LimM.const _) fun _ => (LimM.bnd (LimM.const _) fun _ => (LimM.bnd (LimM.const _) fun _ => (LimM.bnd (LimM.const _) fun _ => (LimM.bnd (LimM.const _) fun _ => (LimM.bnd (LimM.const _) fun _ => (LimM.bnd (LimM.const _) fun _ => (LimM.bnd (LimM.const _) fun _ => (condM_lim (LimM.const _) (LimM.bnd (LimM.const _) fun _ => (hself _)))))))))))))))))) (LimM.const _))))))))
theorem FL15_0 (call : FuncId → List AV → M AV) (vs : List AV) : fixW (L15_0 call fixW ) vs = L15_0 call fixW  (fixW (L15_0 call fixW )) vs := fixW_eq (XL15_0 ) vs
noncomputable def S15 (call : FuncId → List AV → M AV) (fx : Fix AV) (a0 : AV) : M AV :=
  fx (L15_0 call fx) [AV.ip (acells a0), AV.int IntKind.i64 0]
theorem E15 (call : FuncId → List AV → M AV) (fx : Fix AV) (a0 : AV) : evBody (pg.cx call Tryz.f15.ntmps ann15) fx Tryz.f15 (own 15) [a0] = S15 call fx a0 := by kernel_rfl
theorem C15 (a0 : AV) : callW pg 15 [a0] = isoP (S15 (callW pg) fixW (cl noHs a0)) := (callW_iso hOther rfl rfl rfl _).trans (congrArg isoP (E15 _ _ (cl noHs a0)))
noncomputable def S17 (call : FuncId → List AV → M AV) (fx : Fix AV) (a0 a1 : AV) : M AV :=
  bnd (lft (loadA T 24 (AV.ip (acells a0)))) (fun v0 =>
  bnd (lft (loadA T 24 (AV.ip (acells a1)))) (fun v1 =>
  bnd (call 64 [v0, v1]) (fun v2 =>
  bnd (lft (unA UnOp.not v2)) (fun v3 =>
  condM v3 (M.pure (AV.tup [AV.int IntKind.i64 2, AV.str []])) (bnd (lft (loadA T 24 (AV.ip (acells a0)))) (fun v4 =>
  bnd (lft (loadA T 24 (AV.ip (acells a1)))) (fun v5 =>
  bnd (call 65 [v4, v5]) (fun v6 =>
  bnd (lft (extractA v6 0)) (fun v7 =>
  bnd (lft (extractA v6 1)) (fun v8 =>
  bnd (cellsM 5 v7) (fun v9 =>
  condM v8 (bnd (lft (fieldAddrA T 56 (AV.ip (acells v9)) 0)) (fun v10 =>
  bnd (lft (loadA T 9 v10)) (fun v11 =>
  M.pure (AV.tup [AV.int IntKind.i64 2, v11])))) (bnd (lft (loadA T 24 (AV.ip (acells a1)))) (fun v12 =>
  bnd (lft (loadA T 24 (AV.ip (acells a0)))) (fun v13 =>
  bnd (call 65 [v12, v13]) (fun v14 =>
  bnd (lft (extractA v14 0)) (fun v15 =>
  bnd (lft (extractA v14 1)) (fun v16 =>
  bnd (cellsM 5 v15) (fun v17 =>
  condM v16 (M.pure (AV.tup [AV.int IntKind.i64 1, AV.str []])) (M.pure (AV.tup [AV.int IntKind.i64 0, AV.str []]))))))))))))))))))))
theorem E17 (call : FuncId → List AV → M AV) (fx : Fix AV) (a0 a1 : AV) : evBody (pg.cx call Tryz.f17.ntmps ann17) fx Tryz.f17 (own 17) [a0, a1] = S17 call fx a0 a1 := by kernel_rfl
theorem C17 (a0 a1 : AV) : callW pg 17 [a0, a1] = isoP (S17 (callW pg) fixW (cl noHs a0) (cl noHs a1)) := (callW_iso hOther rfl rfl rfl _).trans (congrArg isoP (E17 _ _ (cl noHs a0) (cl noHs a1)))
noncomputable def L37_0 (call : FuncId → List AV → M AV) (fx : Fix AV) (v16 : List AV → M AV) (v17 : List AV) : M AV :=
  bnd (lft (binA T BinOp.lss 3 (nth v17 2) (nth v17 1))) (fun v18 =>
  condM v18 (bnd (lft (indexAddrA T 54 (nth v17 0) (nth v17 2))) (fun v19 =>
  bnd (loadH T 27 v19) (fun v20 =>
  bnd (cellsM 2 v20) (fun v21 =>
  bnd (lft (loadA T 27 (AV.ip (acells v21)))) (fun v22 =>
  bnd (noPan (call 104 [v22])) (fun v23 =>
  bnd (lft (indexAddrA T 54 (nth v17 9) (nth v17 2))) (fun v24 =>
  bnd (storeH T 27 v24 v23) (fun v25 =>
  bnd (lft (binA T BinOp.add 3 (nth v17 2) (AV.int IntKind.i64 1))) (fun v26 =>
  v16 [nth v17 0, nth v17 1, v26, nth v17 3, nth v17 4, nth v17 5, nth v17 6, nth v17 7, nth v17 8, nth v17 9, nth v17 10, nth v17 11, nth v17 12]))))))))) (bnd (cellsNil 5 [] (AV.agg [nth v17 8, nth v17 9, nth v17 10, nth v17 11, nth v17 12])) (fun v27 =>
  M.pure (AV.tup [AV.agg [nth (acells v27) 0, nth (acells v27) 1, nth (acells v27) 2, nth (acells v27) 3, nth (acells v27) 4], AV.bool true]))))
theorem XL37_0 {call : FuncId → List AV → M AV} : Cont1 (L37_0 call fixW ) fun _n => L37_0 call fixW  := by
  intro v16 v16s hself v17
  unfold L37_0
  exact (LimM.bnd (LimM.const _) fun _ => (condM_lim (LimM.bnd (LimM.const _) fun _ => (LimM.bnd (LimM.const _) fun _ => (LimM.bnd (LimM.const _) fun _ => (LimM.bnd (LimM.const _) fun _ => (LimM.bnd (LimM.const _) fun _ => (LimM.bnd (LimM.const _) fun _ => (LimM.bnd (LimM.const _) fun _ => (LimM.bnd (LimM.const _) fun _ => (hself _))))))))) (LimM.const _)))
theorem FL37_0 (call : FuncId → List AV → M AV) (vs : List AV) : fixW (L37_0 call fixW ) vs = L37_0 call fixW  (fixW (L37_0 call fixW )) vs := fixW_eq (XL37_0 ) vs
noncomputable def S37 (call : FuncId → List AV → M AV) (fx : Fix AV) (a0 a1 : AV) : M AV :=
  bnd (lft (fieldAddrA T 24 (AV.ip (acells a0)) 1)) (fun v0 =>
  bnd (lft (loadA T 22 v0)) (fun v1 =>
  bnd (call 101 [v1, AV.fn (Fn.func 102) [] [AV.ip (acells a1)]]) (fun v2 =>
  bnd (lft (binA T BinOp.lss 3 v2 (AV.int IntKind.i64 0))) (fun v3 =>
  condM v3 (bnd (lft (buildA T false 56 [])) (fun v4 =>
  bnd (cellsNil 5 [] v4) (fun v5 =>
  M.pure (AV.tup [AV.agg [nth (acells v5) 0, nth (acells v5) 1, nth (acells v5) 2, nth (acells v5) 3, nth (acells v5) 4], AV.bool false])))) (bnd (lft (fieldAddrA T 24 (AV.ip (acells a0)) 1)) (fun v6 =>
  bnd (lft (loadA T 22 v6)) (fun v7 =>
  bnd (lft (indexAddrA T 22 v7 v2)) (fun v8 =>
  bnd (lft (loadA T 56 v8)) (fun v9 =>
  bnd (cellsNil 5 [] v9) (fun v10 =>
  bnd (call 103 [nth (acells v10) 1]) (fun v11 =>
  bnd (noPan (call 104 [AV.agg [nth (acells v10) 2, nth (acells v10) 3]])) (fun v12 =>
  bnd (cell1M v11) (fun v13 =>
  bnd (cellsNil 2 [] v12) (fun v14 =>
  bnd (lft (lenA T 54 v11)) (fun v15 =>
  fx (L37_0 call fx) [v11, v15, AV.int IntKind.i64 0, AV.str [], AV.sl [], AV.int IntKind.i64 0, AV.sl [], AV.int IntKind.i64 0, nth (acells v10) 0, v11, nth (acells v14) 0, nth (acells v14) 1, nth (acells v10) 4])))))))))))))))
theorem E37 (call : FuncId → List AV → M AV) (fx : Fix AV) (a0 a1 : AV) : evBody (pg.cx call Tryz.f37.ntmps ann37) fx Tryz.f37 (own 37) [a0, a1] = S37 call fx a0 a1 := by kernel_rfl
theorem C37 (a0 a1 : AV) : callW pg 37 [a0, a1] = isoP (S37 (callW pg) fixW (cl noHs a0) (cl noHs a1)) := (callW_iso hOther rfl rfl rfl _).trans (congrArg isoP (E37 _ _ (cl noHs a0) (cl noHs a1)))
noncomputable def L63_0 (call : FuncId → List AV → M AV) (fx : Fix AV) (v0 : List AV → M AV) (v1 : List AV) : M AV :=
  bnd (lft (fieldAddrA T 27 (nth v1 0) 1)) (fun v2 =>
  bnd (lft (loadA T 25 v2)) (fun v3 =>
  bnd (lft (lenA T 25 v3)) (fun v4 =>
  bnd (lft (binA T BinOp.lss 3 (nth v1 1) v4)) (fun v5 =>
  condM v5 (bnd (lft (fieldAddrA T 27 (nth v1 0) 1)) (fun v6 =>
  bnd (lft (loadA T 25 v6)) (fun v7 =>
  bnd (lft (indexAddrA T 25 v7 (nth v1 1))) (fun v8 =>
  bnd (lft (fieldAddrA T 76 v8 0)) (fun v9 =>
  bnd (lft (loadA T 9 v9)) (fun v10 =>
  bnd (lft (lenA T 9 v10)) (fun v11 =>
  bnd (lft (binA T BinOp.gtr 3 v11 (AV.int IntKind.i64 30))) (fun v12 =>
  bnd (guardM v12 false 1 (bnd (lft (fieldAddrA T 27 (nth v1 0) 1)) (fun v13 =>
  bnd (lft (loadA T 25 v13)) (fun v14 =>
  bnd (lft (indexAddrA T 25 v14 (nth v1 1))) (fun v15 =>
  bnd (lft (fieldAddrA T 76 v15 1)) (fun v16 =>
  bnd (lft (loadA T 27 v16)) (fun v17 =>
  bnd (call 63 [v17]) (fun v18 =>
  bnd (lft (unA UnOp.not v18)) (fun v19 =>
  M.pure [v19]))))))))) (fun v20 =>
  bnd (lft (pickA v12 (AV.bool true) (nth v20 0))) (fun v21 =>
  condM v21 (M.pure (AV.bool false)) (bnd (lft (binA T BinOp.add 3 (nth v1 1) (AV.int IntKind.i64 1))) (fun v22 =>
  v0 [nth v1 0, v22])))))))))))) (M.pure (AV.bool true))))))
theorem XL63_0 {call : FuncId → List AV → M AV} : Cont1 (L63_0 call fixW ) fun _n => L63_0 call fixW  := by
  intro v0 v0s hself v1
  unfold L63_0
  exact (LimM.bnd (LimM.const _) fun _ => (LimM.bnd (LimM.const _) fun _ => (LimM.bnd (LimM.const _) fun _ => (LimM.bnd (LimM.const _) fun _ => (condM_lim (LimM.bnd (LimM.const _) fun _ => (LimM.bnd (LimM.const _) fun _ => (LimM.bnd (LimM.const _) fun _ => (LimM.bnd (LimM.const _) fun _ => (LimM.bnd (LimM.const _) fun _ => (LimM.bnd (LimM.const _) fun _ => (LimM.bnd (LimM.const _) fun _ => (LimM.bnd (LimM.const _) fun _ => (LimM.bnd (LimM.const _) fun _ => (condM_lim (LimM.const _) (LimM.bnd (LimM.const _) fun _ => (hself _)))))))))))) (LimM.const _))))))
theorem FL63_0 (call : FuncId → List AV → M AV) (vs : List AV) : fixW (L63_0 call fixW ) vs = L63_0 call fixW  (fixW (L63_0 call fixW )) vs := fixW_eq (XL63_0 ) vs
noncomputable def S63 (call : FuncId → List AV → M AV) (fx : Fix AV) (a0 : AV) : M AV :=
  fx (L63_0 call fx) [AV.ip (acells a0), AV.int IntKind.i64 0]
theorem E63 (call : FuncId → List AV → M AV) (fx : Fix AV) (a0 : AV) : evBody (pg.cx call Tryz.f63.ntmps ann63) fx Tryz.f63 (own 63) [a0] = S63 call fx a0 := by kernel_rfl
theorem C63 (a0 : AV) : callW pg 63 [a0] = isoP (S63 (callW pg) fixW (cl noHs a0)) := (callW_iso hOther rfl rfl rfl _).trans (congrArg isoP (E63 _ _ (cl noHs a0)))
noncomputable def L65_0 (call : FuncId → List AV → M AV) (fx : Fix AV) (v3 : List AV → M AV) (v4 : List AV) : M AV :=
  bnd (lft (binA T BinOp.lss 3 (nth v4 3) (nth v4 2))) (fun v5 =>
  condM v5 (bnd (lft (indexAddrA T 22 (nth v4 1) (nth v4 3))) (fun v6 =>
  bnd (lft (loadA T 56 v6)) (fun v7 =>
  bnd (cellsM 5 v7) (fun v8 =>
  bnd (lft (loadA T 24 (nth v4 0))) (fun v9 =>
  bnd (lft (fieldAddrA T 56 (AV.ip (acells v8)) 0)) (fun v10 =>
  bnd (lft (loadA T 9 v10)) (fun v11 =>
  bnd (call 37 [v9, v11]) (fun v12 =>
  bnd (lft (extractA v12 0)) (fun v13 =>
  bnd (lft (extractA v12 1)) (fun v14 =>
  bnd (cellsM 5 v13) (fun v15 =>
  bnd (lft (unA UnOp.not v14)) (fun v16 =>
  bnd (guardM v16 false 1 (bnd (lft (loadA T 56 (AV.ip (acells v15)))) (fun v17 =>
  bnd (lft (loadA T 56 (AV.ip (acells v8)))) (fun v18 =>
  bnd (call 44 [v17, v18]) (fun v19 =>
  bnd (lft (unA UnOp.not v19)) (fun v20 =>
  M.pure [v20])))))) (fun v21 =>
  bnd (lft (pickA v16 (AV.bool true) (nth v21 0))) (fun v22 =>
  condM v22 (bnd (lft (loadA T 56 (AV.ip (acells v8)))) (fun v23 =>
  bnd (cellsNil 5 [] v23) (fun v24 =>
  M.pure (AV.tup [AV.agg [nth (acells v24) 0, nth (acells v24) 1, nth (acells v24) 2, nth (acells v24) 3, nth (acells v24) 4], AV.bool true])))) (bnd (lft (binA T BinOp.add 3 (nth v4 3) (AV.int IntKind.i64 1))) (fun v25 =>
  v3 [nth v4 0, nth v4 1, nth v4 2, v25, nth v4 4, nth v4 5, nth v4 6, nth v4 7, nth v4 8])))))))))))))))) (bnd (lft (buildA T false 56 [])) (fun v26 =>
  bnd (cellsNil 5 [] v26) (fun v27 =>
  M.pure (AV.tup [AV.agg [nth (acells v27) 0, nth (acells v27) 1, nth (acells v27) 2, nth (acells v27) 3, nth (acells v27) 4], AV.bool false])))))
theorem XL65_0 {call : FuncId → List AV → M AV} : Cont1 (L65_0 call fixW ) fun _n => L65_0 call fixW  := by
  intro v3 v3s hself v4
  unfold L65_0
  exact (LimM.bnd (LimM.const _) fun _ => (condM_lim (LimM.bnd (LimM.const _) fun _ => (LimM.bnd (LimM.const _) fun _ => (LimM.bnd (LimM.const _) fun _ => (LimM.bnd (LimM.const _) fun _ => (LimM.bnd (LimM.const _) fun _ => (LimM.bnd (LimM.const _) fun _ => (LimM.bnd (LimM.const _) fun _ => (LimM.bnd (LimM.const _) fun _ => (LimM.bnd (LimM.const _) fun _ => (LimM.bnd (LimM.const _) fun _ => (LimM.bnd (LimM.const _) fun _ => (LimM.bnd (LimM.const _) fun _ => (LimM.bnd (LimM.const _) fun _ => (condM_lim (LimM.const _) (LimM.bnd (LimM.const _) fun _ => (hself _)))))))))))))))) (LimM.const _)))
theorem FL65_0 (call : FuncId → List AV → M AV) (vs : List AV) : fixW (L65_0 call fixW ) vs = L65_0 call fixW  (fixW (L65_0 call fixW )) vs := fixW_eq (XL65_0 ) vs
noncomputable def S65 (call : FuncId → List AV → M AV) (fx : Fix AV) (a0 a1 : AV) : M AV :=
  bnd (lft (fieldAddrA T 24 (AV.ip (acells a0)) 1)) (fun v0 =>
  bnd (lft (loadA T 22 v0)) (fun v1 =>
  bnd (lft (lenA T 22 v1)) (fun v2 =>
  fx (L65_0 call fx) [AV.ip (acells a1), v1, v2, AV.int IntKind.i64 0, AV.str [], AV.sl [], AV.int IntKind.i64 0, AV.sl [], AV.int IntKind.i64 0])))
theorem E65 (call : FuncId → List AV → M AV) (fx : Fix AV) (a0 a1 : AV) : evBody (pg.cx call Tryz.f65.ntmps ann65) fx Tryz.f65 (own 65) [a0, a1] = S65 call fx a0 a1 := by kernel_rfl
theorem C65 (a0 a1 : AV) : callW pg 65 [a0, a1] = isoP (S65 (callW pg) fixW (cl noHs a0) (cl noHs a1)) := (callW_iso hOther rfl rfl rfl _).trans (congrArg isoP (E65 _ _ (cl noHs a0) (cl noHs a1)))
noncomputable def L72_0 (call : FuncId → List AV → M AV) (fx : Fix AV) (v3 : List AV → M AV) (v4 : List AV) : M AV :=
  bnd (lft (lenA T 35 (nth v4 0))) (fun v5 =>
  bnd (lft (binA T BinOp.lss 3 (nth v4 2) v5)) (fun v6 =>
  condM v6 (bnd (lft (indexAddrA T 35 (nth v4 0) (nth v4 2))) (fun v7 =>
  bnd (lft (loadA T 9 v7)) (fun v8 =>
  bnd (lft (indexAddrA T 35 (nth v4 1) (nth v4 2))) (fun v9 =>
  bnd (lft (loadA T 9 v9)) (fun v10 =>
  bnd (lft (binA T BinOp.neq 9 v8 v10)) (fun v11 =>
  condM v11 (M.pure (AV.bool false)) (bnd (lft (binA T BinOp.add 3 (nth v4 2) (AV.int IntKind.i64 1))) (fun v12 =>
  v3 [nth v4 0, nth v4 1, v12])))))))) (M.pure (AV.bool true))))
theorem XL72_0 {call : FuncId → List AV → M AV} : Cont1 (L72_0 call fixW ) fun _n => L72_0 call fixW  := by
  intro v3 v3s hself v4
  unfold L72_0
  exact (LimM.bnd (LimM.const _) fun _ => (LimM.bnd (LimM.const _) fun _ => (condM_lim (LimM.bnd (LimM.const _) fun _ => (LimM.bnd (LimM.const _) fun _ => (LimM.bnd (LimM.const _) fun _ => (LimM.bnd (LimM.const _) fun _ => (LimM.bnd (LimM.const _) fun _ => (condM_lim (LimM.const _) (LimM.bnd (LimM.const _) fun _ => (hself _)))))))) (LimM.const _))))
theorem FL72_0 (call : FuncId → List AV → M AV) (vs : List AV) : fixW (L72_0 call fixW ) vs = L72_0 call fixW  (fixW (L72_0 call fixW )) vs := fixW_eq (XL72_0 ) vs
noncomputable def S72 (call : FuncId → List AV → M AV) (fx : Fix AV) (a0 a1 : AV) : M AV :=
  bnd (lft (lenA T 35 a0)) (fun v0 =>
  bnd (lft (lenA T 35 a1)) (fun v1 =>
  bnd (lft (binA T BinOp.neq 3 v0 v1)) (fun v2 =>
  condM v2 (M.pure (AV.bool false)) (fx (L72_0 call fx) [a0, a1, AV.int IntKind.i64 0]))))
theorem E72 (call : FuncId → List AV → M AV) (fx : Fix AV) (a0 a1 : AV) : evBody (pg.cx call Tryz.f72.ntmps ann72) fx Tryz.f72 (own 72) [a0, a1] = S72 call fx a0 a1 := by kernel_rfl
theorem C72 (a0 a1 : AV) : callW pg 72 [a0, a1] = isoP (S72 (callW pg) fixW (cl noHs a0) (cl noHs a1)) := (callW_iso hOther rfl rfl rfl _).trans (congrArg isoP (E72 _ _ (cl noHs a0) (cl noHs a1)))
noncomputable def S77 (call : FuncId → List AV → M AV) (fx : Fix AV) (a0 : AV) : M AV :=
  bnd (lft (fieldAddrA T 56 (AV.ip (acells a0)) 0)) (fun v0 =>
  bnd (lft (loadA T 9 v0)) (fun v1 =>
  bnd (call 76 [v1]) (fun v2 =>
  bnd (lft (unA UnOp.not v2)) (fun v3 =>
  bnd (guardM v3 false 1 (bnd (lft (fieldAddrA T 56 (AV.ip (acells a0)) 1)) (fun v4 =>
  bnd (lft (loadA T 54 v4)) (fun v5 =>
  bnd (lft (lenA T 54 v5)) (fun v6 =>
  bnd (lft (binA T BinOp.gtr 3 v6 (AV.int IntKind.i64 6))) (fun v7 =>
  M.pure [v7])))))) (fun v8 =>
  bnd (lft (pickA v3 (AV.bool true) (nth v8 0))) (fun v9 =>
  bnd (guardM v9 false 1 (bnd (lft (fieldAddrA T 56 (AV.ip (acells a0)) 3)) (fun v10 =>
  bnd (lft (loadA T 3 v10)) (fun v11 =>
  bnd (lft (binA T BinOp.andNot 3 v11 (AV.int IntKind.i64 15))) (fun v12 =>
  bnd (lft (binA T BinOp.neq 3 v12 (AV.int IntKind.i64 0))) (fun v13 =>
  M.pure [v13])))))) (fun v14 =>
  bnd (lft (pickA v9 (AV.bool true) (nth v14 0))) (fun v15 =>
  bnd (guardM v15 false 1 (bnd (lft (fieldAddrA T 56 (AV.ip (acells a0)) 2)) (fun v16 =>
  bnd (lft (loadA T 27 v16)) (fun v17 =>
  bnd (call 47 [v17]) (fun v18 =>
  bnd (lft (unA UnOp.not v18)) (fun v19 =>
  M.pure [v19])))))) (fun v20 =>
  bnd (lft (pickA v15 (AV.bool true) (nth v20 0))) (fun v21 =>
  condM v21 (M.pure (AV.bool false)) (bnd (lft (fieldAddrA T 56 (AV.ip (acells a0)) 1)) (fun v22 =>
  bnd (lft (loadA T 54 v22)) (fun v23 =>
  bnd (call 148 [v23, AV.fn (Fn.func 149) [] []]) (fun v24 =>
  bnd (lft (unA UnOp.not v24)) (fun v25 =>
  M.pure v25)))))))))))))))
theorem E77 (call : FuncId → List AV → M AV) (fx : Fix AV) (a0 : AV) : evBody (pg.cx call Tryz.f77.ntmps ann77) fx Tryz.f77 (own 77) [a0] = S77 call fx a0 := by kernel_rfl
theorem C77 (a0 : AV) : callW pg 77 [a0] = isoP (S77 (callW pg) fixW (cl noHs a0)) := (callW_iso hOther rfl rfl rfl _).trans (congrArg isoP (E77 _ _ (cl noHs a0)))
noncomputable def S102 (call : FuncId → List AV → M AV) (fx : Fix AV) (a0 a1 : AV) : M AV :=
  bnd (lft (fieldAddrA T 56 (AV.ip (acells a0)) 0)) (fun v0 =>
  bnd (lft (loadA T 9 v0)) (fun v1 =>
  bnd (lft (loadA T 9 a1)) (fun v2 =>
  bnd (lft (binA T BinOp.eql 9 v1 v2)) (fun v3 =>
  M.pure v3))))
theorem E102 (call : FuncId → List AV → M AV) (fx : Fix AV) (a0 a1 : AV) : evBody (pg.cx call Tryz.f102.ntmps ann102) fx Tryz.f102 (own 102) [a0, a1] = S102 call fx a0 a1 := by kernel_rfl
theorem C102 (a0 a1 : AV) : callW pg 102 [a0, a1] = isoP (S102 (callW pg) fixW (cl noHs a0) (cl noHs a1)) := (callW_iso hOther rfl rfl rfl _).trans (congrArg isoP (E102 _ _ (cl noHs a0) (cl noHs a1)))
noncomputable def S106 (call : FuncId → List AV → M AV) (fx : Fix AV) (a0 : AV) : M AV :=
  bnd (call 164 [a0]) (fun v0 =>
  bnd (guardM v0 true 1 (bnd (call 166 []) (fun v1 =>
  bnd (call 165 [v1, a0]) (fun v2 =>
  bnd (lft (binA T BinOp.lss 3 v2 (AV.int IntKind.i64 0))) (fun v3 =>
  M.pure [v3]))))) (fun v4 =>
  bnd (lft (pickA v0 (nth v4 0) (AV.bool false))) (fun v5 =>
  M.pure v5)))
theorem E106 (call : FuncId → List AV → M AV) (fx : Fix AV) (a0 : AV) : evBody (pg.cx call Tryz.f106.ntmps ann106) fx Tryz.f106 (own 106) [a0] = S106 call fx a0 := by kernel_rfl
theorem C106 (a0 : AV) : callW pg 106 [a0] = isoP (S106 (callW pg) fixW (cl noHs a0)) := (callW_iso hOther rfl rfl rfl _).trans (congrArg isoP (E106 _ _ (cl noHs a0)))
noncomputable def S144 (call : FuncId → List AV → M AV) (fx : Fix AV) (a0 : AV) : M AV :=
  bnd (lft (fieldAddrA T 29 (AV.ip (acells a0)) 0)) (fun v0 =>
  bnd (lft (loadA T 3 v0)) (fun v1 =>
  bnd (lft (binA T BinOp.geq 3 v1 (AV.int IntKind.i64 0))) (fun v2 =>
  bnd (guardM v2 true 1 (bnd (lft (fieldAddrA T 29 (AV.ip (acells a0)) 0)) (fun v3 =>
  bnd (lft (loadA T 3 v3)) (fun v4 =>
  bnd (lft (binA T BinOp.leq 3 v4 (AV.int IntKind.i64 1048576))) (fun v5 =>
  M.pure [v5]))))) (fun v6 =>
  bnd (lft (pickA v2 (nth v6 0) (AV.bool false))) (fun v7 =>
  bnd (guardM v7 true 1 (bnd (lft (fieldAddrA T 29 (AV.ip (acells a0)) 1)) (fun v8 =>
  bnd (lft (loadA T 3 v8)) (fun v9 =>
  bnd (lft (binA T BinOp.geq 3 v9 (AV.int IntKind.i64 0))) (fun v10 =>
  M.pure [v10]))))) (fun v11 =>
  bnd (lft (pickA v7 (nth v11 0) (AV.bool false))) (fun v12 =>
  bnd (guardM v12 true 1 (bnd (lft (fieldAddrA T 29 (AV.ip (acells a0)) 1)) (fun v13 =>
  bnd (lft (loadA T 3 v13)) (fun v14 =>
  bnd (lft (binA T BinOp.leq 3 v14 (AV.int IntKind.i64 1048576))) (fun v15 =>
  M.pure [v15]))))) (fun v16 =>
  bnd (lft (pickA v12 (nth v16 0) (AV.bool false))) (fun v17 =>
  bnd (guardM v17 true 1 (bnd (lft (fieldAddrA T 29 (AV.ip (acells a0)) 2)) (fun v18 =>
  bnd (lft (loadA T 3 v18)) (fun v19 =>
  bnd (lft (binA T BinOp.geq 3 v19 (AV.int IntKind.i64 0))) (fun v20 =>
  M.pure [v20]))))) (fun v21 =>
  bnd (lft (pickA v17 (nth v21 0) (AV.bool false))) (fun v22 =>
  bnd (guardM v22 true 1 (bnd (lft (fieldAddrA T 29 (AV.ip (acells a0)) 2)) (fun v23 =>
  bnd (lft (loadA T 3 v23)) (fun v24 =>
  bnd (lft (binA T BinOp.leq 3 v24 (AV.int IntKind.i64 1048576))) (fun v25 =>
  M.pure [v25]))))) (fun v26 =>
  bnd (lft (pickA v22 (nth v26 0) (AV.bool false))) (fun v27 =>
  M.pure v27)))))))))))))
theorem E144 (call : FuncId → List AV → M AV) (fx : Fix AV) (a0 : AV) : evBody (pg.cx call Tryz.f144.ntmps ann144) fx Tryz.f144 (own 144) [a0] = S144 call fx a0 := by kernel_rfl
theorem C144 (a0 : AV) : callW pg 144 [a0] = isoP (S144 (callW pg) fixW (cl noHs a0)) := (callW_iso hOther rfl rfl rfl _).trans (congrArg isoP (E144 _ _ (cl noHs a0)))
noncomputable def S175 (call : FuncId → List AV → M AV) (fx : Fix AV) (a0 : AV) : M AV :=
  bnd (lft (loadA T 27 (AV.ip (acells a0)))) (fun v0 =>
  bnd (call 74 [v0]) (fun v1 =>
  M.pure v1))
theorem E175 (call : FuncId → List AV → M AV) (fx : Fix AV) (a0 : AV) : evBody (pg.cx call Tryz.f175.ntmps ann175) fx Tryz.f175 (own 175) [a0] = S175 call fx a0 := by kernel_rfl
theorem C175 (a0 : AV) : callW pg 175 [a0] = isoP (S175 (callW pg) fixW (cl noHs a0)) := (callW_iso hOther rfl rfl rfl _).trans (congrArg isoP (E175 _ _ (cl noHs a0)))
noncomputable def S201 (call : FuncId → List AV → M AV) (fx : Fix AV) (a0 : AV) : M AV :=
  bnd (call 199 [a0]) (fun v0 =>
  bnd (guardM v0 false 1 (bnd (call 202 [a0]) (fun v1 =>
  M.pure [v1]))) (fun v2 =>
  bnd (lft (pickA v0 (AV.bool true) (nth v2 0))) (fun v3 =>
  M.pure v3)))
theorem E201 (call : FuncId → List AV → M AV) (fx : Fix AV) (a0 : AV) : evBody (pg.cx call Tryz.f201.ntmps ann201) fx Tryz.f201 (own 201) [a0] = S201 call fx a0 := by kernel_rfl
theorem C201 (a0 : AV) : callW pg 201 [a0] = isoP (S201 (callW pg) fixW (cl noHs a0)) := (callW_iso hOther rfl rfl rfl _).trans (congrArg isoP (E201 _ _ (cl noHs a0)))
noncomputable def L204_0 (call : FuncId → List AV → M AV) (fx : Fix AV) (v1 : List AV → M AV) (v2 : List AV) : M AV :=
  bnd (lft (binA T BinOp.lss 3 (nth v2 3) (nth v2 2))) (fun v3 =>
  condM v3 (bnd (lft (indexAddrA T 54 (nth v2 0) (nth v2 3))) (fun v4 =>
  bnd (lft (loadA T 27 v4)) (fun v5 =>
  bnd (callV call (nth v2 1) [v5]) (fun v6 =>
  condM v6 (M.pure (nth v2 3)) (bnd (lft (binA T BinOp.add 3 (nth v2 3) (AV.int IntKind.i64 1))) (fun v7 =>
  v1 [nth v2 0, nth v2 1, nth v2 2, v7])))))) (M.pure (AV.int IntKind.i64 (-1))))
theorem XL204_0 {call : FuncId → List AV → M AV} : Cont1 (L204_0 call fixW ) fun _n => L204_0 call fixW  := by
  intro v1 v1s hself v2
  unfold L204_0
  exact (LimM.bnd (LimM.const _) fun _ => (condM_lim (LimM.bnd (LimM.const _) fun _ => (LimM.bnd (LimM.const _) fun _ => (LimM.bnd (LimM.const _) fun _ => (condM_lim (LimM.const _) (LimM.bnd (LimM.const _) fun _ => (hself _)))))) (LimM.const _)))
theorem FL204_0 (call : FuncId → List AV → M AV) (vs : List AV) : fixW (L204_0 call fixW ) vs = L204_0 call fixW  (fixW (L204_0 call fixW )) vs := fixW_eq (XL204_0 ) vs
noncomputable def S204 (call : FuncId → List AV → M AV) (fx : Fix AV) (a0 a1 : AV) : M AV :=
  bnd (lft (lenA T 54 a0)) (fun v0 =>
  fx (L204_0 call fx) [a0, a1, v0, AV.int IntKind.i64 0])
theorem E204 (call : FuncId → List AV → M AV) (fx : Fix AV) (a0 a1 : AV) : evBody (pg.cx call Tryz.f204.ntmps ann204) fx Tryz.f204 (own 204) [a0, a1] = S204 call fx a0 a1 := by kernel_rfl
theorem C204 (a0 a1 : AV) : callW pg 204 [a0, a1] = isoP (S204 (callW pg) fixW (cl noHs a0) (cl noHs a1)) := (callW_iso hOther rfl rfl rfl _).trans (congrArg isoP (E204 _ _ (cl noHs a0) (cl noHs a1)))
noncomputable def S212 (call : FuncId → List AV → M AV) (fx : Fix AV) (a0 : AV) : M AV :=
  bnd (lft (binA T BinOp.geq 5 a0 (AV.int IntKind.u8 97))) (fun v0 =>
  bnd (guardM v0 true 1 (bnd (lft (binA T BinOp.leq 5 a0 (AV.int IntKind.u8 122))) (fun v1 =>
  M.pure [v1]))) (fun v2 =>
  bnd (lft (pickA v0 (nth v2 0) (AV.bool false))) (fun v3 =>
  M.pure v3)))
theorem E212 (call : FuncId → List AV → M AV) (fx : Fix AV) (a0 : AV) : evBody (pg.cx call Tryz.f212.ntmps ann212) fx Tryz.f212 (own 212) [a0] = S212 call fx a0 := by kernel_rfl
theorem C212 (a0 : AV) : callW pg 212 [a0] = isoP (S212 (callW pg) fixW (cl noHs a0)) := (callW_iso hOther rfl rfl rfl _).trans (congrArg isoP (E212 _ _ (cl noHs a0)))
end Go.Proofs.YteemeakjlfnapaaGreatDoor
