/- Shallow programs of the functions, part 3: written by a program. No condition. -/
import Derived.Test.YteemeakjlfnapaaGreatDoorAnn
namespace Go.Proofs.YteemeakjlfnapaaGreatDoor
open Go Go.Av
set_option maxRecDepth 100000
noncomputable def S16 (call : FuncId → List AV → M AV) (fx : Fix AV) (a0 : AV) : M AV :=
  bnd (lft (loadA T 27 (AV.ip (acells a0)))) (fun v0 =>
  bnd (call 62 [v0, AV.int IntKind.i64 40]) (fun v1 =>
  bnd (lft (binA T BinOp.leq 3 v1 (AV.int IntKind.i64 40))) (fun v2 =>
  bnd (guardM v2 true 1 (bnd (lft (loadA T 27 (AV.ip (acells a0)))) (fun v3 =>
  bnd (call 63 [v3]) (fun v4 =>
  M.pure [v4])))) (fun v5 =>
  bnd (lft (pickA v2 (nth v5 0) (AV.bool false))) (fun v6 =>
  M.pure v6)))))
theorem E16 (call : FuncId → List AV → M AV) (fx : Fix AV) (a0 : AV) : evBody (pg.cx call Tryz.f16.ntmps ann16) fx Tryz.f16 (own 16) [a0] = S16 call fx a0 := by kernel_rfl
theorem C16 (a0 : AV) : callW pg 16 [a0] = isoP (S16 (callW pg) fixW (cl noHs a0)) := (callW_iso hOther rfl rfl rfl _).trans (congrArg isoP (E16 _ _ (cl noHs a0)))
noncomputable def S18 (call : FuncId → List AV → M AV) (fx : Fix AV) (a0 a1 : AV) : M AV :=
  bnd (lft (loadA T 24 (AV.ip (acells a0)))) (fun v0 =>
  bnd (lft (loadA T 24 (AV.ip (acells a1)))) (fun v1 =>
  bnd (call 66 [v0, v1]) (fun v2 =>
  bnd (lft (unA UnOp.not v2)) (fun v3 =>
  condM v3 (M.pure (AV.tup [AV.int IntKind.i64 2, AV.str []])) (bnd (lft (loadA T 24 (AV.ip (acells a0)))) (fun v4 =>
  bnd (lft (loadA T 24 (AV.ip (acells a1)))) (fun v5 =>
  bnd (call 67 [v4, v5]) (fun v6 =>
  bnd (lft (extractA v6 0)) (fun v7 =>
  bnd (lft (extractA v6 1)) (fun v8 =>
  bnd (cellsM 5 v7) (fun v9 =>
  bnd (lft (unA UnOp.not v8)) (fun v10 =>
  condM v10 (bnd (lft (fieldAddrA T 56 (AV.ip (acells v9)) 0)) (fun v11 =>
  bnd (lft (loadA T 9 v11)) (fun v12 =>
  M.pure (AV.tup [AV.int IntKind.i64 2, v12])))) (bnd (lft (loadA T 24 (AV.ip (acells a1)))) (fun v13 =>
  bnd (lft (loadA T 24 (AV.ip (acells a0)))) (fun v14 =>
  bnd (call 67 [v13, v14]) (fun v15 =>
  bnd (lft (extractA v15 0)) (fun v16 =>
  bnd (lft (extractA v15 1)) (fun v17 =>
  bnd (cellsM 5 v16) (fun v18 =>
  condM v17 (M.pure (AV.tup [AV.int IntKind.i64 0, AV.str []])) (M.pure (AV.tup [AV.int IntKind.i64 1, AV.str []])))))))))))))))))))))
theorem E18 (call : FuncId → List AV → M AV) (fx : Fix AV) (a0 a1 : AV) : evBody (pg.cx call Tryz.f18.ntmps ann18) fx Tryz.f18 (own 18) [a0, a1] = S18 call fx a0 a1 := by kernel_rfl
theorem C18 (a0 a1 : AV) : callW pg 18 [a0, a1] = isoP (S18 (callW pg) fixW (cl noHs a0) (cl noHs a1)) := (callW_iso hOther rfl rfl rfl _).trans (congrArg isoP (E18 _ _ (cl noHs a0) (cl noHs a1)))
noncomputable def L21_0 (call : FuncId → List AV → M AV) (fx : Fix AV) (v7 : List AV → M AV) (v8 : List AV) : M AV :=
  bnd (lft (fieldAddrA T 41 (nth v8 0) 4)) (fun v9 =>
  bnd (lft (loadA T 37 v9)) (fun v10 =>
  bnd (lft (lenA T 37 v10)) (fun v11 =>
  bnd (lft (binA T BinOp.lss 3 (nth v8 2) v11)) (fun v12 =>
  condM v12 (bnd (lft (fieldAddrA T 41 (nth v8 0) 4)) (fun v13 =>
  bnd (lft (loadA T 37 v13)) (fun v14 =>
  bnd (lft (indexAddrA T 37 v14 (nth v8 2))) (fun v15 =>
  bnd (lft (loadA T 73 v15)) (fun v16 =>
  bnd (lft (fieldAddrA T 41 (nth v8 1) 4)) (fun v17 =>
  bnd (lft (loadA T 37 v17)) (fun v18 =>
  bnd (lft (indexAddrA T 37 v18 (nth v8 2))) (fun v19 =>
  bnd (lft (loadA T 73 v19)) (fun v20 =>
  bnd (noPan (call 69 [v16, v20])) (fun v21 =>
  bnd (lft (unA UnOp.not v21)) (fun v22 =>
  condM v22 (M.pure (AV.bool false)) (bnd (lft (binA T BinOp.add 3 (nth v8 2) (AV.int IntKind.i64 1))) (fun v23 =>
  v7 [nth v8 0, nth v8 1, v23]))))))))))))) (bnd (lft (fieldAddrA T 41 (nth v8 0) 6)) (fun v24 =>
  bnd (lft (fieldAddrA T 39 v24 0)) (fun v25 =>
  bnd (lft (loadA T 25 v25)) (fun v26 =>
  bnd (lft (fieldAddrA T 41 (nth v8 1) 6)) (fun v27 =>
  bnd (lft (fieldAddrA T 39 v27 0)) (fun v28 =>
  bnd (lft (loadA T 25 v28)) (fun v29 =>
  bnd (call 70 [v26, v29]) (fun v30 =>
  bnd (guardM v30 true 1 (bnd (lft (fieldAddrA T 41 (nth v8 0) 6)) (fun v31 =>
  bnd (lft (fieldAddrA T 39 v31 1)) (fun v32 =>
  bnd (lft (loadA T 36 v32)) (fun v33 =>
  bnd (lft (fieldAddrA T 41 (nth v8 1) 6)) (fun v34 =>
  bnd (lft (fieldAddrA T 39 v34 1)) (fun v35 =>
  bnd (lft (loadA T 36 v35)) (fun v36 =>
  bnd (call 71 [v33, v36]) (fun v37 =>
  M.pure [v37]))))))))) (fun v38 =>
  bnd (lft (pickA v30 (nth v38 0) (AV.bool false))) (fun v39 =>
  bnd (guardM v39 true 1 (bnd (lft (fieldAddrA T 41 (nth v8 0) 6)) (fun v40 =>
  bnd (lft (fieldAddrA T 39 v40 2)) (fun v41 =>
  bnd (lft (loadA T 36 v41)) (fun v42 =>
  bnd (lft (fieldAddrA T 41 (nth v8 1) 6)) (fun v43 =>
  bnd (lft (fieldAddrA T 39 v43 2)) (fun v44 =>
  bnd (lft (loadA T 36 v44)) (fun v45 =>
  bnd (call 71 [v42, v45]) (fun v46 =>
  M.pure [v46]))))))))) (fun v47 =>
  bnd (lft (pickA v39 (nth v47 0) (AV.bool false))) (fun v48 =>
  bnd (lft (fieldAddrA T 41 (nth v8 0) 0)) (fun v49 =>
  bnd (lft (loadA T 9 v49)) (fun v50 =>
  bnd (lft (fieldAddrA T 41 (nth v8 1) 0)) (fun v51 =>
  bnd (lft (loadA T 9 v51)) (fun v52 =>
  bnd (lft (binA T BinOp.eql 9 v50 v52)) (fun v53 =>
  bnd (guardM v53 true 1 (bnd (lft (fieldAddrA T 41 (nth v8 0) 1)) (fun v54 =>
  bnd (lft (loadA T 35 v54)) (fun v55 =>
  bnd (lft (fieldAddrA T 41 (nth v8 1) 1)) (fun v56 =>
  bnd (lft (loadA T 35 v56)) (fun v57 =>
  bnd (call 72 [v55, v57]) (fun v58 =>
  M.pure [v58]))))))) (fun v59 =>
  bnd (lft (pickA v53 (nth v59 0) (AV.bool false))) (fun v60 =>
  bnd (guardM v60 true 1 (bnd (lft (fieldAddrA T 41 (nth v8 0) 2)) (fun v61 =>
  bnd (lft (loadA T 25 v61)) (fun v62 =>
  bnd (lft (fieldAddrA T 41 (nth v8 1) 2)) (fun v63 =>
  bnd (lft (loadA T 25 v63)) (fun v64 =>
  bnd (call 70 [v62, v64]) (fun v65 =>
  M.pure [v65]))))))) (fun v66 =>
  bnd (lft (pickA v60 (nth v66 0) (AV.bool false))) (fun v67 =>
  bnd (guardM v67 true 1 (bnd (lft (fieldAddrA T 41 (nth v8 0) 3)) (fun v68 =>
  bnd (lft (loadA T 36 v68)) (fun v69 =>
  bnd (lft (fieldAddrA T 41 (nth v8 1) 3)) (fun v70 =>
  bnd (lft (loadA T 36 v70)) (fun v71 =>
  bnd (call 71 [v69, v71]) (fun v72 =>
  M.pure [v72]))))))) (fun v73 =>
  bnd (lft (pickA v67 (nth v73 0) (AV.bool false))) (fun v74 =>
  bnd (guardM v74 true 1 (bnd (lft (fieldAddrA T 41 (nth v8 0) 5)) (fun v75 =>
  bnd (lft (loadA T 4 v75)) (fun v76 =>
  bnd (lft (fieldAddrA T 41 (nth v8 1) 5)) (fun v77 =>
  bnd (lft (loadA T 4 v77)) (fun v78 =>
  bnd (lft (binA T BinOp.eql 4 v76 v78)) (fun v79 =>
  M.pure [v79]))))))) (fun v80 =>
  bnd (lft (pickA v74 (nth v80 0) (AV.bool false))) (fun v81 =>
  bnd (guardM v81 true 1 (M.pure [v48])) (fun v82 =>
  bnd (lft (pickA v81 (nth v82 0) (AV.bool false))) (fun v83 =>
  M.pure v83)))))))))))))))))))))))))))))))
theorem XL21_0 {call : FuncId → List AV → M AV} : Cont1 (L21_0 call fixW ) fun _n => L21_0 call fixW  := by
  intro v7 v7s hself v8
  unfold L21_0
  exact (LimM.bnd (LimM.const _) fun _ => (LimM.bnd (LimM.const _) fun _ => (LimM.bnd (LimM.const _) fun _ => (LimM.bnd (LimM.const _) fun _ => (condM_lim (LimM.bnd (LimM.const _) fun _ => (LimM.bnd (LimM.const _) fun _ => (LimM.bnd (LimM.const _) fun _ => (LimM.bnd (LimM.const _) fun _ => (LimM.bnd (LimM.const _) fun _ => (LimM.bnd (LimM.const _) fun _ => (LimM.bnd (LimM.const _) fun _ => (LimM.bnd (LimM.const _) fun _ => (LimM.bnd (LimM.const _) fun _ => (LimM.bnd (LimM.const _) fun _ => (condM_lim (LimM.const _) (LimM.bnd (LimM.const _) fun _ => (hself _))))))))))))) (LimM.const _))))))
theorem FL21_0 (call : FuncId → List AV → M AV) (vs : List AV) : fixW (L21_0 call fixW ) vs = L21_0 call fixW  (fixW (L21_0 call fixW )) vs := fixW_eq (XL21_0 ) vs
noncomputable def S21 (call : FuncId → List AV → M AV) (fx : Fix AV) (a0 a1 : AV) : M AV :=
  bnd (lft (fieldAddrA T 41 (AV.ip (acells a0)) 4)) (fun v0 =>
  bnd (lft (loadA T 37 v0)) (fun v1 =>
  bnd (lft (lenA T 37 v1)) (fun v2 =>
  bnd (lft (fieldAddrA T 41 (AV.ip (acells a1)) 4)) (fun v3 =>
  bnd (lft (loadA T 37 v3)) (fun v4 =>
  bnd (lft (lenA T 37 v4)) (fun v5 =>
  bnd (lft (binA T BinOp.neq 3 v2 v5)) (fun v6 =>
  condM v6 (M.pure (AV.bool false)) (fx (L21_0 call fx) [AV.ip (acells a0), AV.ip (acells a1), AV.int IntKind.i64 0]))))))))
theorem E21 (call : FuncId → List AV → M AV) (fx : Fix AV) (a0 a1 : AV) : evBody (pg.cx call Tryz.f21.ntmps ann21) fx Tryz.f21 (own 21) [a0, a1] = S21 call fx a0 a1 := by kernel_rfl
theorem C21 (a0 a1 : AV) : callW pg 21 [a0, a1] = isoP (S21 (callW pg) fixW (cl noHs a0) (cl noHs a1)) := (callW_iso hOther rfl rfl rfl _).trans (congrArg isoP (E21 _ _ (cl noHs a0) (cl noHs a1)))
noncomputable def S23 (call : FuncId → List AV → M AV) (fx : Fix AV) (a0 : AV) : M AV :=
  bnd (lft (loadA T 27 (AV.ip (acells a0)))) (fun v0 =>
  bnd (call 73 [v0]) (fun v1 =>
  bnd (lft (unA UnOp.not v1)) (fun v2 =>
  condM v2 (bnd (lft (buildA T false 47 [])) (fun v3 =>
  bnd (cellsNil 6 [] v3) (fun v4 =>
  M.pure (AV.agg [nth (acells v4) 0, nth (acells v4) 1, nth (acells v4) 2, nth (acells v4) 3, nth (acells v4) 4, nth (acells v4) 5])))) (bnd (lft (loadA T 27 (AV.ip (acells a0)))) (fun v5 =>
  bnd (call 68 [v5]) (fun v6 =>
  bnd (cellsNil 6 [] v6) (fun v7 =>
  M.pure (AV.agg [nth (acells v7) 0, nth (acells v7) 1, nth (acells v7) 2, nth (acells v7) 3, nth (acells v7) 4, nth (acells v7) 5]))))))))
theorem E23 (call : FuncId → List AV → M AV) (fx : Fix AV) (a0 : AV) : evBody (pg.cx call Tryz.f23.ntmps ann23) fx Tryz.f23 (own 23) [a0] = S23 call fx a0 := by kernel_rfl
theorem C23 (a0 : AV) : callW pg 23 [a0] = isoP (S23 (callW pg) fixW (cl noHs a0)) := (callW_iso hOther rfl rfl rfl _).trans (congrArg isoP (E23 _ _ (cl noHs a0)))
noncomputable def S26 (call : FuncId → List AV → M AV) (fx : Fix AV) (a0 a1 a2 : AV) : M AV :=
  bnd (lft (loadA T 29 (AV.ip (acells a0)))) (fun v0 =>
  bnd (lft (loadA T 29 (AV.ip (acells a1)))) (fun v1 =>
  bnd (call 75 [v0, v1]) (fun v2 =>
  bnd (lft (binA T BinOp.eql 3 a2 (AV.int IntKind.i64 0))) (fun v3 =>
  bnd (guardM v3 true 1 (bnd (lft (binA T BinOp.geq 3 v2 (AV.int IntKind.i64 1))) (fun v4 =>
  M.pure [v4]))) (fun v5 =>
  bnd (lft (pickA v3 (nth v5 0) (AV.bool false))) (fun v6 =>
  bnd (guardM v6 false 1 (bnd (lft (binA T BinOp.eql 3 a2 (AV.int IntKind.i64 1))) (fun v7 =>
  M.pure [v7]))) (fun v8 =>
  bnd (guardM (nth v8 0) true 1 (bnd (lft (binA T BinOp.geq 3 v2 (AV.int IntKind.i64 2))) (fun v9 =>
  M.pure [v9]))) (fun v10 =>
  bnd (guardM v6 false 1 (bnd (lft (pickA (nth v8 0) (nth v10 0) (AV.bool false))) (fun v11 =>
  M.pure [v11]))) (fun v12 =>
  bnd (lft (pickA v6 (AV.bool true) (nth v12 0))) (fun v13 =>
  bnd (guardM v13 false 1 (bnd (lft (binA T BinOp.eql 3 a2 (AV.int IntKind.i64 2))) (fun v14 =>
  M.pure [v14]))) (fun v15 =>
  bnd (guardM (nth v15 0) true 1 (bnd (lft (binA T BinOp.geq 3 v2 (AV.int IntKind.i64 3))) (fun v16 =>
  M.pure [v16]))) (fun v17 =>
  bnd (guardM v13 false 1 (bnd (lft (pickA (nth v15 0) (nth v17 0) (AV.bool false))) (fun v18 =>
  M.pure [v18]))) (fun v19 =>
  bnd (lft (pickA v13 (AV.bool true) (nth v19 0))) (fun v20 =>
  M.pure v20))))))))))))))
theorem E26 (call : FuncId → List AV → M AV) (fx : Fix AV) (a0 a1 a2 : AV) : evBody (pg.cx call Tryz.f26.ntmps ann26) fx Tryz.f26 (own 26) [a0, a1, a2] = S26 call fx a0 a1 a2 := by kernel_rfl
theorem C26 (a0 a1 a2 : AV) : callW pg 26 [a0, a1, a2] = isoP (S26 (callW pg) fixW (cl noHs a0) (cl noHs a1) (cl noHs a2)) := (callW_iso hOther rfl rfl rfl _).trans (congrArg isoP (E26 _ _ (cl noHs a0) (cl noHs a1) (cl noHs a2)))
noncomputable def L38_0 (call : FuncId → List AV → M AV) (fx : Fix AV) (v0 : List AV → M AV) (v1 : List AV) : M AV :=
  bnd (lft (fieldAddrA T 24 (nth v1 1) 1)) (fun v2 =>
  bnd (lft (loadA T 22 v2)) (fun v3 =>
  bnd (lft (lenA T 22 v3)) (fun v4 =>
  bnd (lft (binA T BinOp.lss 3 (nth v1 2) v4)) (fun v5 =>
  condM v5 (bnd (lft (fieldAddrA T 24 (nth v1 1) 1)) (fun v6 =>
  bnd (lft (loadA T 22 v6)) (fun v7 =>
  bnd (lft (indexAddrA T 22 v7 (nth v1 2))) (fun v8 =>
  bnd (lft (fieldAddrA T 56 v8 0)) (fun v9 =>
  bnd (lft (loadA T 9 v9)) (fun v10 =>
  bnd (lft (binA T BinOp.eql 9 v10 (nth v1 0))) (fun v11 =>
  condM v11 (bnd (lft (fieldAddrA T 24 (nth v1 1) 1)) (fun v12 =>
  bnd (lft (loadA T 22 v12)) (fun v13 =>
  bnd (lft (indexAddrA T 22 v13 (nth v1 2))) (fun v14 =>
  bnd (lft (loadA T 56 v14)) (fun v15 =>
  bnd (cellsNil 5 [] v15) (fun v16 =>
  M.pure (AV.tup [AV.agg [nth (acells v16) 0, nth (acells v16) 1, nth (acells v16) 2, nth (acells v16) 3, nth (acells v16) 4], AV.bool true]))))))) (bnd (lft (binA T BinOp.add 3 (nth v1 2) (AV.int IntKind.i64 1))) (fun v17 =>
  v0 [nth v1 0, nth v1 1, v17, nth v1 3, nth v1 4, nth v1 5, nth v1 6, nth v1 7]))))))))) (bnd (lft (buildA T false 56 [])) (fun v18 =>
  bnd (cellsNil 5 [] v18) (fun v19 =>
  M.pure (AV.tup [AV.agg [nth (acells v19) 0, nth (acells v19) 1, nth (acells v19) 2, nth (acells v19) 3, nth (acells v19) 4], AV.bool false]))))))))
theorem XL38_0 {call : FuncId → List AV → M AV} : Cont1 (L38_0 call fixW ) fun _n => L38_0 call fixW  := by
  intro v0 v0s hself v1
  unfold L38_0
  exact (LimM.bnd (LimM.const _) fun _ => (LimM.bnd (LimM.const _) fun _ => (LimM.bnd (LimM.const _) fun _ => (LimM.bnd (LimM.const _) fun _ => (condM_lim (LimM.bnd (LimM.const _) fun _ => (LimM.bnd (LimM.const _) fun _ => (LimM.bnd (LimM.const _) fun _ => (LimM.bnd (LimM.const _) fun _ => (LimM.bnd (LimM.const _) fun _ => (LimM.bnd (LimM.const _) fun _ => (condM_lim (LimM.const _) (LimM.bnd (LimM.const _) fun _ => (hself _))))))))) (LimM.const _))))))
theorem FL38_0 (call : FuncId → List AV → M AV) (vs : List AV) : fixW (L38_0 call fixW ) vs = L38_0 call fixW  (fixW (L38_0 call fixW )) vs := fixW_eq (XL38_0 ) vs
noncomputable def S38 (call : FuncId → List AV → M AV) (fx : Fix AV) (a0 a1 : AV) : M AV :=
  fx (L38_0 call fx) [a1, AV.ip (acells a0), AV.int IntKind.i64 0, AV.str [], AV.sl [], AV.int IntKind.i64 0, AV.sl [], AV.int IntKind.i64 0]
theorem E38 (call : FuncId → List AV → M AV) (fx : Fix AV) (a0 a1 : AV) : evBody (pg.cx call Tryz.f38.ntmps ann38) fx Tryz.f38 (own 38) [a0, a1] = S38 call fx a0 a1 := by kernel_rfl
theorem C38 (a0 a1 : AV) : callW pg 38 [a0, a1] = isoP (S38 (callW pg) fixW (cl noHs a0) (cl noHs a1)) := (callW_iso hOther rfl rfl rfl _).trans (congrArg isoP (E38 _ _ (cl noHs a0) (cl noHs a1)))
noncomputable def L45_0 (call : FuncId → List AV → M AV) (fx : Fix AV) (v25 : List AV → M AV) (v26 : List AV) : M AV :=
  bnd (lft (fieldAddrA T 56 (nth v26 0) 1)) (fun v27 =>
  bnd (lft (loadA T 54 v27)) (fun v28 =>
  bnd (lft (lenA T 54 v28)) (fun v29 =>
  bnd (lft (binA T BinOp.lss 3 (nth v26 2) v29)) (fun v30 =>
  condM v30 (bnd (lft (fieldAddrA T 56 (nth v26 1) 1)) (fun v31 =>
  bnd (lft (loadA T 54 v31)) (fun v32 =>
  bnd (lft (indexAddrA T 54 v32 (nth v26 2))) (fun v33 =>
  bnd (lft (loadA T 27 v33)) (fun v34 =>
  bnd (lft (fieldAddrA T 56 (nth v26 0) 1)) (fun v35 =>
  bnd (lft (loadA T 54 v35)) (fun v36 =>
  bnd (lft (indexAddrA T 54 v36 (nth v26 2))) (fun v37 =>
  bnd (lft (loadA T 27 v37)) (fun v38 =>
  bnd (noPan (call 112 [v34, v38])) (fun v39 =>
  bnd (lft (unA UnOp.not v39)) (fun v40 =>
  condM v40 (M.pure (AV.bool false)) (bnd (lft (binA T BinOp.add 3 (nth v26 2) (AV.int IntKind.i64 1))) (fun v41 =>
  v25 [nth v26 0, nth v26 1, v41]))))))))))))) (M.pure (AV.bool true))))))
theorem XL45_0 {call : FuncId → List AV → M AV} : Cont1 (L45_0 call fixW ) fun _n => L45_0 call fixW  := by
  intro v25 v25s hself v26
  unfold L45_0
  exact (LimM.bnd (LimM.const _) fun _ => (LimM.bnd (LimM.const _) fun _ => (LimM.bnd (LimM.const _) fun _ => (LimM.bnd (LimM.const _) fun _ => (condM_lim (LimM.bnd (LimM.const _) fun _ => (LimM.bnd (LimM.const _) fun _ => (LimM.bnd (LimM.const _) fun _ => (LimM.bnd (LimM.const _) fun _ => (LimM.bnd (LimM.const _) fun _ => (LimM.bnd (LimM.const _) fun _ => (LimM.bnd (LimM.const _) fun _ => (LimM.bnd (LimM.const _) fun _ => (LimM.bnd (LimM.const _) fun _ => (LimM.bnd (LimM.const _) fun _ => (condM_lim (LimM.const _) (LimM.bnd (LimM.const _) fun _ => (hself _))))))))))))) (LimM.const _))))))
theorem FL45_0 (call : FuncId → List AV → M AV) (vs : List AV) : fixW (L45_0 call fixW ) vs = L45_0 call fixW  (fixW (L45_0 call fixW )) vs := fixW_eq (XL45_0 ) vs
noncomputable def S45 (call : FuncId → List AV → M AV) (fx : Fix AV) (a0 a1 : AV) : M AV :=
  bnd (lft (fieldAddrA T 56 (AV.ip (acells a0)) 1)) (fun v0 =>
  bnd (lft (loadA T 54 v0)) (fun v1 =>
  bnd (lft (lenA T 54 v1)) (fun v2 =>
  bnd (lft (fieldAddrA T 56 (AV.ip (acells a1)) 1)) (fun v3 =>
  bnd (lft (loadA T 54 v3)) (fun v4 =>
  bnd (lft (lenA T 54 v4)) (fun v5 =>
  bnd (lft (binA T BinOp.neq 3 v2 v5)) (fun v6 =>
  bnd (guardM v6 false 1 (bnd (lft (fieldAddrA T 56 (AV.ip (acells a0)) 2)) (fun v7 =>
  bnd (lft (loadA T 27 v7)) (fun v8 =>
  bnd (lft (fieldAddrA T 56 (AV.ip (acells a1)) 2)) (fun v9 =>
  bnd (lft (loadA T 27 v9)) (fun v10 =>
  bnd (call 112 [v8, v10]) (fun v11 =>
  bnd (lft (unA UnOp.not v11)) (fun v12 =>
  M.pure [v12])))))))) (fun v13 =>
  bnd (lft (pickA v6 (AV.bool true) (nth v13 0))) (fun v14 =>
  bnd (guardM v14 false 1 (bnd (lft (fieldAddrA T 56 (AV.ip (acells a0)) 3)) (fun v15 =>
  bnd (lft (loadA T 3 v15)) (fun v16 =>
  bnd (lft (fieldAddrA T 56 (AV.ip (acells a1)) 3)) (fun v17 =>
  bnd (lft (loadA T 3 v17)) (fun v18 =>
  bnd (lft (binA T BinOp.and 3 v16 v18)) (fun v19 =>
  bnd (lft (fieldAddrA T 56 (AV.ip (acells a0)) 3)) (fun v20 =>
  bnd (lft (loadA T 3 v20)) (fun v21 =>
  bnd (lft (binA T BinOp.neq 3 v19 v21)) (fun v22 =>
  M.pure [v22])))))))))) (fun v23 =>
  bnd (lft (pickA v14 (AV.bool true) (nth v23 0))) (fun v24 =>
  condM v24 (M.pure (AV.bool false)) (fx (L45_0 call fx) [AV.ip (acells a0), AV.ip (acells a1), AV.int IntKind.i64 0]))))))))))))
theorem E45 (call : FuncId → List AV → M AV) (fx : Fix AV) (a0 a1 : AV) : evBody (pg.cx call Tryz.f45.ntmps ann45) fx Tryz.f45 (own 45) [a0, a1] = S45 call fx a0 a1 := by kernel_rfl
theorem C45 (a0 a1 : AV) : callW pg 45 [a0, a1] = isoP (S45 (callW pg) fixW (cl noHs a0) (cl noHs a1)) := (callW_iso hOther rfl rfl rfl _).trans (congrArg isoP (E45 _ _ (cl noHs a0) (cl noHs a1)))
noncomputable def S47 (call : FuncId → List AV → M AV) (fx : Fix AV) (a0 : AV) : M AV :=
  bnd (lft (loadA T 27 (AV.ip (acells a0)))) (fun v0 =>
  bnd (call 116 [v0, AV.int IntKind.i64 4]) (fun v1 =>
  M.pure v1))
theorem E47 (call : FuncId → List AV → M AV) (fx : Fix AV) (a0 : AV) : evBody (pg.cx call Tryz.f47.ntmps ann47) fx Tryz.f47 (own 47) [a0] = S47 call fx a0 := by kernel_rfl
theorem C47 (a0 : AV) : callW pg 47 [a0] = isoP (S47 (callW pg) fixW (cl noHs a0)) := (callW_iso hOther rfl rfl rfl _).trans (congrArg isoP (E47 _ _ (cl noHs a0)))
noncomputable def S69 (call : FuncId → List AV → M AV) (fx : Fix AV) (a0 a1 : AV) : M AV :=
  bnd (lft (fieldAddrA T 73 (AV.ip (acells a0)) 0)) (fun v0 =>
  bnd (lft (loadA T 9 v0)) (fun v1 =>
  bnd (lft (fieldAddrA T 73 (AV.ip (acells a1)) 0)) (fun v2 =>
  bnd (lft (loadA T 9 v2)) (fun v3 =>
  bnd (lft (binA T BinOp.eql 9 v1 v3)) (fun v4 =>
  bnd (guardM v4 true 1 (bnd (lft (fieldAddrA T 73 (AV.ip (acells a0)) 1)) (fun v5 =>
  bnd (lft (loadA T 4 v5)) (fun v6 =>
  bnd (lft (fieldAddrA T 73 (AV.ip (acells a1)) 1)) (fun v7 =>
  bnd (lft (loadA T 4 v7)) (fun v8 =>
  bnd (lft (binA T BinOp.eql 4 v6 v8)) (fun v9 =>
  M.pure [v9]))))))) (fun v10 =>
  bnd (lft (pickA v4 (nth v10 0) (AV.bool false))) (fun v11 =>
  bnd (guardM v11 true 1 (bnd (lft (fieldAddrA T 73 (AV.ip (acells a0)) 2)) (fun v12 =>
  bnd (lft (loadA T 25 v12)) (fun v13 =>
  bnd (lft (fieldAddrA T 73 (AV.ip (acells a1)) 2)) (fun v14 =>
  bnd (lft (loadA T 25 v14)) (fun v15 =>
  bnd (call 70 [v13, v15]) (fun v16 =>
  M.pure [v16]))))))) (fun v17 =>
  bnd (lft (pickA v11 (nth v17 0) (AV.bool false))) (fun v18 =>
  bnd (guardM v18 true 1 (bnd (lft (fieldAddrA T 73 (AV.ip (acells a0)) 3)) (fun v19 =>
  bnd (lft (loadA T 27 v19)) (fun v20 =>
  bnd (lft (fieldAddrA T 73 (AV.ip (acells a1)) 3)) (fun v21 =>
  bnd (lft (loadA T 27 v21)) (fun v22 =>
  bnd (call 142 [v20, v22]) (fun v23 =>
  M.pure [v23]))))))) (fun v24 =>
  bnd (lft (pickA v18 (nth v24 0) (AV.bool false))) (fun v25 =>
  bnd (guardM v25 true 1 (bnd (lft (fieldAddrA T 73 (AV.ip (acells a0)) 4)) (fun v26 =>
  bnd (lft (loadA T 3 v26)) (fun v27 =>
  bnd (lft (fieldAddrA T 73 (AV.ip (acells a1)) 4)) (fun v28 =>
  bnd (lft (loadA T 3 v28)) (fun v29 =>
  bnd (lft (binA T BinOp.eql 3 v27 v29)) (fun v30 =>
  M.pure [v30]))))))) (fun v31 =>
  bnd (lft (pickA v25 (nth v31 0) (AV.bool false))) (fun v32 =>
  bnd (guardM v32 true 1 (bnd (lft (fieldAddrA T 73 (AV.ip (acells a0)) 5)) (fun v33 =>
  bnd (lft (loadA T 47 v33)) (fun v34 =>
  bnd (lft (fieldAddrA T 73 (AV.ip (acells a1)) 5)) (fun v35 =>
  bnd (lft (loadA T 47 v35)) (fun v36 =>
  bnd (call 22 [v34, v36]) (fun v37 =>
  M.pure [v37]))))))) (fun v38 =>
  bnd (lft (pickA v32 (nth v38 0) (AV.bool false))) (fun v39 =>
  M.pure v39)))))))))))))))
theorem E69 (call : FuncId → List AV → M AV) (fx : Fix AV) (a0 a1 : AV) : evBody (pg.cx call Tryz.f69.ntmps ann69) fx Tryz.f69 (own 69) [a0, a1] = S69 call fx a0 a1 := by kernel_rfl
theorem C69 (a0 a1 : AV) : callW pg 69 [a0, a1] = isoP (S69 (callW pg) fixW (cl noHs a0) (cl noHs a1)) := (callW_iso hOther rfl rfl rfl _).trans (congrArg isoP (E69 _ _ (cl noHs a0) (cl noHs a1)))
noncomputable def L71_0 (call : FuncId → List AV → M AV) (fx : Fix AV) (v3 : List AV → M AV) (v4 : List AV) : M AV :=
  bnd (lft (lenA T 36 (nth v4 0))) (fun v5 =>
  bnd (lft (binA T BinOp.lss 3 (nth v4 2) v5)) (fun v6 =>
  condM v6 (bnd (lft (indexAddrA T 36 (nth v4 0) (nth v4 2))) (fun v7 =>
  bnd (lft (loadA T 47 v7)) (fun v8 =>
  bnd (lft (indexAddrA T 36 (nth v4 1) (nth v4 2))) (fun v9 =>
  bnd (lft (loadA T 47 v9)) (fun v10 =>
  bnd (noPan (call 22 [v8, v10])) (fun v11 =>
  bnd (lft (unA UnOp.not v11)) (fun v12 =>
  condM v12 (M.pure (AV.bool false)) (bnd (lft (binA T BinOp.add 3 (nth v4 2) (AV.int IntKind.i64 1))) (fun v13 =>
  v3 [nth v4 0, nth v4 1, v13]))))))))) (M.pure (AV.bool true))))
theorem XL71_0 {call : FuncId → List AV → M AV} : Cont1 (L71_0 call fixW ) fun _n => L71_0 call fixW  := by
  intro v3 v3s hself v4
  unfold L71_0
  exact (LimM.bnd (LimM.const _) fun _ => (LimM.bnd (LimM.const _) fun _ => (condM_lim (LimM.bnd (LimM.const _) fun _ => (LimM.bnd (LimM.const _) fun _ => (LimM.bnd (LimM.const _) fun _ => (LimM.bnd (LimM.const _) fun _ => (LimM.bnd (LimM.const _) fun _ => (LimM.bnd (LimM.const _) fun _ => (condM_lim (LimM.const _) (LimM.bnd (LimM.const _) fun _ => (hself _))))))))) (LimM.const _))))
theorem FL71_0 (call : FuncId → List AV → M AV) (vs : List AV) : fixW (L71_0 call fixW ) vs = L71_0 call fixW  (fixW (L71_0 call fixW )) vs := fixW_eq (XL71_0 ) vs
noncomputable def S71 (call : FuncId → List AV → M AV) (fx : Fix AV) (a0 a1 : AV) : M AV :=
  bnd (lft (lenA T 36 a0)) (fun v0 =>
  bnd (lft (lenA T 36 a1)) (fun v1 =>
  bnd (lft (binA T BinOp.neq 3 v0 v1)) (fun v2 =>
  condM v2 (M.pure (AV.bool false)) (fx (L71_0 call fx) [a0, a1, AV.int IntKind.i64 0]))))
theorem E71 (call : FuncId → List AV → M AV) (fx : Fix AV) (a0 a1 : AV) : evBody (pg.cx call Tryz.f71.ntmps ann71) fx Tryz.f71 (own 71) [a0, a1] = S71 call fx a0 a1 := by kernel_rfl
theorem C71 (a0 a1 : AV) : callW pg 71 [a0, a1] = isoP (S71 (callW pg) fixW (cl noHs a0) (cl noHs a1)) := (callW_iso hOther rfl rfl rfl _).trans (congrArg isoP (E71 _ _ (cl noHs a0) (cl noHs a1)))
noncomputable def L111_0 (call : FuncId → List AV → M AV) (fx : Fix AV) (v4 : List AV → M AV) (v5 : List AV) : M AV :=
  bnd (lft (binA T BinOp.lss 3 (nth v5 4) (nth v5 3))) (fun v6 =>
  condM v6 (bnd (lft (indexAddrA T 54 (nth v5 2) (nth v5 4))) (fun v7 =>
  bnd (lft (loadA T 27 v7)) (fun v8 =>
  bnd (cellsM 2 v8) (fun v9 =>
  bnd (lft (indexAddrA T 54 (nth v5 0) (nth v5 4))) (fun v10 =>
  bnd (lft (loadA T 27 v10)) (fun v11 =>
  bnd (cellsM 2 v11) (fun v12 =>
  bnd (lft (loadA T 27 (AV.ip (acells v9)))) (fun v13 =>
  bnd (lft (loadA T 27 (AV.ip (acells v12)))) (fun v14 =>
  bnd (callV call (nth v5 1) [v13, v14]) (fun v15 =>
  bnd (lft (unA UnOp.not v15)) (fun v16 =>
  condM v16 (M.pure (AV.bool false)) (bnd (lft (binA T BinOp.add 3 (nth v5 4) (AV.int IntKind.i64 1))) (fun v17 =>
  v4 [nth v5 0, nth v5 1, nth v5 2, nth v5 3, v17]))))))))))))) (M.pure (AV.bool true)))
theorem XL111_0 {call : FuncId → List AV → M AV} : Cont1 (L111_0 call fixW ) fun _n => L111_0 call fixW  := by
  intro v4 v4s hself v5
  unfold L111_0
  exact (LimM.bnd (LimM.const _) fun _ => (condM_lim (LimM.bnd (LimM.const _) fun _ => (LimM.bnd (LimM.const _) fun _ => (LimM.bnd (LimM.const _) fun _ => (LimM.bnd (LimM.const _) fun _ => (LimM.bnd (LimM.const _) fun _ => (LimM.bnd (LimM.const _) fun _ => (LimM.bnd (LimM.const _) fun _ => (LimM.bnd (LimM.const _) fun _ => (LimM.bnd (LimM.const _) fun _ => (LimM.bnd (LimM.const _) fun _ => (condM_lim (LimM.const _) (LimM.bnd (LimM.const _) fun _ => (hself _))))))))))))) (LimM.const _)))
theorem FL111_0 (call : FuncId → List AV → M AV) (vs : List AV) : fixW (L111_0 call fixW ) vs = L111_0 call fixW  (fixW (L111_0 call fixW )) vs := fixW_eq (XL111_0 ) vs
noncomputable def S111 (call : FuncId → List AV → M AV) (fx : Fix AV) (a0 a1 a2 : AV) : M AV :=
  bnd (lft (lenA T 54 a0)) (fun v0 =>
  bnd (lft (lenA T 54 a1)) (fun v1 =>
  bnd (lft (binA T BinOp.neq 3 v0 v1)) (fun v2 =>
  condM v2 (M.pure (AV.bool false)) (bnd (lft (lenA T 54 a0)) (fun v3 =>
  fx (L111_0 call fx) [a1, a2, a0, v3, AV.int IntKind.i64 0])))))
theorem E111 (call : FuncId → List AV → M AV) (fx : Fix AV) (a0 a1 a2 : AV) : evBody (pg.cx call Tryz.f111.ntmps ann111) fx Tryz.f111 (own 111) [a0, a1, a2] = S111 call fx a0 a1 a2 := by kernel_rfl
theorem C111 (a0 a1 a2 : AV) : callW pg 111 [a0, a1, a2] = isoP (S111 (callW pg) fixW (cl noHs a0) (cl noHs a1) (cl noHs a2)) := (callW_iso hOther rfl rfl rfl _).trans (congrArg isoP (E111 _ _ (cl noHs a0) (cl noHs a1) (cl noHs a2)))
noncomputable def S142 (call : FuncId → List AV → M AV) (fx : Fix AV) (a0 a1 : AV) : M AV :=
  bnd (lft (fieldAddrA T 27 (AV.ip (acells a0)) 0)) (fun v0 =>
  bnd (lft (loadA T 3 v0)) (fun v1 =>
  bnd (lft (fieldAddrA T 27 (AV.ip (acells a1)) 0)) (fun v2 =>
  bnd (lft (loadA T 3 v2)) (fun v3 =>
  bnd (lft (binA T BinOp.eql 3 v1 v3)) (fun v4 =>
  bnd (guardM v4 true 1 (bnd (lft (fieldAddrA T 27 (AV.ip (acells a0)) 1)) (fun v5 =>
  bnd (lft (loadA T 25 v5)) (fun v6 =>
  bnd (lft (fieldAddrA T 27 (AV.ip (acells a1)) 1)) (fun v7 =>
  bnd (lft (loadA T 25 v7)) (fun v8 =>
  bnd (call 70 [v6, v8]) (fun v9 =>
  M.pure [v9]))))))) (fun v10 =>
  bnd (lft (pickA v4 (nth v10 0) (AV.bool false))) (fun v11 =>
  M.pure v11)))))))
theorem E142 (call : FuncId → List AV → M AV) (fx : Fix AV) (a0 a1 : AV) : evBody (pg.cx call Tryz.f142.ntmps ann142) fx Tryz.f142 (own 142) [a0, a1] = S142 call fx a0 a1 := by kernel_rfl
theorem C142 (a0 a1 : AV) : callW pg 142 [a0, a1] = isoP (S142 (callW pg) fixW (cl noHs a0) (cl noHs a1)) := (callW_iso hOther rfl rfl rfl _).trans (congrArg isoP (E142 _ _ (cl noHs a0) (cl noHs a1)))
noncomputable def S145 (call : FuncId → List AV → M AV) (fx : Fix AV) (a0 a1 : AV) : M AV :=
  bnd (lft (fieldAddrA T 29 (AV.ip (acells a0)) 0)) (fun v0 =>
  bnd (lft (loadA T 3 v0)) (fun v1 =>
  bnd (lft (fieldAddrA T 29 (AV.ip (acells a1)) 0)) (fun v2 =>
  bnd (lft (loadA T 3 v2)) (fun v3 =>
  bnd (lft (binA T BinOp.neq 3 v1 v3)) (fun v4 =>
  condM v4 (bnd (lft (fieldAddrA T 29 (AV.ip (acells a0)) 0)) (fun v5 =>
  bnd (lft (loadA T 3 v5)) (fun v6 =>
  bnd (lft (fieldAddrA T 29 (AV.ip (acells a1)) 0)) (fun v7 =>
  bnd (lft (loadA T 3 v7)) (fun v8 =>
  bnd (call 198 [v6, v8]) (fun v9 =>
  M.pure v9)))))) (bnd (lft (fieldAddrA T 29 (AV.ip (acells a0)) 1)) (fun v10 =>
  bnd (lft (loadA T 3 v10)) (fun v11 =>
  bnd (lft (fieldAddrA T 29 (AV.ip (acells a1)) 1)) (fun v12 =>
  bnd (lft (loadA T 3 v12)) (fun v13 =>
  bnd (lft (binA T BinOp.neq 3 v11 v13)) (fun v14 =>
  condM v14 (bnd (lft (fieldAddrA T 29 (AV.ip (acells a0)) 1)) (fun v15 =>
  bnd (lft (loadA T 3 v15)) (fun v16 =>
  bnd (lft (fieldAddrA T 29 (AV.ip (acells a1)) 1)) (fun v17 =>
  bnd (lft (loadA T 3 v17)) (fun v18 =>
  bnd (call 198 [v16, v18]) (fun v19 =>
  M.pure v19)))))) (bnd (lft (fieldAddrA T 29 (AV.ip (acells a0)) 2)) (fun v20 =>
  bnd (lft (loadA T 3 v20)) (fun v21 =>
  bnd (lft (fieldAddrA T 29 (AV.ip (acells a1)) 2)) (fun v22 =>
  bnd (lft (loadA T 3 v22)) (fun v23 =>
  bnd (call 198 [v21, v23]) (fun v24 =>
  M.pure v24)))))))))))))))))
theorem E145 (call : FuncId → List AV → M AV) (fx : Fix AV) (a0 a1 : AV) : evBody (pg.cx call Tryz.f145.ntmps ann145) fx Tryz.f145 (own 145) [a0, a1] = S145 call fx a0 a1 := by kernel_rfl
theorem C145 (a0 a1 : AV) : callW pg 145 [a0, a1] = isoP (S145 (callW pg) fixW (cl noHs a0) (cl noHs a1)) := (callW_iso hOther rfl rfl rfl _).trans (congrArg isoP (E145 _ _ (cl noHs a0) (cl noHs a1)))
noncomputable def S148 (call : FuncId → List AV → M AV) (fx : Fix AV) (a0 a1 : AV) : M AV :=
  bnd (call 204 [a0, a1]) (fun v0 =>
  bnd (lft (binA T BinOp.geq 3 v0 (AV.int IntKind.i64 0))) (fun v1 =>
  M.pure v1))
theorem E148 (call : FuncId → List AV → M AV) (fx : Fix AV) (a0 a1 : AV) : evBody (pg.cx call Tryz.f148.ntmps ann148) fx Tryz.f148 (own 148) [a0, a1] = S148 call fx a0 a1 := by kernel_rfl
theorem C148 (a0 a1 : AV) : callW pg 148 [a0, a1] = isoP (S148 (callW pg) fixW (cl noHs a0) (cl noHs a1)) := (callW_iso hOther rfl rfl rfl _).trans (congrArg isoP (E148 _ _ (cl noHs a0) (cl noHs a1)))
noncomputable def S151 (call : FuncId → List AV → M AV) (fx : Fix AV) (a0 a1 : AV) : M AV :=
  bnd (call 205 [a0]) (fun v0 =>
  bnd (call 205 [a1]) (fun v1 =>
  condM v0 (condM v1 (M.pure (AV.int IntKind.i64 0)) (M.pure (AV.int IntKind.i64 (-1)))) (condM v1 (M.pure (AV.int IntKind.i64 1)) (bnd (lft (binA T BinOp.lss 3 a0 a1)) (fun v2 =>
  condM v2 (M.pure (AV.int IntKind.i64 (-1))) (bnd (lft (binA T BinOp.gtr 3 a0 a1)) (fun v3 =>
  condM v3 (M.pure (AV.int IntKind.i64 1)) (M.pure (AV.int IntKind.i64 0)))))))))
theorem E151 (call : FuncId → List AV → M AV) (fx : Fix AV) (a0 a1 : AV) : evBody (pg.cx call Tryz.f151.ntmps ann151) fx Tryz.f151 (own 151) [a0, a1] = S151 call fx a0 a1 := by kernel_rfl
theorem C151 (a0 a1 : AV) : callW pg 151 [a0, a1] = isoP (S151 (callW pg) fixW (cl noHs a0) (cl noHs a1)) := (callW_iso hOther rfl rfl rfl _).trans (congrArg isoP (E151 _ _ (cl noHs a0) (cl noHs a1)))
noncomputable def S166 (call : FuncId → List AV → M AV) (fx : Fix AV) : M AV :=
  bnd (lft (buildSliceA T 35 26 [(0, AV.str [97, 110, 100]), (1, AV.str [98, 97, 99, 107]), (2, AV.str [98, 111, 111, 108]), (3, AV.str [99, 108, 111, 99, 107]), (4, AV.str [101, 108, 115, 101]), (5, AV.str [102, 97, 108, 115, 101]), (6, AV.str [102, 105, 108, 101, 115]), (7, AV.str [102, 110]), (8, AV.str [102, 111, 114, 119, 97, 114, 100]), (9, AV.str [103, 101, 116]), (10, AV.str [105, 102]), (11, AV.str [105, 110]), (12, AV.str [105, 110, 116]), (13, AV.str [108, 101, 116]), (14, AV.str [109, 111, 100, 117, 108, 101]), (15, AV.str [109, 111, 118, 101]), (16, AV.str [110, 101, 116]), (17, AV.str [110, 111, 116]), (18, AV.str [111, 114]), (19, AV.str [112, 117, 98]), (20, AV.str [115, 101, 99, 114, 101, 116, 115]), (21, AV.str [115, 101, 116]), (22, AV.str [116, 104, 101, 110]), (23, AV.str [116, 114, 117, 101]), (24, AV.str [117, 115, 101]), (25, AV.str [118, 97, 114])])) (fun v0 =>
  M.pure v0)
theorem E166 (call : FuncId → List AV → M AV) (fx : Fix AV) : evBody (pg.cx call Tryz.f166.ntmps ann166) fx Tryz.f166 (own 166) [] = S166 call fx  := by kernel_rfl
theorem C166 : callW pg 166 [] = isoP (S166 (callW pg) fixW ) := (callW_iso hOther rfl rfl rfl _).trans (congrArg isoP (E166 _ _ ))
noncomputable def S173 (call : FuncId → List AV → M AV) (fx : Fix AV) (a0 a1 a2 : AV) : M AV :=
  bnd (lft (binA T BinOp.geq 3 a0 a1)) (fun v0 =>
  bnd (guardM v0 true 1 (bnd (lft (binA T BinOp.leq 3 a0 a2)) (fun v1 =>
  M.pure [v1]))) (fun v2 =>
  bnd (lft (pickA v0 (nth v2 0) (AV.bool false))) (fun v3 =>
  M.pure v3)))
theorem E173 (call : FuncId → List AV → M AV) (fx : Fix AV) (a0 a1 a2 : AV) : evBody (pg.cx call Tryz.f173.ntmps ann173) fx Tryz.f173 (own 173) [a0, a1, a2] = S173 call fx a0 a1 a2 := by kernel_rfl
theorem C173 (a0 a1 a2 : AV) : callW pg 173 [a0, a1, a2] = isoP (S173 (callW pg) fixW (cl noHs a0) (cl noHs a1) (cl noHs a2)) := (callW_iso hOther rfl rfl rfl _).trans (congrArg isoP (E173 _ _ (cl noHs a0) (cl noHs a1) (cl noHs a2)))
noncomputable def S205 (call : FuncId → List AV → M AV) (fx : Fix AV) (a0 : AV) : M AV :=
  bnd (lft (binA T BinOp.neq 3 a0 a0)) (fun v0 =>
  M.pure v0)
theorem E205 (call : FuncId → List AV → M AV) (fx : Fix AV) (a0 : AV) : evBody (pg.cx call Tryz.f205.ntmps ann205) fx Tryz.f205 (own 205) [a0] = S205 call fx a0 := by kernel_rfl
theorem C205 (a0 : AV) : callW pg 205 [a0] = isoP (S205 (callW pg) fixW (cl noHs a0)) := (callW_iso hOther rfl rfl rfl _).trans (congrArg isoP (E205 _ _ (cl noHs a0)))
noncomputable def S213 (call : FuncId → List AV → M AV) (fx : Fix AV) (a0 : AV) : M AV :=
  bnd (lft (binA T BinOp.geq 5 a0 (AV.int IntKind.u8 48))) (fun v0 =>
  bnd (guardM v0 true 1 (bnd (lft (binA T BinOp.leq 5 a0 (AV.int IntKind.u8 57))) (fun v1 =>
  M.pure [v1]))) (fun v2 =>
  bnd (lft (pickA v0 (nth v2 0) (AV.bool false))) (fun v3 =>
  M.pure v3)))
theorem E213 (call : FuncId → List AV → M AV) (fx : Fix AV) (a0 : AV) : evBody (pg.cx call Tryz.f213.ntmps ann213) fx Tryz.f213 (own 213) [a0] = S213 call fx a0 := by kernel_rfl
theorem C213 (a0 : AV) : callW pg 213 [a0] = isoP (S213 (callW pg) fixW (cl noHs a0)) := (callW_iso hOther rfl rfl rfl _).trans (congrArg isoP (E213 _ _ (cl noHs a0)))
end Go.Proofs.YteemeakjlfnapaaGreatDoor
