/- Shallow programs of the functions, part 0: written by a program. No condition. -/
import Derived.Test.YteemeakjlfnapaaGreatDoorAnn
namespace Go.Proofs.YteemeakjlfnapaaGreatDoor
open Go Go.Av
set_option maxRecDepth 100000
noncomputable def L5_0 (call : FuncId → List AV → M AV) (fx : Fix AV) (v12 : List AV → M AV) (v13 : List AV) : M AV :=
  bnd (lft (binA T BinOp.leq 3 (nth v13 6) (AV.int IntKind.i64 3))) (fun v14 =>
  condM v14 (bnd (lft (loadA T 29 (nth v13 0))) (fun v15 =>
  bnd (lft (loadA T 29 (nth v13 1))) (fun v16 =>
  bnd (call 25 [v15, v16, nth v13 6]) (fun v17 =>
  bnd (guardM v17 true 1 (bnd (lft (binA T BinOp.eql 3 (nth v13 5) (AV.int IntKind.i64 0))) (fun v18 =>
  M.pure [v18]))) (fun v19 =>
  bnd (guardM (nth v19 0) false 1 (bnd (lft (binA T BinOp.lss 3 (nth v13 6) (AV.int IntKind.i64 0))) (fun v20 =>
  M.pure [v20]))) (fun v21 =>
  bnd (guardM v17 true 1 (bnd (lft (pickA (nth v19 0) (AV.bool true) (nth v21 0))) (fun v22 =>
  M.pure [v22]))) (fun v23 =>
  bnd (guardM (nth v23 0) false 1 (bnd (lft (binA T BinOp.gtr 3 (nth v13 6) (AV.int IntKind.i64 2))) (fun v24 =>
  M.pure [v24]))) (fun v25 =>
  bnd (guardM v17 true 1 (bnd (lft (pickA (nth v23 0) (AV.bool true) (nth v25 0))) (fun v26 =>
  M.pure [v26]))) (fun v27 =>
  bnd (lft (pickA v17 (nth v27 0) (AV.bool false))) (fun v28 =>
  bnd (guardM v28 false 1 (bnd (lft (binA T BinOp.gtr 3 (nth v13 6) (AV.int IntKind.i64 0))) (fun v29 =>
  M.pure [v29]))) (fun v30 =>
  bnd (guardM (nth v30 0) true 1 (M.pure [v17])) (fun v31 =>
  bnd (guardM v28 false 1 (bnd (lft (pickA (nth v30 0) (nth v31 0) (AV.bool false))) (fun v32 =>
  M.pure [v32]))) (fun v33 =>
  bnd (guardM (nth v33 0) true 1 (bnd (lft (loadA T 29 (nth v13 0))) (fun v34 =>
  bnd (lft (loadA T 29 (nth v13 1))) (fun v35 =>
  bnd (lft (binA T BinOp.sub 3 (nth v13 6) (AV.int IntKind.i64 1))) (fun v36 =>
  bnd (call 25 [v34, v35, v36]) (fun v37 =>
  bnd (lft (unA UnOp.not v37)) (fun v38 =>
  M.pure [v38]))))))) (fun v39 =>
  bnd (guardM v28 false 1 (bnd (lft (pickA (nth v33 0) (nth v39 0) (AV.bool false))) (fun v40 =>
  M.pure [v40]))) (fun v41 =>
  bnd (lft (pickA v28 (AV.bool true) (nth v41 0))) (fun v42 =>
  condM v42 (M.pure (AV.bool false)) (bnd (lft (binA T BinOp.add 3 (nth v13 6) (AV.int IntKind.i64 1))) (fun v43 =>
  v12 [nth v13 0, nth v13 1, nth v13 2, nth v13 3, nth v13 4, nth v13 5, v43])))))))))))))))))) (bnd (lft (loadA T 24 (nth v13 2))) (fun v44 =>
  bnd (lft (loadA T 24 (nth v13 3))) (fun v45 =>
  bnd (call 17 [v44, v45]) (fun v46 =>
  bnd (lft (extractA v46 0)) (fun v47 =>
  bnd (lft (extractA v46 1)) (fun v48 =>
  bnd (guardM (nth v13 4) true 1 (bnd (lft (loadA T 29 (nth v13 0))) (fun v49 =>
  bnd (lft (loadA T 29 (nth v13 1))) (fun v50 =>
  bnd (call 25 [v49, v50, v47]) (fun v51 =>
  bnd (lft (binA T BinOp.gtr 3 (nth v13 5) v47)) (fun v52 =>
  bnd (lft (binA T BinOp.eql 4 v51 v52)) (fun v53 =>
  M.pure [v53]))))))) (fun v54 =>
  bnd (lft (pickA (nth v13 4) (nth v54 0) (AV.bool false))) (fun v55 =>
  M.pure v55)))))))))
theorem XL5_0 {call : FuncId → List AV → M AV} : Cont1 (L5_0 call fixW ) fun _n => L5_0 call fixW  := by
  intro v12 v12s hself v13
  unfold L5_0
  exact (LimM.bnd (LimM.const _) fun _ => (condM_lim (LimM.bnd (LimM.const _) fun _ => (LimM.bnd (LimM.const _) fun _ => (LimM.bnd (LimM.const _) fun _ => (LimM.bnd (LimM.const _) fun _ => (LimM.bnd (LimM.const _) fun _ => (LimM.bnd (LimM.const _) fun _ => (LimM.bnd (LimM.const _) fun _ => (LimM.bnd (LimM.const _) fun _ => (LimM.bnd (LimM.const _) fun _ => (LimM.bnd (LimM.const _) fun _ => (LimM.bnd (LimM.const _) fun _ => (LimM.bnd (LimM.const _) fun _ => (LimM.bnd (LimM.const _) fun _ => (LimM.bnd (LimM.const _) fun _ => (LimM.bnd (LimM.const _) fun _ => (condM_lim (LimM.const _) (LimM.bnd (LimM.const _) fun _ => (hself _)))))))))))))))))) (LimM.const _)))
theorem FL5_0 (call : FuncId → List AV → M AV) (vs : List AV) : fixW (L5_0 call fixW ) vs = L5_0 call fixW  (fixW (L5_0 call fixW )) vs := fixW_eq (XL5_0 ) vs
noncomputable def S5 (call : FuncId → List AV → M AV) (fx : Fix AV) (a0 a1 a2 a3 : AV) : M AV :=
  bnd (call 14 []) (fun v0 =>
  bnd (lft (loadA T 24 (AV.ip (acells a2)))) (fun v1 =>
  bnd (call 15 [v1]) (fun v2 =>
  bnd (lft (unA UnOp.not v2)) (fun v3 =>
  bnd (guardM v3 false 1 (bnd (lft (loadA T 24 (AV.ip (acells a3)))) (fun v4 =>
  bnd (call 15 [v4]) (fun v5 =>
  bnd (lft (unA UnOp.not v5)) (fun v6 =>
  M.pure [v6]))))) (fun v7 =>
  bnd (lft (pickA v3 (AV.bool true) (nth v7 0))) (fun v8 =>
  condM v8 (M.pure v0) (bnd (lft (loadA T 29 (AV.ip (acells a0)))) (fun v9 =>
  bnd (lft (loadA T 29 (AV.ip (acells a1)))) (fun v10 =>
  bnd (call 28 [v9, v10]) (fun v11 =>
  fx (L5_0 call fx) [AV.ip (acells a0), AV.ip (acells a1), AV.ip (acells a2), AV.ip (acells a3), v0, v11, AV.int IntKind.i64 (-1)]))))))))))
theorem E5 (call : FuncId → List AV → M AV) (fx : Fix AV) (a0 a1 a2 a3 : AV) : evBody (pg.cx call Tryz.f5.ntmps ann5) fx Tryz.f5 (own 5) [a0, a1, a2, a3] = S5 call fx a0 a1 a2 a3 := by kernel_rfl
theorem C5 (a0 a1 a2 a3 : AV) : callW pg 5 [a0, a1, a2, a3] = isoP (S5 (callW pg) fixW (cl noHs a0) (cl noHs a1) (cl noHs a2) (cl noHs a3)) := (callW_iso hOther rfl rfl rfl _).trans (congrArg isoP (E5 _ _ (cl noHs a0) (cl noHs a1) (cl noHs a2) (cl noHs a3)))
noncomputable def L19_0 (call : FuncId → List AV → M AV) (fx : Fix AV) (v25 : List AV → M AV) (v26 : List AV) : M AV :=
  bnd (lft (binA T BinOp.lss 3 (nth v26 5) (nth v26 4))) (fun v27 =>
  condM v27 (bnd (lft (indexAddrA T 54 (nth v26 3) (nth v26 5))) (fun v28 =>
  bnd (lft (loadA T 27 v28)) (fun v29 =>
  bnd (cellsM 2 v29) (fun v30 =>
  bnd (lft (loadA T 27 (AV.ip (acells v30)))) (fun v31 =>
  bnd (noPan (call 68 [v31])) (fun v32 =>
  bnd (lft (buildSliceA T 36 1 [(0, v32)])) (fun v33 =>
  bnd (lft (appA T 36 (nth v26 20) v33)) (fun v34 =>
  bnd (cell1M v34) (fun v35 =>
  bnd (lft (binA T BinOp.add 3 (nth v26 5) (AV.int IntKind.i64 1))) (fun v36 =>
  v25 [nth v26 0, nth v26 1, nth v26 2, nth v26 3, nth v26 4, v36, nth v26 6, nth v26 7, nth v26 8, nth v26 9, nth v26 10, nth v26 11, nth v26 12, nth v26 13, nth v26 14, nth v26 15, nth v26 16, nth v26 17, nth v26 18, nth v26 19, v34])))))))))) (bnd (lft (fieldAddrA T 56 (nth v26 1) 2)) (fun v37 =>
  bnd (lft (loadA T 27 v37)) (fun v38 =>
  bnd (lft (fieldAddrA T 56 (nth v26 1) 3)) (fun v39 =>
  bnd (lft (loadA T 3 v39)) (fun v40 =>
  bnd (lft (buildA T false 73 [(0, AV.str [109, 97, 105, 110]), (3, v38), (4, v40), (5, AV.agg [nth v26 15, nth v26 16, nth v26 17, nth v26 18, nth v26 19, nth v26 20])])) (fun v41 =>
  bnd (cellsM 12 v41) (fun v42 =>
  bnd (lft (fieldAddrA T 24 (nth v26 0) 0)) (fun v43 =>
  bnd (lft (loadA T 9 v43)) (fun v44 =>
  bnd (lft (buildSliceA T 35 1 [(0, v44)])) (fun v45 =>
  bnd (lft (loadA T 73 (AV.ip (acells v42)))) (fun v46 =>
  bnd (lft (buildSliceA T 37 1 [(0, v46)])) (fun v47 =>
  bnd (lft (buildA T false 41 [(0, nth v26 2), (1, v45), (4, v47)])) (fun v48 =>
  bnd (cellsNil 9 [] v48) (fun v49 =>
  M.pure (AV.tup [AV.agg [nth (acells v49) 0, nth (acells v49) 1, nth (acells v49) 2, nth (acells v49) 3, nth (acells v49) 4, nth (acells v49) 5, nth (acells v49) 6, nth (acells v49) 7, nth (acells v49) 8], AV.bool true]))))))))))))))))
noncomputable def K19_0 (call : FuncId → List AV → M AV) (fx : Fix AV) (v15 : List AV) : M AV :=
  bnd (lft (fieldAddrA T 56 (nth v15 1) 0)) (fun v16 =>
  bnd (lft (loadA T 9 v16)) (fun v17 =>
  bnd (lft (fieldAddrA T 24 (nth v15 0) 0)) (fun v18 =>
  bnd (lft (loadA T 9 v18)) (fun v19 =>
  bnd (lft (buildA T true 47 [(0, AV.int IntKind.i64 15), (2, v17), (3, v19)])) (fun v20 =>
  bnd (cellsNil 6 [5] v20) (fun v21 =>
  bnd (lft (fieldAddrA T 56 (nth v15 1) 1)) (fun v22 =>
  bnd (lft (loadA T 54 v22)) (fun v23 =>
  bnd (lft (lenA T 54 v23)) (fun v24 =>
  fx (L19_0 call fx) [nth v15 0, nth v15 1, nth v15 2, v23, v24, AV.int IntKind.i64 0, nth v15 3, nth v15 4, nth v15 5, nth v15 6, nth v15 7, nth v15 8, nth v15 9, nth v15 10, nth v15 11, nth (acells v21) 0, nth (acells v21) 1, nth (acells v21) 2, nth (acells v21) 3, nth (acells v21) 4, AV.sl []])))))))))
theorem XL19_0 {call : FuncId → List AV → M AV} : Cont1 (L19_0 call fixW ) fun _n => L19_0 call fixW  := by
  intro v25 v25s hself v26
  unfold L19_0
  exact (LimM.bnd (LimM.const _) fun _ => (condM_lim (LimM.bnd (LimM.const _) fun _ => (LimM.bnd (LimM.const _) fun _ => (LimM.bnd (LimM.const _) fun _ => (LimM.bnd (LimM.const _) fun _ => (LimM.bnd (LimM.const _) fun _ => (LimM.bnd (LimM.const _) fun _ => (LimM.bnd (LimM.const _) fun _ => (LimM.bnd (LimM.const _) fun _ => (LimM.bnd (LimM.const _) fun _ => (hself _)))))))))) (LimM.const _)))
theorem FL19_0 (call : FuncId → List AV → M AV) (vs : List AV) : fixW (L19_0 call fixW ) vs = L19_0 call fixW  (fixW (L19_0 call fixW )) vs := fixW_eq (XL19_0 ) vs
noncomputable def S19 (call : FuncId → List AV → M AV) (fx : Fix AV) (a0 a1 : AV) : M AV :=
  bnd (lft (loadA T 24 (AV.ip (acells a0)))) (fun v0 =>
  bnd (lft (loadA T 24 (AV.ip (acells a1)))) (fun v1 =>
  bnd (call 64 [v0, v1]) (fun v2 =>
  bnd (lft (unA UnOp.not v2)) (fun v3 =>
  condM v3 (bnd (lft (buildA T false 41 [])) (fun v4 =>
  bnd (cellsNil 9 [] v4) (fun v5 =>
  M.pure (AV.tup [AV.agg [nth (acells v5) 0, nth (acells v5) 1, nth (acells v5) 2, nth (acells v5) 3, nth (acells v5) 4, nth (acells v5) 5, nth (acells v5) 6, nth (acells v5) 7, nth (acells v5) 8], AV.bool false])))) (bnd (lft (loadA T 24 (AV.ip (acells a0)))) (fun v6 =>
  bnd (lft (loadA T 24 (AV.ip (acells a1)))) (fun v7 =>
  bnd (call 65 [v6, v7]) (fun v8 =>
  bnd (lft (extractA v8 0)) (fun v9 =>
  bnd (lft (extractA v8 1)) (fun v10 =>
  bnd (cellsM 5 v9) (fun v11 =>
  bnd (lft (unA UnOp.not v10)) (fun v12 =>
  condM v12 (bnd (lft (buildA T false 41 [])) (fun v13 =>
  bnd (cellsNil 9 [] v13) (fun v14 =>
  M.pure (AV.tup [AV.agg [nth (acells v14) 0, nth (acells v14) 1, nth (acells v14) 2, nth (acells v14) 3, nth (acells v14) 4, nth (acells v14) 5, nth (acells v14) 6, nth (acells v14) 7, nth (acells v14) 8], AV.bool false])))) (jn (K19_0 call fx) (fun v50 =>
  bnd (lft (fieldAddrA T 24 (AV.ip (acells a0)) 0)) (fun v51 =>
  bnd (lft (loadA T 9 v51)) (fun v52 =>
  bnd (lft (binA T BinOp.eql 9 v52 (AV.str [99, 108, 105, 101, 110, 116]))) (fun v53 =>
  condM v53 (v50 [AV.ip (acells a0), AV.ip (acells v11), AV.str [109, 97, 105, 110], AV.str [], AV.sl [], AV.sl [], AV.sl [], AV.sl [], AV.bool false, AV.sl [], AV.sl [], AV.sl []]) (v50 [AV.ip (acells a0), AV.ip (acells v11), AV.str [99, 108, 105, 101, 110, 116], AV.str [], AV.sl [], AV.sl [], AV.sl [], AV.sl [], AV.bool false, AV.sl [], AV.sl [], AV.sl []]))))))))))))))))))
theorem E19 (call : FuncId → List AV → M AV) (fx : Fix AV) (a0 a1 : AV) : evBody (pg.cx call Tryz.f19.ntmps ann19) fx Tryz.f19 (own 19) [a0, a1] = S19 call fx a0 a1 := by kernel_rfl
theorem C19 (a0 a1 : AV) : callW pg 19 [a0, a1] = isoP (S19 (callW pg) fixW (cl noHs a0) (cl noHs a1)) := (callW_iso hOther rfl rfl rfl _).trans (congrArg isoP (E19 _ _ (cl noHs a0) (cl noHs a1)))
noncomputable def S22 (call : FuncId → List AV → M AV) (fx : Fix AV) (a0 a1 : AV) : M AV :=
  bnd (lft (fieldAddrA T 47 (AV.ip (acells a0)) 0)) (fun v0 =>
  bnd (lft (loadA T 3 v0)) (fun v1 =>
  bnd (lft (fieldAddrA T 47 (AV.ip (acells a1)) 0)) (fun v2 =>
  bnd (lft (loadA T 3 v2)) (fun v3 =>
  bnd (lft (binA T BinOp.eql 3 v1 v3)) (fun v4 =>
  bnd (guardM v4 true 1 (bnd (lft (fieldAddrA T 47 (AV.ip (acells a0)) 1)) (fun v5 =>
  bnd (lft (loadA T 3 v5)) (fun v6 =>
  bnd (lft (fieldAddrA T 47 (AV.ip (acells a1)) 1)) (fun v7 =>
  bnd (lft (loadA T 3 v7)) (fun v8 =>
  bnd (lft (binA T BinOp.eql 3 v6 v8)) (fun v9 =>
  M.pure [v9]))))))) (fun v10 =>
  bnd (lft (pickA v4 (nth v10 0) (AV.bool false))) (fun v11 =>
  bnd (guardM v11 true 1 (bnd (lft (fieldAddrA T 47 (AV.ip (acells a0)) 2)) (fun v12 =>
  bnd (lft (loadA T 9 v12)) (fun v13 =>
  bnd (lft (fieldAddrA T 47 (AV.ip (acells a1)) 2)) (fun v14 =>
  bnd (lft (loadA T 9 v14)) (fun v15 =>
  bnd (lft (binA T BinOp.eql 9 v13 v15)) (fun v16 =>
  M.pure [v16]))))))) (fun v17 =>
  bnd (lft (pickA v11 (nth v17 0) (AV.bool false))) (fun v18 =>
  bnd (guardM v18 true 1 (bnd (lft (fieldAddrA T 47 (AV.ip (acells a0)) 3)) (fun v19 =>
  bnd (lft (loadA T 9 v19)) (fun v20 =>
  bnd (lft (fieldAddrA T 47 (AV.ip (acells a1)) 3)) (fun v21 =>
  bnd (lft (loadA T 9 v21)) (fun v22 =>
  bnd (lft (binA T BinOp.eql 9 v20 v22)) (fun v23 =>
  M.pure [v23]))))))) (fun v24 =>
  bnd (lft (pickA v18 (nth v24 0) (AV.bool false))) (fun v25 =>
  bnd (guardM v25 true 1 (bnd (lft (fieldAddrA T 47 (AV.ip (acells a0)) 4)) (fun v26 =>
  bnd (lft (loadA T 35 v26)) (fun v27 =>
  bnd (lft (fieldAddrA T 47 (AV.ip (acells a1)) 4)) (fun v28 =>
  bnd (lft (loadA T 35 v28)) (fun v29 =>
  bnd (call 72 [v27, v29]) (fun v30 =>
  M.pure [v30]))))))) (fun v31 =>
  bnd (lft (pickA v25 (nth v31 0) (AV.bool false))) (fun v32 =>
  bnd (guardM v32 true 1 (bnd (lft (fieldAddrA T 47 (AV.ip (acells a0)) 5)) (fun v33 =>
  bnd (lft (loadA T 36 v33)) (fun v34 =>
  bnd (lft (fieldAddrA T 47 (AV.ip (acells a1)) 5)) (fun v35 =>
  bnd (lft (loadA T 36 v35)) (fun v36 =>
  bnd (call 71 [v34, v36]) (fun v37 =>
  M.pure [v37]))))))) (fun v38 =>
  bnd (lft (pickA v32 (nth v38 0) (AV.bool false))) (fun v39 =>
  M.pure v39)))))))))))))))
theorem E22 (call : FuncId → List AV → M AV) (fx : Fix AV) (a0 a1 : AV) : evBody (pg.cx call Tryz.f22.ntmps ann22) fx Tryz.f22 (own 22) [a0, a1] = S22 call fx a0 a1 := by kernel_rfl
theorem C22 (a0 a1 : AV) : callW pg 22 [a0, a1] = isoP (S22 (callW pg) fixW (cl noHs a0) (cl noHs a1)) := (callW_iso hOther rfl rfl rfl _).trans (congrArg isoP (E22 _ _ (cl noHs a0) (cl noHs a1)))
noncomputable def S25 (call : FuncId → List AV → M AV) (fx : Fix AV) (a0 a1 a2 : AV) : M AV :=
  bnd (lft (binA T BinOp.geq 3 a2 (AV.int IntKind.i64 0))) (fun v0 =>
  bnd (guardM v0 true 1 (bnd (lft (binA T BinOp.leq 3 a2 (AV.int IntKind.i64 2))) (fun v1 =>
  M.pure [v1]))) (fun v2 =>
  bnd (lft (pickA v0 (nth v2 0) (AV.bool false))) (fun v3 =>
  bnd (guardM v3 true 1 (bnd (lft (loadA T 29 (AV.ip (acells a0)))) (fun v4 =>
  bnd (lft (loadA T 29 (AV.ip (acells a1)))) (fun v5 =>
  bnd (call 28 [v4, v5]) (fun v6 =>
  bnd (lft (binA T BinOp.gtr 3 v6 a2)) (fun v7 =>
  M.pure [v7])))))) (fun v8 =>
  bnd (lft (pickA v3 (nth v8 0) (AV.bool false))) (fun v9 =>
  M.pure v9)))))
theorem E25 (call : FuncId → List AV → M AV) (fx : Fix AV) (a0 a1 a2 : AV) : evBody (pg.cx call Tryz.f25.ntmps ann25) fx Tryz.f25 (own 25) [a0, a1, a2] = S25 call fx a0 a1 a2 := by kernel_rfl
theorem C25 (a0 a1 a2 : AV) : callW pg 25 [a0, a1, a2] = isoP (S25 (callW pg) fixW (cl noHs a0) (cl noHs a1) (cl noHs a2)) := (callW_iso hOther rfl rfl rfl _).trans (congrArg isoP (E25 _ _ (cl noHs a0) (cl noHs a1) (cl noHs a2)))
noncomputable def L41_0 (call : FuncId → List AV → M AV) (fx : Fix AV) (v10 : List AV → M AV) (v62 : List AV → M AV) (v63 : List AV) : M AV :=
  bnd (lft (fieldAddrA T 56 (nth v63 2) 1)) (fun v64 =>
  bnd (lft (loadA T 54 v64)) (fun v65 =>
  bnd (lft (lenA T 54 v65)) (fun v66 =>
  bnd (lft (binA T BinOp.lss 3 (nth v63 3) v66)) (fun v67 =>
  condM v67 (bnd (lft (fieldAddrA T 56 (nth v63 2) 1)) (fun v68 =>
  bnd (lft (loadA T 54 v68)) (fun v69 =>
  bnd (lft (indexAddrA T 54 v69 (nth v63 3))) (fun v70 =>
  bnd (lft (loadA T 27 v70)) (fun v71 =>
  bnd (call 74 [v71]) (fun v72 =>
  bnd (lft (unA UnOp.not v72)) (fun v73 =>
  condM v73 (M.pure (AV.bool false)) (bnd (lft (binA T BinOp.add 3 (nth v63 3) (AV.int IntKind.i64 1))) (fun v74 =>
  v62 [nth v63 0, nth v63 1, nth v63 2, v74]))))))))) (bnd (lft (binA T BinOp.add 3 (nth v63 1) (AV.int IntKind.i64 1))) (fun v75 =>
  v10 [nth v63 0, v75]))))))
noncomputable def L41_1 (call : FuncId → List AV → M AV) (fx : Fix AV) (v10 : List AV → M AV) (v11 : List AV) : M AV :=
  bnd (lft (fieldAddrA T 24 (nth v11 0) 1)) (fun v12 =>
  bnd (lft (loadA T 22 v12)) (fun v13 =>
  bnd (lft (lenA T 22 v13)) (fun v14 =>
  bnd (lft (binA T BinOp.lss 3 (nth v11 1) v14)) (fun v15 =>
  condM v15 (bnd (lft (fieldAddrA T 24 (nth v11 0) 1)) (fun v16 =>
  bnd (lft (loadA T 22 v16)) (fun v17 =>
  bnd (lft (indexAddrA T 22 v17 (nth v11 1))) (fun v18 =>
  bnd (lft (loadA T 56 v18)) (fun v19 =>
  bnd (cellsM 5 v19) (fun v20 =>
  bnd (lft (fieldAddrA T 56 (AV.ip (acells v20)) 0)) (fun v21 =>
  bnd (lft (loadA T 9 v21)) (fun v22 =>
  bnd (noPan (call 106 [v22])) (fun v23 =>
  bnd (lft (unA UnOp.not v23)) (fun v24 =>
  bnd (guardM v24 false 1 (bnd (lft (binA T BinOp.gtr 3 (nth v11 1) (AV.int IntKind.i64 0))) (fun v25 =>
  M.pure [v25]))) (fun v26 =>
  bnd (guardM (nth v26 0) true 1 (bnd (lft (fieldAddrA T 24 (nth v11 0) 1)) (fun v27 =>
  bnd (lft (loadA T 22 v27)) (fun v28 =>
  bnd (lft (binA T BinOp.sub 3 (nth v11 1) (AV.int IntKind.i64 1))) (fun v29 =>
  bnd (lft (indexAddrA T 22 v28 v29)) (fun v30 =>
  bnd (lft (fieldAddrA T 56 v30 0)) (fun v31 =>
  bnd (lft (loadA T 9 v31)) (fun v32 =>
  bnd (lft (fieldAddrA T 56 (AV.ip (acells v20)) 0)) (fun v33 =>
  bnd (lft (loadA T 9 v33)) (fun v34 =>
  bnd (lft (binA T BinOp.geq 9 v32 v34)) (fun v35 =>
  M.pure [v35]))))))))))) (fun v36 =>
  bnd (guardM v24 false 1 (bnd (lft (pickA (nth v26 0) (nth v36 0) (AV.bool false))) (fun v37 =>
  M.pure [v37]))) (fun v38 =>
  bnd (lft (pickA v24 (AV.bool true) (nth v38 0))) (fun v39 =>
  bnd (guardM v39 false 1 (bnd (lft (fieldAddrA T 56 (AV.ip (acells v20)) 1)) (fun v40 =>
  bnd (lft (loadA T 54 v40)) (fun v41 =>
  bnd (lft (lenA T 54 v41)) (fun v42 =>
  bnd (lft (binA T BinOp.gtr 3 v42 (AV.int IntKind.i64 6))) (fun v43 =>
  M.pure [v43])))))) (fun v44 =>
  bnd (lft (pickA v39 (AV.bool true) (nth v44 0))) (fun v45 =>
  bnd (guardM v45 false 1 (bnd (lft (fieldAddrA T 56 (AV.ip (acells v20)) 3)) (fun v46 =>
  bnd (lft (loadA T 3 v46)) (fun v47 =>
  bnd (lft (binA T BinOp.lss 3 v47 (AV.int IntKind.i64 0))) (fun v48 =>
  M.pure [v48]))))) (fun v49 =>
  bnd (lft (pickA v45 (AV.bool true) (nth v49 0))) (fun v50 =>
  bnd (guardM v50 false 1 (bnd (lft (fieldAddrA T 56 (AV.ip (acells v20)) 3)) (fun v51 =>
  bnd (lft (loadA T 3 v51)) (fun v52 =>
  bnd (lft (binA T BinOp.gtr 3 v52 (AV.int IntKind.i64 15))) (fun v53 =>
  M.pure [v53]))))) (fun v54 =>
  bnd (lft (pickA v50 (AV.bool true) (nth v54 0))) (fun v55 =>
  bnd (guardM v55 false 1 (bnd (lft (fieldAddrA T 56 (AV.ip (acells v20)) 2)) (fun v56 =>
  bnd (lft (loadA T 27 v56)) (fun v57 =>
  bnd (noPan (call 74 [v57])) (fun v58 =>
  bnd (lft (unA UnOp.not v58)) (fun v59 =>
  M.pure [v59])))))) (fun v60 =>
  bnd (lft (pickA v55 (AV.bool true) (nth v60 0))) (fun v61 =>
  condM v61 (M.pure (AV.bool false)) (fx (L41_0 call fx v10) [nth v11 0, nth v11 1, AV.ip (acells v20), AV.int IntKind.i64 0]))))))))))))))))))))))) (M.pure (AV.bool true))))))
theorem XL41_0 {call : FuncId → List AV → M AV} {v10 : List AV → M AV} {v10s : Nat → List AV → M AV} (hv10 : LimF v10 fun n => v10s n) : Cont1 (L41_0 call fixW v10) fun n => L41_0 call fixW (v10s n) := by
  intro v62 v62s hself v63
  unfold L41_0
  exact (LimM.bnd (LimM.const _) fun _ => (LimM.bnd (LimM.const _) fun _ => (LimM.bnd (LimM.const _) fun _ => (LimM.bnd (LimM.const _) fun _ => (condM_lim (LimM.bnd (LimM.const _) fun _ => (LimM.bnd (LimM.const _) fun _ => (LimM.bnd (LimM.const _) fun _ => (LimM.bnd (LimM.const _) fun _ => (LimM.bnd (LimM.const _) fun _ => (LimM.bnd (LimM.const _) fun _ => (condM_lim (LimM.const _) (LimM.bnd (LimM.const _) fun _ => (hself _))))))))) (LimM.bnd (LimM.const _) fun _ => (hv10 _)))))))
theorem YL41_0 {call : FuncId → List AV → M AV} {v10 : List AV → M AV} {v10s : Nat → List AV → M AV} (hv10 : LimF v10 fun n => v10s n) : LimF (fixW (L41_0 call fixW v10)) fun n => fixW (L41_0 call fixW (v10s n)) := fixW_limF (XL41_0 hv10) (XL41_0 (LimF.const _)) fun _ => XL41_0 (LimF.const _)
theorem FL41_0 (call : FuncId → List AV → M AV) (v10 : List AV → M AV) (vs : List AV) : fixW (L41_0 call fixW v10) vs = L41_0 call fixW v10 (fixW (L41_0 call fixW v10)) vs := fixW_eq (XL41_0 (LimF.const _)) vs
theorem XL41_1 {call : FuncId → List AV → M AV} : Cont1 (L41_1 call fixW ) fun _n => L41_1 call fixW  := by
  intro v10 v10s hself v11
  unfold L41_1
  exact (LimM.bnd (LimM.const _) fun _ => (LimM.bnd (LimM.const _) fun _ => (LimM.bnd (LimM.const _) fun _ => (LimM.bnd (LimM.const _) fun _ => (condM_lim (LimM.bnd (LimM.const _) fun _ => (LimM.bnd (LimM.const _) fun _ => (LimM.bnd (LimM.const _) fun _ => (LimM.bnd (LimM.const _) fun _ => (LimM.bnd (LimM.const _) fun _ => (LimM.bnd (LimM.const _) fun _ => (LimM.bnd (LimM.const _) fun _ => (LimM.bnd (LimM.const _) fun _ => (LimM.bnd (LimM.const _) fun _ => (LimM.bnd (LimM.const _) fun _ => (LimM.bnd (LimM.const _) fun _ => (LimM.bnd (LimM.const _) fun _ => (LimM.bnd (LimM.const _) fun _ => (LimM.bnd (LimM.const _) fun _ => (LimM.bnd (LimM.const _) fun _ => (LimM.bnd (LimM.const _) fun _ => (LimM.bnd (LimM.const _) fun _ => (LimM.bnd (LimM.const _) fun _ => (LimM.bnd (LimM.const _) fun _ => (LimM.bnd (LimM.const _) fun _ => (LimM.bnd (LimM.const _) fun _ => (condM_lim (LimM.const _) ((YL41_0 hself) _))))))))))))))))))))))) (LimM.const _))))))
theorem FL41_1 (call : FuncId → List AV → M AV) (vs : List AV) : fixW (L41_1 call fixW ) vs = L41_1 call fixW  (fixW (L41_1 call fixW )) vs := fixW_eq (XL41_1 ) vs
noncomputable def S41 (call : FuncId → List AV → M AV) (fx : Fix AV) (a0 : AV) : M AV :=
  bnd (lft (fieldAddrA T 24 (AV.ip (acells a0)) 0)) (fun v0 =>
  bnd (lft (loadA T 9 v0)) (fun v1 =>
  bnd (call 106 [v1]) (fun v2 =>
  bnd (lft (unA UnOp.not v2)) (fun v3 =>
  bnd (guardM v3 false 1 (bnd (lft (fieldAddrA T 24 (AV.ip (acells a0)) 1)) (fun v4 =>
  bnd (lft (loadA T 22 v4)) (fun v5 =>
  bnd (lft (lenA T 22 v5)) (fun v6 =>
  bnd (lft (binA T BinOp.gtr 3 v6 (AV.int IntKind.i64 30))) (fun v7 =>
  M.pure [v7])))))) (fun v8 =>
  bnd (lft (pickA v3 (AV.bool true) (nth v8 0))) (fun v9 =>
  condM v9 (M.pure (AV.bool false)) (fx (L41_1 call fx) [AV.ip (acells a0), AV.int IntKind.i64 0])))))))
theorem E41 (call : FuncId → List AV → M AV) (fx : Fix AV) (a0 : AV) : evBody (pg.cx call Tryz.f41.ntmps ann41) fx Tryz.f41 (own 41) [a0] = S41 call fx a0 := by kernel_rfl
theorem C41 (a0 : AV) : callW pg 41 [a0] = isoP (S41 (callW pg) fixW (cl noHs a0)) := (callW_iso hOther rfl rfl rfl _).trans (congrArg isoP (E41 _ _ (cl noHs a0)))
noncomputable def S44 (call : FuncId → List AV → M AV) (fx : Fix AV) (a0 a1 : AV) : M AV :=
  bnd (lft (fieldAddrA T 56 (AV.ip (acells a1)) 1)) (fun v0 =>
  bnd (lft (loadA T 54 v0)) (fun v1 =>
  bnd (lft (fieldAddrA T 56 (AV.ip (acells a0)) 1)) (fun v2 =>
  bnd (lft (loadA T 54 v2)) (fun v3 =>
  bnd (call 111 [v1, v3, AV.fn (Fn.func 56) [] []]) (fun v4 =>
  bnd (guardM v4 true 1 (bnd (lft (fieldAddrA T 56 (AV.ip (acells a0)) 2)) (fun v5 =>
  bnd (lft (loadA T 27 v5)) (fun v6 =>
  bnd (lft (fieldAddrA T 56 (AV.ip (acells a1)) 2)) (fun v7 =>
  bnd (lft (loadA T 27 v7)) (fun v8 =>
  bnd (call 56 [v6, v8]) (fun v9 =>
  M.pure [v9]))))))) (fun v10 =>
  bnd (lft (pickA v4 (nth v10 0) (AV.bool false))) (fun v11 =>
  bnd (guardM v11 true 1 (bnd (lft (fieldAddrA T 56 (AV.ip (acells a0)) 3)) (fun v12 =>
  bnd (lft (loadA T 3 v12)) (fun v13 =>
  bnd (lft (fieldAddrA T 56 (AV.ip (acells a1)) 3)) (fun v14 =>
  bnd (lft (loadA T 3 v14)) (fun v15 =>
  bnd (lft (binA T BinOp.andNot 3 v13 v15)) (fun v16 =>
  bnd (lft (binA T BinOp.eql 3 v16 (AV.int IntKind.i64 0))) (fun v17 =>
  M.pure [v17])))))))) (fun v18 =>
  bnd (lft (pickA v11 (nth v18 0) (AV.bool false))) (fun v19 =>
  M.pure v19)))))))))
theorem E44 (call : FuncId → List AV → M AV) (fx : Fix AV) (a0 a1 : AV) : evBody (pg.cx call Tryz.f44.ntmps ann44) fx Tryz.f44 (own 44) [a0, a1] = S44 call fx a0 a1 := by kernel_rfl
theorem C44 (a0 a1 : AV) : callW pg 44 [a0, a1] = isoP (S44 (callW pg) fixW (cl noHs a0) (cl noHs a1)) := (callW_iso hOther rfl rfl rfl _).trans (congrArg isoP (E44 _ _ (cl noHs a0) (cl noHs a1)))
noncomputable def L62_0 (call : FuncId → List AV → M AV) (fx : Fix AV) (v0 : List AV → M AV) (v1 : List AV) : M AV :=
  bnd (lft (fieldAddrA T 27 (nth v1 1) 1)) (fun v2 =>
  bnd (lft (loadA T 25 v2)) (fun v3 =>
  bnd (lft (lenA T 25 v3)) (fun v4 =>
  bnd (lft (binA T BinOp.lss 3 (nth v1 3) v4)) (fun v5 =>
  bnd (guardM v5 true 1 (bnd (lft (binA T BinOp.leq 3 (nth v1 2) (nth v1 0))) (fun v6 =>
  M.pure [v6]))) (fun v7 =>
  bnd (lft (pickA v5 (nth v7 0) (AV.bool false))) (fun v8 =>
  condM v8 (bnd (lft (fieldAddrA T 27 (nth v1 1) 1)) (fun v9 =>
  bnd (lft (loadA T 25 v9)) (fun v10 =>
  bnd (lft (indexAddrA T 25 v10 (nth v1 3))) (fun v11 =>
  bnd (lft (fieldAddrA T 76 v11 1)) (fun v12 =>
  bnd (lft (loadA T 27 v12)) (fun v13 =>
  bnd (lft (binA T BinOp.sub 3 (nth v1 0) (nth v1 2))) (fun v14 =>
  bnd (call 62 [v13, v14]) (fun v15 =>
  bnd (lft (binA T BinOp.add 3 (nth v1 2) v15)) (fun v16 =>
  bnd (lft (binA T BinOp.add 3 (nth v1 3) (AV.int IntKind.i64 1))) (fun v17 =>
  v0 [nth v1 0, nth v1 1, v16, v17])))))))))) (M.pure (nth v1 2))))))))
theorem XL62_0 {call : FuncId → List AV → M AV} : Cont1 (L62_0 call fixW ) fun _n => L62_0 call fixW  := by
  intro v0 v0s hself v1
  unfold L62_0
  exact (LimM.bnd (LimM.const _) fun _ => (LimM.bnd (LimM.const _) fun _ => (LimM.bnd (LimM.const _) fun _ => (LimM.bnd (LimM.const _) fun _ => (LimM.bnd (LimM.const _) fun _ => (LimM.bnd (LimM.const _) fun _ => (condM_lim (LimM.bnd (LimM.const _) fun _ => (LimM.bnd (LimM.const _) fun _ => (LimM.bnd (LimM.const _) fun _ => (LimM.bnd (LimM.const _) fun _ => (LimM.bnd (LimM.const _) fun _ => (LimM.bnd (LimM.const _) fun _ => (LimM.bnd (LimM.const _) fun _ => (LimM.bnd (LimM.const _) fun _ => (LimM.bnd (LimM.const _) fun _ => (hself _)))))))))) (LimM.const _))))))))
theorem FL62_0 (call : FuncId → List AV → M AV) (vs : List AV) : fixW (L62_0 call fixW ) vs = L62_0 call fixW  (fixW (L62_0 call fixW )) vs := fixW_eq (XL62_0 ) vs
noncomputable def S62 (call : FuncId → List AV → M AV) (fx : Fix AV) (a0 a1 : AV) : M AV :=
  fx (L62_0 call fx) [a1, AV.ip (acells a0), AV.int IntKind.i64 1, AV.int IntKind.i64 0]
theorem E62 (call : FuncId → List AV → M AV) (fx : Fix AV) (a0 a1 : AV) : evBody (pg.cx call Tryz.f62.ntmps ann62) fx Tryz.f62 (own 62) [a0, a1] = S62 call fx a0 a1 := by kernel_rfl
theorem C62 (a0 a1 : AV) : callW pg 62 [a0, a1] = isoP (S62 (callW pg) fixW (cl noHs a0) (cl noHs a1)) := (callW_iso hOther rfl rfl rfl _).trans (congrArg isoP (E62 _ _ (cl noHs a0) (cl noHs a1)))
noncomputable def S66 (call : FuncId → List AV → M AV) (fx : Fix AV) (a0 a1 : AV) : M AV :=
  bnd (lft (loadA T 24 (AV.ip (acells a0)))) (fun v0 =>
  bnd (call 41 [v0]) (fun v1 =>
  bnd (guardM v1 true 1 (bnd (lft (loadA T 24 (AV.ip (acells a1)))) (fun v2 =>
  bnd (call 41 [v2]) (fun v3 =>
  M.pure [v3])))) (fun v4 =>
  bnd (lft (pickA v1 (nth v4 0) (AV.bool false))) (fun v5 =>
  bnd (guardM v5 true 1 (bnd (lft (fieldAddrA T 24 (AV.ip (acells a0)) 0)) (fun v6 =>
  bnd (lft (loadA T 9 v6)) (fun v7 =>
  bnd (lft (fieldAddrA T 24 (AV.ip (acells a1)) 0)) (fun v8 =>
  bnd (lft (loadA T 9 v8)) (fun v9 =>
  bnd (lft (binA T BinOp.eql 9 v7 v9)) (fun v10 =>
  M.pure [v10]))))))) (fun v11 =>
  bnd (lft (pickA v5 (nth v11 0) (AV.bool false))) (fun v12 =>
  M.pure v12))))))
theorem E66 (call : FuncId → List AV → M AV) (fx : Fix AV) (a0 a1 : AV) : evBody (pg.cx call Tryz.f66.ntmps ann66) fx Tryz.f66 (own 66) [a0, a1] = S66 call fx a0 a1 := by kernel_rfl
theorem C66 (a0 a1 : AV) : callW pg 66 [a0, a1] = isoP (S66 (callW pg) fixW (cl noHs a0) (cl noHs a1)) := (callW_iso hOther rfl rfl rfl _).trans (congrArg isoP (E66 _ _ (cl noHs a0) (cl noHs a1)))
noncomputable def L67_0 (call : FuncId → List AV → M AV) (fx : Fix AV) (v0 : List AV → M AV) (v1 : List AV) : M AV :=
  bnd (lft (fieldAddrA T 24 (nth v1 0) 1)) (fun v2 =>
  bnd (lft (loadA T 22 v2)) (fun v3 =>
  bnd (lft (lenA T 22 v3)) (fun v4 =>
  bnd (lft (binA T BinOp.lss 3 (nth v1 2) v4)) (fun v5 =>
  condM v5 (bnd (lft (loadA T 24 (nth v1 1))) (fun v6 =>
  bnd (lft (fieldAddrA T 24 (nth v1 0) 1)) (fun v7 =>
  bnd (lft (loadA T 22 v7)) (fun v8 =>
  bnd (lft (indexAddrA T 22 v8 (nth v1 2))) (fun v9 =>
  bnd (lft (fieldAddrA T 56 v9 0)) (fun v10 =>
  bnd (lft (loadA T 9 v10)) (fun v11 =>
  bnd (noPan (call 38 [v6, v11])) (fun v12 =>
  bnd (lft (extractA v12 0)) (fun v13 =>
  bnd (lft (extractA v12 1)) (fun v14 =>
  bnd (cellsM 5 v13) (fun v15 =>
  bnd (lft (unA UnOp.not v14)) (fun v16 =>
  bnd (guardM v16 false 1 (bnd (lft (loadA T 56 (AV.ip (acells v15)))) (fun v17 =>
  bnd (lft (fieldAddrA T 24 (nth v1 0) 1)) (fun v18 =>
  bnd (lft (loadA T 22 v18)) (fun v19 =>
  bnd (lft (indexAddrA T 22 v19 (nth v1 2))) (fun v20 =>
  bnd (lft (loadA T 56 v20)) (fun v21 =>
  bnd (noPan (call 45 [v17, v21])) (fun v22 =>
  bnd (lft (unA UnOp.not v22)) (fun v23 =>
  M.pure [v23]))))))))) (fun v24 =>
  bnd (lft (pickA v16 (AV.bool true) (nth v24 0))) (fun v25 =>
  condM v25 (bnd (lft (fieldAddrA T 24 (nth v1 0) 1)) (fun v26 =>
  bnd (lft (loadA T 22 v26)) (fun v27 =>
  bnd (lft (indexAddrA T 22 v27 (nth v1 2))) (fun v28 =>
  bnd (lft (loadA T 56 v28)) (fun v29 =>
  bnd (cellsNil 5 [] v29) (fun v30 =>
  M.pure (AV.tup [AV.agg [nth (acells v30) 0, nth (acells v30) 1, nth (acells v30) 2, nth (acells v30) 3, nth (acells v30) 4], AV.bool false]))))))) (bnd (lft (binA T BinOp.add 3 (nth v1 2) (AV.int IntKind.i64 1))) (fun v31 =>
  v0 [nth v1 0, nth v1 1, v31, nth v1 3, nth v1 4, nth v1 5, nth v1 6, nth v1 7])))))))))))))))) (bnd (lft (buildA T false 56 [])) (fun v32 =>
  bnd (cellsNil 5 [] v32) (fun v33 =>
  M.pure (AV.tup [AV.agg [nth (acells v33) 0, nth (acells v33) 1, nth (acells v33) 2, nth (acells v33) 3, nth (acells v33) 4], AV.bool true]))))))))
theorem XL67_0 {call : FuncId → List AV → M AV} : Cont1 (L67_0 call fixW ) fun _n => L67_0 call fixW  := by
  intro v0 v0s hself v1
  unfold L67_0
  exact (LimM.bnd (LimM.const _) fun _ => (LimM.bnd (LimM.const _) fun _ => (LimM.bnd (LimM.const _) fun _ => (LimM.bnd (LimM.const _) fun _ => (condM_lim (LimM.bnd (LimM.const _) fun _ => (LimM.bnd (LimM.const _) fun _ => (LimM.bnd (LimM.const _) fun _ => (LimM.bnd (LimM.const _) fun _ => (LimM.bnd (LimM.const _) fun _ => (LimM.bnd (LimM.const _) fun _ => (LimM.bnd (LimM.const _) fun _ => (LimM.bnd (LimM.const _) fun _ => (LimM.bnd (LimM.const _) fun _ => (LimM.bnd (LimM.const _) fun _ => (LimM.bnd (LimM.const _) fun _ => (LimM.bnd (LimM.const _) fun _ => (LimM.bnd (LimM.const _) fun _ => (condM_lim (LimM.const _) (LimM.bnd (LimM.const _) fun _ => (hself _)))))))))))))))) (LimM.const _))))))
theorem FL67_0 (call : FuncId → List AV → M AV) (vs : List AV) : fixW (L67_0 call fixW ) vs = L67_0 call fixW  (fixW (L67_0 call fixW )) vs := fixW_eq (XL67_0 ) vs
noncomputable def S67 (call : FuncId → List AV → M AV) (fx : Fix AV) (a0 a1 : AV) : M AV :=
  fx (L67_0 call fx) [AV.ip (acells a0), AV.ip (acells a1), AV.int IntKind.i64 0, AV.str [], AV.sl [], AV.int IntKind.i64 0, AV.sl [], AV.int IntKind.i64 0]
theorem E67 (call : FuncId → List AV → M AV) (fx : Fix AV) (a0 a1 : AV) : evBody (pg.cx call Tryz.f67.ntmps ann67) fx Tryz.f67 (own 67) [a0, a1] = S67 call fx a0 a1 := by kernel_rfl
theorem C67 (a0 a1 : AV) : callW pg 67 [a0, a1] = isoP (S67 (callW pg) fixW (cl noHs a0) (cl noHs a1)) := (callW_iso hOther rfl rfl rfl _).trans (congrArg isoP (E67 _ _ (cl noHs a0) (cl noHs a1)))
noncomputable def L68_0 (call : FuncId → List AV → M AV) (fx : Fix AV) (v13 : List AV → M AV) (v14 : List AV) : M AV :=
  bnd (lft (binA T BinOp.lss 3 (nth v14 2) (nth v14 1))) (fun v15 =>
  condM v15 (bnd (lft (indexAddrA T 25 (nth v14 0) (nth v14 2))) (fun v16 =>
  bnd (lft (loadA T 76 v16)) (fun v17 =>
  bnd (cellsM 3 v17) (fun v18 =>
  bnd (lft (fieldAddrA T 76 (AV.ip (acells v18)) 0)) (fun v19 =>
  bnd (lft (loadA T 9 v19)) (fun v20 =>
  bnd (lft (buildSliceA T 35 1 [(0, v20)])) (fun v21 =>
  bnd (lft (appA T 35 (nth v14 13) v21)) (fun v22 =>
  bnd (cell1M v22) (fun v23 =>
  bnd (lft (fieldAddrA T 76 (AV.ip (acells v18)) 1)) (fun v24 =>
  bnd (lft (loadA T 27 v24)) (fun v25 =>
  bnd (noPan (call 68 [v25])) (fun v26 =>
  bnd (lft (buildSliceA T 36 1 [(0, v26)])) (fun v27 =>
  bnd (lft (appA T 36 (nth v14 14) v27)) (fun v28 =>
  bnd (cell1M v28) (fun v29 =>
  bnd (lft (binA T BinOp.add 3 (nth v14 2) (AV.int IntKind.i64 1))) (fun v30 =>
  v13 [nth v14 0, nth v14 1, v30, nth v14 3, nth v14 4, nth v14 5, nth v14 6, nth v14 7, nth v14 8, nth v14 9, nth v14 10, nth v14 11, nth v14 12, v22, v28])))))))))))))))) (bnd (cellsNil 6 [] (AV.agg [nth v14 9, nth v14 10, nth v14 11, nth v14 12, nth v14 13, nth v14 14])) (fun v31 =>
  M.pure (AV.agg [nth (acells v31) 0, nth (acells v31) 1, nth (acells v31) 2, nth (acells v31) 3, nth (acells v31) 4, nth (acells v31) 5]))))
theorem XL68_0 {call : FuncId → List AV → M AV} : Cont1 (L68_0 call fixW ) fun _n => L68_0 call fixW  := by
  intro v13 v13s hself v14
  unfold L68_0
  exact (LimM.bnd (LimM.const _) fun _ => (condM_lim (LimM.bnd (LimM.const _) fun _ => (LimM.bnd (LimM.const _) fun _ => (LimM.bnd (LimM.const _) fun _ => (LimM.bnd (LimM.const _) fun _ => (LimM.bnd (LimM.const _) fun _ => (LimM.bnd (LimM.const _) fun _ => (LimM.bnd (LimM.const _) fun _ => (LimM.bnd (LimM.const _) fun _ => (LimM.bnd (LimM.const _) fun _ => (LimM.bnd (LimM.const _) fun _ => (LimM.bnd (LimM.const _) fun _ => (LimM.bnd (LimM.const _) fun _ => (LimM.bnd (LimM.const _) fun _ => (LimM.bnd (LimM.const _) fun _ => (LimM.bnd (LimM.const _) fun _ => (hself _)))))))))))))))) (LimM.const _)))
theorem FL68_0 (call : FuncId → List AV → M AV) (vs : List AV) : fixW (L68_0 call fixW ) vs = L68_0 call fixW  (fixW (L68_0 call fixW )) vs := fixW_eq (XL68_0 ) vs
noncomputable def S68 (call : FuncId → List AV → M AV) (fx : Fix AV) (a0 : AV) : M AV :=
  bnd (lft (fieldAddrA T 27 (AV.ip (acells a0)) 0)) (fun v0 =>
  bnd (lft (loadA T 3 v0)) (fun v1 =>
  bnd (lft (binA T BinOp.eql 3 v1 (AV.int IntKind.i64 0))) (fun v2 =>
  condM v2 (bnd (lft (buildA T false 47 [(0, AV.int IntKind.i64 0)])) (fun v3 =>
  bnd (cellsNil 6 [] v3) (fun v4 =>
  M.pure (AV.agg [nth (acells v4) 0, nth (acells v4) 1, nth (acells v4) 2, nth (acells v4) 3, nth (acells v4) 4, nth (acells v4) 5])))) (bnd (lft (binA T BinOp.eql 3 v1 (AV.int IntKind.i64 1))) (fun v5 =>
  condM v5 (bnd (lft (buildA T false 47 [(0, AV.int IntKind.i64 1)])) (fun v6 =>
  bnd (cellsNil 6 [] v6) (fun v7 =>
  M.pure (AV.agg [nth (acells v7) 0, nth (acells v7) 1, nth (acells v7) 2, nth (acells v7) 3, nth (acells v7) 4, nth (acells v7) 5])))) (bnd (lft (buildA T true 47 [(0, AV.int IntKind.i64 13)])) (fun v8 =>
  bnd (cellsNil 6 [4, 5] v8) (fun v9 =>
  bnd (lft (fieldAddrA T 27 (AV.ip (acells a0)) 1)) (fun v10 =>
  bnd (lft (loadA T 25 v10)) (fun v11 =>
  bnd (lft (lenA T 25 v11)) (fun v12 =>
  fx (L68_0 call fx) [v11, v12, AV.int IntKind.i64 0, AV.int IntKind.i64 0, AV.int IntKind.i64 0, AV.str [], AV.str [], AV.sl [], AV.sl [], nth (acells v9) 0, nth (acells v9) 1, nth (acells v9) 2, nth (acells v9) 3, AV.sl [], AV.sl []])))))))))))
theorem E68 (call : FuncId → List AV → M AV) (fx : Fix AV) (a0 : AV) : evBody (pg.cx call Tryz.f68.ntmps ann68) fx Tryz.f68 (own 68) [a0] = S68 call fx a0 := by kernel_rfl
theorem C68 (a0 : AV) : callW pg 68 [a0] = isoP (S68 (callW pg) fixW (cl noHs a0)) := (callW_iso hOther rfl rfl rfl _).trans (congrArg isoP (E68 _ _ (cl noHs a0)))
noncomputable def S73 (call : FuncId → List AV → M AV) (fx : Fix AV) (a0 : AV) : M AV :=
  bnd (lft (loadA T 27 (AV.ip (acells a0)))) (fun v0 =>
  bnd (call 47 [v0]) (fun v1 =>
  M.pure v1))
theorem E73 (call : FuncId → List AV → M AV) (fx : Fix AV) (a0 : AV) : evBody (pg.cx call Tryz.f73.ntmps ann73) fx Tryz.f73 (own 73) [a0] = S73 call fx a0 := by kernel_rfl
theorem C73 (a0 : AV) : callW pg 73 [a0] = isoP (S73 (callW pg) fixW (cl noHs a0)) := (callW_iso hOther rfl rfl rfl _).trans (congrArg isoP (E73 _ _ (cl noHs a0)))
noncomputable def S74 (call : FuncId → List AV → M AV) (fx : Fix AV) (a0 : AV) : M AV :=
  bnd (lft (loadA T 27 (AV.ip (acells a0)))) (fun v0 =>
  bnd (call 143 [v0, AV.int IntKind.i64 4]) (fun v1 =>
  M.pure v1))
theorem E74 (call : FuncId → List AV → M AV) (fx : Fix AV) (a0 : AV) : evBody (pg.cx call Tryz.f74.ntmps ann74) fx Tryz.f74 (own 74) [a0] = S74 call fx a0 := by kernel_rfl
theorem C74 (a0 : AV) : callW pg 74 [a0] = isoP (S74 (callW pg) fixW (cl noHs a0)) := (callW_iso hOther rfl rfl rfl _).trans (congrArg isoP (E74 _ _ (cl noHs a0)))
noncomputable def S75 (call : FuncId → List AV → M AV) (fx : Fix AV) (a0 a1 : AV) : M AV :=
  bnd (lft (loadA T 29 (AV.ip (acells a0)))) (fun v0 =>
  bnd (call 144 [v0]) (fun v1 =>
  bnd (lft (unA UnOp.not v1)) (fun v2 =>
  bnd (guardM v2 false 1 (bnd (lft (loadA T 29 (AV.ip (acells a1)))) (fun v3 =>
  bnd (call 144 [v3]) (fun v4 =>
  bnd (lft (unA UnOp.not v4)) (fun v5 =>
  M.pure [v5]))))) (fun v6 =>
  bnd (lft (pickA v2 (AV.bool true) (nth v6 0))) (fun v7 =>
  bnd (guardM v7 false 1 (bnd (lft (loadA T 29 (AV.ip (acells a0)))) (fun v8 =>
  bnd (lft (loadA T 29 (AV.ip (acells a1)))) (fun v9 =>
  bnd (call 145 [v8, v9]) (fun v10 =>
  bnd (lft (binA T BinOp.geq 3 v10 (AV.int IntKind.i64 0))) (fun v11 =>
  M.pure [v11])))))) (fun v12 =>
  bnd (lft (pickA v7 (AV.bool true) (nth v12 0))) (fun v13 =>
  condM v13 (M.pure (AV.int IntKind.i64 0)) (bnd (lft (fieldAddrA T 29 (AV.ip (acells a0)) 0)) (fun v14 =>
  bnd (lft (loadA T 3 v14)) (fun v15 =>
  bnd (lft (fieldAddrA T 29 (AV.ip (acells a1)) 0)) (fun v16 =>
  bnd (lft (loadA T 3 v16)) (fun v17 =>
  bnd (lft (binA T BinOp.neq 3 v15 v17)) (fun v18 =>
  condM v18 (M.pure (AV.int IntKind.i64 3)) (bnd (lft (fieldAddrA T 29 (AV.ip (acells a0)) 1)) (fun v19 =>
  bnd (lft (loadA T 3 v19)) (fun v20 =>
  bnd (lft (fieldAddrA T 29 (AV.ip (acells a1)) 1)) (fun v21 =>
  bnd (lft (loadA T 3 v21)) (fun v22 =>
  bnd (lft (binA T BinOp.neq 3 v20 v22)) (fun v23 =>
  condM v23 (M.pure (AV.int IntKind.i64 2)) (M.pure (AV.int IntKind.i64 1)))))))))))))))))))))
theorem E75 (call : FuncId → List AV → M AV) (fx : Fix AV) (a0 a1 : AV) : evBody (pg.cx call Tryz.f75.ntmps ann75) fx Tryz.f75 (own 75) [a0, a1] = S75 call fx a0 a1 := by kernel_rfl
theorem C75 (a0 a1 : AV) : callW pg 75 [a0, a1] = isoP (S75 (callW pg) fixW (cl noHs a0) (cl noHs a1)) := (callW_iso hOther rfl rfl rfl _).trans (congrArg isoP (E75 _ _ (cl noHs a0) (cl noHs a1)))
noncomputable def S78 (call : FuncId → List AV → M AV) (fx : Fix AV) (a0 : AV) : M AV :=
  bnd (lft (fieldAddrA T 29 (AV.ip (acells a0)) 0)) (fun v0 =>
  bnd (lft (loadA T 3 v0)) (fun v1 =>
  bnd (lft (fieldAddrA T 29 (AV.ip (acells a0)) 1)) (fun v2 =>
  bnd (lft (loadA T 3 v2)) (fun v3 =>
  bnd (lft (fieldAddrA T 29 (AV.ip (acells a0)) 2)) (fun v4 =>
  bnd (lft (loadA T 3 v4)) (fun v5 =>
  bnd (lft (minsA false [v1, v3, v5])) (fun v6 =>
  bnd (lft (binA T BinOp.geq 3 v6 (AV.int IntKind.i64 0))) (fun v7 =>
  bnd (guardM v7 true 1 (bnd (lft (fieldAddrA T 29 (AV.ip (acells a0)) 0)) (fun v8 =>
  bnd (lft (loadA T 3 v8)) (fun v9 =>
  bnd (lft (fieldAddrA T 29 (AV.ip (acells a0)) 1)) (fun v10 =>
  bnd (lft (loadA T 3 v10)) (fun v11 =>
  bnd (lft (fieldAddrA T 29 (AV.ip (acells a0)) 2)) (fun v12 =>
  bnd (lft (loadA T 3 v12)) (fun v13 =>
  bnd (lft (minsA true [v9, v11, v13])) (fun v14 =>
  bnd (lft (binA T BinOp.leq 3 v14 (AV.int IntKind.i64 1048576))) (fun v15 =>
  M.pure [v15])))))))))) (fun v16 =>
  bnd (lft (pickA v7 (nth v16 0) (AV.bool false))) (fun v17 =>
  M.pure v17))))))))))
theorem E78 (call : FuncId → List AV → M AV) (fx : Fix AV) (a0 : AV) : evBody (pg.cx call Tryz.f78.ntmps ann78) fx Tryz.f78 (own 78) [a0] = S78 call fx a0 := by kernel_rfl
theorem C78 (a0 : AV) : callW pg 78 [a0] = isoP (S78 (callW pg) fixW (cl noHs a0)) := (callW_iso hOther rfl rfl rfl _).trans (congrArg isoP (E78 _ _ (cl noHs a0)))
noncomputable def S79 (call : FuncId → List AV → M AV) (fx : Fix AV) (a0 a1 : AV) : M AV :=
  bnd (lft (fieldAddrA T 29 (AV.ip (acells a0)) 0)) (fun v0 =>
  bnd (lft (loadA T 3 v0)) (fun v1 =>
  bnd (lft (fieldAddrA T 29 (AV.ip (acells a1)) 0)) (fun v2 =>
  bnd (lft (loadA T 3 v2)) (fun v3 =>
  bnd (noPan (call 151 [v1, v3])) (fun v4 =>
  bnd (lft (fieldAddrA T 29 (AV.ip (acells a0)) 1)) (fun v5 =>
  bnd (lft (loadA T 3 v5)) (fun v6 =>
  bnd (lft (fieldAddrA T 29 (AV.ip (acells a1)) 1)) (fun v7 =>
  bnd (lft (loadA T 3 v7)) (fun v8 =>
  bnd (noPan (call 151 [v6, v8])) (fun v9 =>
  bnd (lft (fieldAddrA T 29 (AV.ip (acells a0)) 2)) (fun v10 =>
  bnd (lft (loadA T 3 v10)) (fun v11 =>
  bnd (lft (fieldAddrA T 29 (AV.ip (acells a1)) 2)) (fun v12 =>
  bnd (lft (loadA T 3 v12)) (fun v13 =>
  bnd (noPan (call 151 [v11, v13])) (fun v14 =>
  bnd (lft (buildSliceA T 196 3 [(0, v4), (1, v9), (2, v14)])) (fun v15 =>
  bnd (noPan (call 150 [v15])) (fun v16 =>
  M.pure v16)))))))))))))))))
theorem E79 (call : FuncId → List AV → M AV) (fx : Fix AV) (a0 a1 : AV) : evBody (pg.cx call Tryz.f79.ntmps ann79) fx Tryz.f79 (own 79) [a0, a1] = S79 call fx a0 a1 := by kernel_rfl
theorem C79 (a0 a1 : AV) : callW pg 79 [a0, a1] = isoP (S79 (callW pg) fixW (cl noHs a0) (cl noHs a1)) := (callW_iso hOther rfl rfl rfl _).trans (congrArg isoP (E79 _ _ (cl noHs a0) (cl noHs a1)))
noncomputable def L101_0 (call : FuncId → List AV → M AV) (fx : Fix AV) (v1 : List AV → M AV) (v2 : List AV) : M AV :=
  bnd (lft (binA T BinOp.lss 3 (nth v2 3) (nth v2 2))) (fun v3 =>
  condM v3 (bnd (lft (indexAddrA T 22 (nth v2 0) (nth v2 3))) (fun v4 =>
  bnd (lft (loadA T 56 v4)) (fun v5 =>
  bnd (callV call (nth v2 1) [v5]) (fun v6 =>
  condM v6 (M.pure (nth v2 3)) (bnd (lft (binA T BinOp.add 3 (nth v2 3) (AV.int IntKind.i64 1))) (fun v7 =>
  v1 [nth v2 0, nth v2 1, nth v2 2, v7])))))) (M.pure (AV.int IntKind.i64 (-1))))
theorem XL101_0 {call : FuncId → List AV → M AV} : Cont1 (L101_0 call fixW ) fun _n => L101_0 call fixW  := by
  intro v1 v1s hself v2
  unfold L101_0
  exact (LimM.bnd (LimM.const _) fun _ => (condM_lim (LimM.bnd (LimM.const _) fun _ => (LimM.bnd (LimM.const _) fun _ => (LimM.bnd (LimM.const _) fun _ => (condM_lim (LimM.const _) (LimM.bnd (LimM.const _) fun _ => (hself _)))))) (LimM.const _)))
theorem FL101_0 (call : FuncId → List AV → M AV) (vs : List AV) : fixW (L101_0 call fixW ) vs = L101_0 call fixW  (fixW (L101_0 call fixW )) vs := fixW_eq (XL101_0 ) vs
noncomputable def S101 (call : FuncId → List AV → M AV) (fx : Fix AV) (a0 a1 : AV) : M AV :=
  bnd (lft (lenA T 22 a0)) (fun v0 =>
  fx (L101_0 call fx) [a0, a1, v0, AV.int IntKind.i64 0])
theorem E101 (call : FuncId → List AV → M AV) (fx : Fix AV) (a0 a1 : AV) : evBody (pg.cx call Tryz.f101.ntmps ann101) fx Tryz.f101 (own 101) [a0, a1] = S101 call fx a0 a1 := by kernel_rfl
theorem C101 (a0 a1 : AV) : callW pg 101 [a0, a1] = isoP (S101 (callW pg) fixW (cl noHs a0) (cl noHs a1)) := (callW_iso hOther rfl rfl rfl _).trans (congrArg isoP (E101 _ _ (cl noHs a0) (cl noHs a1)))
noncomputable def S112 (call : FuncId → List AV → M AV) (fx : Fix AV) (a0 a1 : AV) : M AV :=
  bnd (lft (loadA T 27 (AV.ip (acells a0)))) (fun v0 =>
  bnd (call 175 [v0]) (fun v1 =>
  bnd (guardM v1 true 1 (bnd (lft (loadA T 27 (AV.ip (acells a1)))) (fun v2 =>
  bnd (call 175 [v2]) (fun v3 =>
  M.pure [v3])))) (fun v4 =>
  bnd (lft (pickA v1 (nth v4 0) (AV.bool false))) (fun v5 =>
  bnd (guardM v5 true 1 (bnd (lft (loadA T 27 (AV.ip (acells a0)))) (fun v6 =>
  bnd (lft (loadA T 27 (AV.ip (acells a1)))) (fun v7 =>
  bnd (call 176 [v6, v7]) (fun v8 =>
  M.pure [v8]))))) (fun v9 =>
  bnd (lft (pickA v5 (nth v9 0) (AV.bool false))) (fun v10 =>
  M.pure v10))))))
theorem E112 (call : FuncId → List AV → M AV) (fx : Fix AV) (a0 a1 : AV) : evBody (pg.cx call Tryz.f112.ntmps ann112) fx Tryz.f112 (own 112) [a0, a1] = S112 call fx a0 a1 := by kernel_rfl
theorem C112 (a0 a1 : AV) : callW pg 112 [a0, a1] = isoP (S112 (callW pg) fixW (cl noHs a0) (cl noHs a1)) := (callW_iso hOther rfl rfl rfl _).trans (congrArg isoP (E112 _ _ (cl noHs a0) (cl noHs a1)))
noncomputable def L143_0 (call : FuncId → List AV → M AV) (fx : Fix AV) (v32 : List AV → M AV) (v33 : List AV) : M AV :=
  bnd (lft (fieldAddrA T 27 (nth v33 1) 1)) (fun v34 =>
  bnd (lft (loadA T 25 v34)) (fun v35 =>
  bnd (lft (lenA T 25 v35)) (fun v36 =>
  bnd (lft (binA T BinOp.lss 3 (nth v33 2) v36)) (fun v37 =>
  condM v37 (bnd (lft (fieldAddrA T 27 (nth v33 1) 1)) (fun v38 =>
  bnd (lft (loadA T 25 v38)) (fun v39 =>
  bnd (lft (indexAddrA T 25 v39 (nth v33 2))) (fun v40 =>
  bnd (lft (fieldAddrA T 76 v40 1)) (fun v41 =>
  bnd (lft (loadA T 27 v41)) (fun v42 =>
  bnd (lft (binA T BinOp.sub 3 (nth v33 0) (AV.int IntKind.i64 1))) (fun v43 =>
  bnd (call 143 [v42, v43]) (fun v44 =>
  bnd (lft (unA UnOp.not v44)) (fun v45 =>
  condM v45 (M.pure (AV.bool false)) (bnd (lft (binA T BinOp.add 3 (nth v33 2) (AV.int IntKind.i64 1))) (fun v46 =>
  v32 [nth v33 0, nth v33 1, v46]))))))))))) (M.pure (AV.bool true))))))
theorem XL143_0 {call : FuncId → List AV → M AV} : Cont1 (L143_0 call fixW ) fun _n => L143_0 call fixW  := by
  intro v32 v32s hself v33
  unfold L143_0
  exact (LimM.bnd (LimM.const _) fun _ => (LimM.bnd (LimM.const _) fun _ => (LimM.bnd (LimM.const _) fun _ => (LimM.bnd (LimM.const _) fun _ => (condM_lim (LimM.bnd (LimM.const _) fun _ => (LimM.bnd (LimM.const _) fun _ => (LimM.bnd (LimM.const _) fun _ => (LimM.bnd (LimM.const _) fun _ => (LimM.bnd (LimM.const _) fun _ => (LimM.bnd (LimM.const _) fun _ => (LimM.bnd (LimM.const _) fun _ => (LimM.bnd (LimM.const _) fun _ => (condM_lim (LimM.const _) (LimM.bnd (LimM.const _) fun _ => (hself _))))))))))) (LimM.const _))))))
theorem FL143_0 (call : FuncId → List AV → M AV) (vs : List AV) : fixW (L143_0 call fixW ) vs = L143_0 call fixW  (fixW (L143_0 call fixW )) vs := fixW_eq (XL143_0 ) vs
noncomputable def S143 (call : FuncId → List AV → M AV) (fx : Fix AV) (a0 a1 : AV) : M AV :=
  bnd (lft (binA T BinOp.eql 3 a1 (AV.int IntKind.i64 0))) (fun v0 =>
  bnd (guardM v0 false 1 (bnd (lft (fieldAddrA T 27 (AV.ip (acells a0)) 0)) (fun v1 =>
  bnd (lft (loadA T 3 v1)) (fun v2 =>
  bnd (call 173 [v2, AV.int IntKind.i64 0, AV.int IntKind.i64 2]) (fun v3 =>
  bnd (lft (unA UnOp.not v3)) (fun v4 =>
  M.pure [v4])))))) (fun v5 =>
  bnd (lft (pickA v0 (AV.bool true) (nth v5 0))) (fun v6 =>
  bnd (guardM v6 false 1 (bnd (lft (fieldAddrA T 27 (AV.ip (acells a0)) 0)) (fun v7 =>
  bnd (lft (loadA T 3 v7)) (fun v8 =>
  bnd (lft (binA T BinOp.neq 3 v8 (AV.int IntKind.i64 2))) (fun v9 =>
  M.pure [v9]))))) (fun v10 =>
  bnd (guardM (nth v10 0) true 1 (bnd (lft (fieldAddrA T 27 (AV.ip (acells a0)) 1)) (fun v11 =>
  bnd (lft (loadA T 25 v11)) (fun v12 =>
  bnd (lft (lenA T 25 v12)) (fun v13 =>
  bnd (lft (binA T BinOp.gtr 3 v13 (AV.int IntKind.i64 0))) (fun v14 =>
  M.pure [v14])))))) (fun v15 =>
  bnd (guardM v6 false 1 (bnd (lft (pickA (nth v10 0) (nth v15 0) (AV.bool false))) (fun v16 =>
  M.pure [v16]))) (fun v17 =>
  bnd (lft (pickA v6 (AV.bool true) (nth v17 0))) (fun v18 =>
  bnd (guardM v18 false 1 (bnd (lft (fieldAddrA T 27 (AV.ip (acells a0)) 1)) (fun v19 =>
  bnd (lft (loadA T 25 v19)) (fun v20 =>
  bnd (lft (lenA T 25 v20)) (fun v21 =>
  bnd (lft (binA T BinOp.gtr 3 v21 (AV.int IntKind.i64 8))) (fun v22 =>
  M.pure [v22])))))) (fun v23 =>
  bnd (lft (pickA v18 (AV.bool true) (nth v23 0))) (fun v24 =>
  bnd (guardM v24 false 1 (bnd (lft (fieldAddrA T 27 (AV.ip (acells a0)) 1)) (fun v25 =>
  bnd (lft (loadA T 25 v25)) (fun v26 =>
  bnd (call 197 [v26]) (fun v27 =>
  bnd (call 196 [v27]) (fun v28 =>
  bnd (lft (unA UnOp.not v28)) (fun v29 =>
  M.pure [v29]))))))) (fun v30 =>
  bnd (lft (pickA v24 (AV.bool true) (nth v30 0))) (fun v31 =>
  condM v31 (M.pure (AV.bool false)) (fx (L143_0 call fx) [a1, AV.ip (acells a0), AV.int IntKind.i64 0]))))))))))))
theorem E143 (call : FuncId → List AV → M AV) (fx : Fix AV) (a0 a1 : AV) : evBody (pg.cx call Tryz.f143.ntmps ann143) fx Tryz.f143 (own 143) [a0, a1] = S143 call fx a0 a1 := by kernel_rfl
theorem C143 (a0 a1 : AV) : callW pg 143 [a0, a1] = isoP (S143 (callW pg) fixW (cl noHs a0) (cl noHs a1)) := (callW_iso hOther rfl rfl rfl _).trans (congrArg isoP (E143 _ _ (cl noHs a0) (cl noHs a1)))
noncomputable def S146 (call : FuncId → List AV → M AV) (fx : Fix AV) (a0 : AV) : M AV :=
  bnd (lft (binA T BinOp.eql 9 a0 (AV.str []))) (fun v0 =>
  bnd (guardM v0 false 1 (bnd (lft (indexStrA T 9 a0 (AV.int IntKind.i64 0))) (fun v1 =>
  bnd (call 199 [v1]) (fun v2 =>
  bnd (lft (unA UnOp.not v2)) (fun v3 =>
  M.pure [v3]))))) (fun v4 =>
  bnd (lft (pickA v0 (AV.bool true) (nth v4 0))) (fun v5 =>
  bnd (guardM v5 false 1 (bnd (lft (lenA T 9 a0)) (fun v6 =>
  bnd (lft (binA T BinOp.gtr 3 v6 (AV.int IntKind.i64 20))) (fun v7 =>
  M.pure [v7])))) (fun v8 =>
  bnd (lft (pickA v5 (AV.bool true) (nth v8 0))) (fun v9 =>
  condM v9 (M.pure (AV.bool false)) (bnd (call 200 [a0, AV.fn (Fn.func 201) [] []]) (fun v10 =>
  bnd (lft (lenA T 9 a0)) (fun v11 =>
  bnd (lft (binA T BinOp.eql 3 v10 v11)) (fun v12 =>
  M.pure v12)))))))))
theorem E146 (call : FuncId → List AV → M AV) (fx : Fix AV) (a0 : AV) : evBody (pg.cx call Tryz.f146.ntmps ann146) fx Tryz.f146 (own 146) [a0] = S146 call fx a0 := by kernel_rfl
theorem C146 (a0 : AV) : callW pg 146 [a0] = isoP (S146 (callW pg) fixW (cl noHs a0)) := (callW_iso hOther rfl rfl rfl _).trans (congrArg isoP (E146 _ _ (cl noHs a0)))
noncomputable def S149 (call : FuncId → List AV → M AV) (fx : Fix AV) (a0 : AV) : M AV :=
  bnd (lft (loadA T 27 (AV.ip (acells a0)))) (fun v0 =>
  bnd (call 47 [v0]) (fun v1 =>
  bnd (lft (unA UnOp.not v1)) (fun v2 =>
  M.pure v2)))
theorem E149 (call : FuncId → List AV → M AV) (fx : Fix AV) (a0 : AV) : evBody (pg.cx call Tryz.f149.ntmps ann149) fx Tryz.f149 (own 149) [a0] = S149 call fx a0 := by kernel_rfl
theorem C149 (a0 : AV) : callW pg 149 [a0] = isoP (S149 (callW pg) fixW (cl noHs a0)) := (callW_iso hOther rfl rfl rfl _).trans (congrArg isoP (E149 _ _ (cl noHs a0)))
noncomputable def L164_0 (call : FuncId → List AV → M AV) (fx : Fix AV) (v11 : List AV → M AV) (v12 : List AV) : M AV :=
  bnd (lft (lenA T 9 (nth v12 0))) (fun v13 =>
  bnd (lft (binA T BinOp.lss 3 (nth v12 1) v13)) (fun v14 =>
  condM v14 (bnd (lft (indexStrA T 9 (nth v12 0) (nth v12 1))) (fun v15 =>
  bnd (call 212 [v15]) (fun v16 =>
  bnd (lft (unA UnOp.not v16)) (fun v17 =>
  bnd (guardM v17 true 1 (bnd (lft (indexStrA T 9 (nth v12 0) (nth v12 1))) (fun v18 =>
  bnd (call 213 [v18]) (fun v19 =>
  bnd (lft (unA UnOp.not v19)) (fun v20 =>
  M.pure [v20]))))) (fun v21 =>
  bnd (lft (pickA v17 (nth v21 0) (AV.bool false))) (fun v22 =>
  condM v22 (M.pure (AV.bool false)) (bnd (lft (binA T BinOp.add 3 (nth v12 1) (AV.int IntKind.i64 1))) (fun v23 =>
  v11 [nth v12 0, v23])))))))) (M.pure (AV.bool true))))
theorem XL164_0 {call : FuncId → List AV → M AV} : Cont1 (L164_0 call fixW ) fun _n => L164_0 call fixW  := by
  intro v11 v11s hself v12
  unfold L164_0
  exact (LimM.bnd (LimM.const _) fun _ => (LimM.bnd (LimM.const _) fun _ => (condM_lim (LimM.bnd (LimM.const _) fun _ => (LimM.bnd (LimM.const _) fun _ => (LimM.bnd (LimM.const _) fun _ => (LimM.bnd (LimM.const _) fun _ => (LimM.bnd (LimM.const _) fun _ => (condM_lim (LimM.const _) (LimM.bnd (LimM.const _) fun _ => (hself _)))))))) (LimM.const _))))
theorem FL164_0 (call : FuncId → List AV → M AV) (vs : List AV) : fixW (L164_0 call fixW ) vs = L164_0 call fixW  (fixW (L164_0 call fixW )) vs := fixW_eq (XL164_0 ) vs
noncomputable def S164 (call : FuncId → List AV → M AV) (fx : Fix AV) (a0 : AV) : M AV :=
  bnd (lft (lenA T 9 a0)) (fun v0 =>
  bnd (lft (binA T BinOp.lss 3 v0 (AV.int IntKind.i64 1))) (fun v1 =>
  bnd (guardM v1 false 1 (bnd (lft (lenA T 9 a0)) (fun v2 =>
  bnd (lft (binA T BinOp.gtr 3 v2 (AV.int IntKind.i64 20))) (fun v3 =>
  M.pure [v3])))) (fun v4 =>
  bnd (lft (pickA v1 (AV.bool true) (nth v4 0))) (fun v5 =>
  bnd (guardM v5 false 1 (bnd (lft (indexStrA T 9 a0 (AV.int IntKind.i64 0))) (fun v6 =>
  bnd (call 212 [v6]) (fun v7 =>
  bnd (lft (unA UnOp.not v7)) (fun v8 =>
  M.pure [v8]))))) (fun v9 =>
  bnd (lft (pickA v5 (AV.bool true) (nth v9 0))) (fun v10 =>
  condM v10 (M.pure (AV.bool false)) (fx (L164_0 call fx) [a0, AV.int IntKind.i64 1])))))))
theorem E164 (call : FuncId → List AV → M AV) (fx : Fix AV) (a0 : AV) : evBody (pg.cx call Tryz.f164.ntmps ann164) fx Tryz.f164 (own 164) [a0] = S164 call fx a0 := by kernel_rfl
theorem C164 (a0 : AV) : callW pg 164 [a0] = isoP (S164 (callW pg) fixW (cl noHs a0)) := (callW_iso hOther rfl rfl rfl _).trans (congrArg isoP (E164 _ _ (cl noHs a0)))
noncomputable def L165_0 (call : FuncId → List AV → M AV) (fx : Fix AV) (v0 : List AV → M AV) (v1 : List AV) : M AV :=
  bnd (lft (lenA T 35 (nth v1 0))) (fun v2 =>
  bnd (lft (binA T BinOp.lss 3 (nth v1 2) v2)) (fun v3 =>
  condM v3 (bnd (lft (indexAddrA T 35 (nth v1 0) (nth v1 2))) (fun v4 =>
  bnd (lft (loadA T 9 v4)) (fun v5 =>
  bnd (lft (binA T BinOp.eql 9 v5 (nth v1 1))) (fun v6 =>
  condM v6 (M.pure (nth v1 2)) (bnd (lft (binA T BinOp.add 3 (nth v1 2) (AV.int IntKind.i64 1))) (fun v7 =>
  v0 [nth v1 0, nth v1 1, v7])))))) (M.pure (AV.int IntKind.i64 (-1)))))
theorem XL165_0 {call : FuncId → List AV → M AV} : Cont1 (L165_0 call fixW ) fun _n => L165_0 call fixW  := by
  intro v0 v0s hself v1
  unfold L165_0
  exact (LimM.bnd (LimM.const _) fun _ => (LimM.bnd (LimM.const _) fun _ => (condM_lim (LimM.bnd (LimM.const _) fun _ => (LimM.bnd (LimM.const _) fun _ => (LimM.bnd (LimM.const _) fun _ => (condM_lim (LimM.const _) (LimM.bnd (LimM.const _) fun _ => (hself _)))))) (LimM.const _))))
theorem FL165_0 (call : FuncId → List AV → M AV) (vs : List AV) : fixW (L165_0 call fixW ) vs = L165_0 call fixW  (fixW (L165_0 call fixW )) vs := fixW_eq (XL165_0 ) vs
noncomputable def S165 (call : FuncId → List AV → M AV) (fx : Fix AV) (a0 a1 : AV) : M AV :=
  fx (L165_0 call fx) [a0, a1, AV.int IntKind.i64 0]
theorem E165 (call : FuncId → List AV → M AV) (fx : Fix AV) (a0 a1 : AV) : evBody (pg.cx call Tryz.f165.ntmps ann165) fx Tryz.f165 (own 165) [a0, a1] = S165 call fx a0 a1 := by kernel_rfl
theorem C165 (a0 a1 : AV) : callW pg 165 [a0, a1] = isoP (S165 (callW pg) fixW (cl noHs a0) (cl noHs a1)) := (callW_iso hOther rfl rfl rfl _).trans (congrArg isoP (E165 _ _ (cl noHs a0) (cl noHs a1)))
noncomputable def L176_0 (call : FuncId → List AV → M AV) (fx : Fix AV) (v5 : List AV → M AV) (v6 : List AV) : M AV :=
  bnd (lft (fieldAddrA T 27 (nth v6 1) 1)) (fun v7 =>
  bnd (lft (loadA T 25 v7)) (fun v8 =>
  bnd (lft (lenA T 25 v8)) (fun v9 =>
  bnd (lft (binA T BinOp.lss 3 (nth v6 2) v9)) (fun v10 =>
  condM v10 (bnd (lft (fieldAddrA T 27 (nth v6 0) 1)) (fun v11 =>
  bnd (lft (loadA T 25 v11)) (fun v12 =>
  bnd (lft (fieldAddrA T 27 (nth v6 1) 1)) (fun v13 =>
  bnd (lft (loadA T 25 v13)) (fun v14 =>
  bnd (lft (indexAddrA T 25 v14 (nth v6 2))) (fun v15 =>
  bnd (lft (fieldAddrA T 76 v15 0)) (fun v16 =>
  bnd (lft (loadA T 9 v16)) (fun v17 =>
  bnd (noPan (call 225 [v12, v17])) (fun v18 =>
  bnd (lft (extractA v18 0)) (fun v19 =>
  bnd (lft (extractA v18 1)) (fun v20 =>
  bnd (cellsM 2 v19) (fun v21 =>
  bnd (lft (unA UnOp.not v20)) (fun v22 =>
  condM v22 (M.pure (AV.bool false)) (bnd (lft (loadA T 27 (AV.ip (acells v21)))) (fun v23 =>
  bnd (lft (fieldAddrA T 27 (nth v6 1) 1)) (fun v24 =>
  bnd (lft (loadA T 25 v24)) (fun v25 =>
  bnd (lft (indexAddrA T 25 v25 (nth v6 2))) (fun v26 =>
  bnd (lft (fieldAddrA T 76 v26 1)) (fun v27 =>
  bnd (lft (loadA T 27 v27)) (fun v28 =>
  bnd (noPan (call 176 [v23, v28])) (fun v29 =>
  bnd (lft (unA UnOp.not v29)) (fun v30 =>
  condM v30 (M.pure (AV.bool false)) (bnd (lft (binA T BinOp.add 3 (nth v6 2) (AV.int IntKind.i64 1))) (fun v31 =>
  v5 [nth v6 0, nth v6 1, v31])))))))))))))))))))))))) (M.pure (AV.bool true))))))
theorem XL176_0 {call : FuncId → List AV → M AV} : Cont1 (L176_0 call fixW ) fun _n => L176_0 call fixW  := by
  intro v5 v5s hself v6
  unfold L176_0
  exact (LimM.bnd (LimM.const _) fun _ => (LimM.bnd (LimM.const _) fun _ => (LimM.bnd (LimM.const _) fun _ => (LimM.bnd (LimM.const _) fun _ => (condM_lim (LimM.bnd (LimM.const _) fun _ => (LimM.bnd (LimM.const _) fun _ => (LimM.bnd (LimM.const _) fun _ => (LimM.bnd (LimM.const _) fun _ => (LimM.bnd (LimM.const _) fun _ => (LimM.bnd (LimM.const _) fun _ => (LimM.bnd (LimM.const _) fun _ => (LimM.bnd (LimM.const _) fun _ => (LimM.bnd (LimM.const _) fun _ => (LimM.bnd (LimM.const _) fun _ => (LimM.bnd (LimM.const _) fun _ => (LimM.bnd (LimM.const _) fun _ => (condM_lim (LimM.const _) (LimM.bnd (LimM.const _) fun _ => (LimM.bnd (LimM.const _) fun _ => (LimM.bnd (LimM.const _) fun _ => (LimM.bnd (LimM.const _) fun _ => (LimM.bnd (LimM.const _) fun _ => (LimM.bnd (LimM.const _) fun _ => (LimM.bnd (LimM.const _) fun _ => (LimM.bnd (LimM.const _) fun _ => (condM_lim (LimM.const _) (LimM.bnd (LimM.const _) fun _ => (hself _)))))))))))))))))))))))) (LimM.const _))))))
theorem FL176_0 (call : FuncId → List AV → M AV) (vs : List AV) : fixW (L176_0 call fixW ) vs = L176_0 call fixW  (fixW (L176_0 call fixW )) vs := fixW_eq (XL176_0 ) vs
noncomputable def S176 (call : FuncId → List AV → M AV) (fx : Fix AV) (a0 a1 : AV) : M AV :=
  bnd (lft (fieldAddrA T 27 (AV.ip (acells a0)) 0)) (fun v0 =>
  bnd (lft (loadA T 3 v0)) (fun v1 =>
  bnd (lft (fieldAddrA T 27 (AV.ip (acells a1)) 0)) (fun v2 =>
  bnd (lft (loadA T 3 v2)) (fun v3 =>
  bnd (lft (binA T BinOp.neq 3 v1 v3)) (fun v4 =>
  condM v4 (M.pure (AV.bool false)) (fx (L176_0 call fx) [AV.ip (acells a0), AV.ip (acells a1), AV.int IntKind.i64 0]))))))
theorem E176 (call : FuncId → List AV → M AV) (fx : Fix AV) (a0 a1 : AV) : evBody (pg.cx call Tryz.f176.ntmps ann176) fx Tryz.f176 (own 176) [a0, a1] = S176 call fx a0 a1 := by kernel_rfl
theorem C176 (a0 a1 : AV) : callW pg 176 [a0, a1] = isoP (S176 (callW pg) fixW (cl noHs a0) (cl noHs a1)) := (callW_iso hOther rfl rfl rfl _).trans (congrArg isoP (E176 _ _ (cl noHs a0) (cl noHs a1)))
noncomputable def L197_0 (call : FuncId → List AV → M AV) (fx : Fix AV) (v0 : List AV → M AV) (v1 : List AV) : M AV :=
  bnd (lft (lenA T 25 (nth v1 0))) (fun v2 =>
  bnd (lft (binA T BinOp.lss 3 (nth v1 2) v2)) (fun v3 =>
  condM v3 (bnd (lft (indexAddrA T 25 (nth v1 0) (nth v1 2))) (fun v4 =>
  bnd (lft (fieldAddrA T 76 v4 0)) (fun v5 =>
  bnd (lft (loadA T 9 v5)) (fun v6 =>
  bnd (lft (buildSliceA T 35 1 [(0, v6)])) (fun v7 =>
  bnd (lft (appA T 35 (nth v1 1) v7)) (fun v8 =>
  bnd (lft (binA T BinOp.add 3 (nth v1 2) (AV.int IntKind.i64 1))) (fun v9 =>
  v0 [nth v1 0, v8, v9]))))))) (M.pure (nth v1 1))))
theorem XL197_0 {call : FuncId → List AV → M AV} : Cont1 (L197_0 call fixW ) fun _n => L197_0 call fixW  := by
  intro v0 v0s hself v1
  unfold L197_0
  exact (LimM.bnd (LimM.const _) fun _ => (LimM.bnd (LimM.const _) fun _ => (condM_lim (LimM.bnd (LimM.const _) fun _ => (LimM.bnd (LimM.const _) fun _ => (LimM.bnd (LimM.const _) fun _ => (LimM.bnd (LimM.const _) fun _ => (LimM.bnd (LimM.const _) fun _ => (LimM.bnd (LimM.const _) fun _ => (hself _))))))) (LimM.const _))))
theorem FL197_0 (call : FuncId → List AV → M AV) (vs : List AV) : fixW (L197_0 call fixW ) vs = L197_0 call fixW  (fixW (L197_0 call fixW )) vs := fixW_eq (XL197_0 ) vs
noncomputable def S197 (call : FuncId → List AV → M AV) (fx : Fix AV) (a0 : AV) : M AV :=
  fx (L197_0 call fx) [a0, AV.sl [], AV.int IntKind.i64 0]
theorem E197 (call : FuncId → List AV → M AV) (fx : Fix AV) (a0 : AV) : evBody (pg.cx call Tryz.f197.ntmps ann197) fx Tryz.f197 (own 197) [a0] = S197 call fx a0 := by kernel_rfl
theorem C197 (a0 : AV) : callW pg 197 [a0] = isoP (S197 (callW pg) fixW (cl noHs a0)) := (callW_iso hOther rfl rfl rfl _).trans (congrArg isoP (E197 _ _ (cl noHs a0)))
noncomputable def S198 (call : FuncId → List AV → M AV) (fx : Fix AV) (a0 a1 : AV) : M AV :=
  bnd (lft (binA T BinOp.lss 3 a0 a1)) (fun v0 =>
  condM v0 (M.pure (AV.int IntKind.i64 (-1))) (bnd (lft (binA T BinOp.gtr 3 a0 a1)) (fun v1 =>
  condM v1 (M.pure (AV.int IntKind.i64 1)) (M.pure (AV.int IntKind.i64 0)))))
theorem E198 (call : FuncId → List AV → M AV) (fx : Fix AV) (a0 a1 : AV) : evBody (pg.cx call Tryz.f198.ntmps ann198) fx Tryz.f198 (own 198) [a0, a1] = S198 call fx a0 a1 := by kernel_rfl
theorem C198 (a0 a1 : AV) : callW pg 198 [a0, a1] = isoP (S198 (callW pg) fixW (cl noHs a0) (cl noHs a1)) := (callW_iso hOther rfl rfl rfl _).trans (congrArg isoP (E198 _ _ (cl noHs a0) (cl noHs a1)))
noncomputable def S199 (call : FuncId → List AV → M AV) (fx : Fix AV) (a0 : AV) : M AV :=
  bnd (lft (binA T BinOp.geq 5 a0 (AV.int IntKind.u8 97))) (fun v0 =>
  bnd (guardM v0 true 1 (bnd (lft (binA T BinOp.leq 5 a0 (AV.int IntKind.u8 122))) (fun v1 =>
  M.pure [v1]))) (fun v2 =>
  bnd (lft (pickA v0 (nth v2 0) (AV.bool false))) (fun v3 =>
  M.pure v3)))
theorem E199 (call : FuncId → List AV → M AV) (fx : Fix AV) (a0 : AV) : evBody (pg.cx call Tryz.f199.ntmps ann199) fx Tryz.f199 (own 199) [a0] = S199 call fx a0 := by kernel_rfl
theorem C199 (a0 : AV) : callW pg 199 [a0] = isoP (S199 (callW pg) fixW (cl noHs a0)) := (callW_iso hOther rfl rfl rfl _).trans (congrArg isoP (E199 _ _ (cl noHs a0)))
noncomputable def L200_0 (call : FuncId → List AV → M AV) (fx : Fix AV) (v0 : List AV → M AV) (v1 : List AV) : M AV :=
  bnd (lft (lenA T 9 (nth v1 0))) (fun v2 =>
  bnd (lft (binA T BinOp.lss 3 (nth v1 2) v2)) (fun v3 =>
  bnd (guardM v3 true 1 (bnd (lft (indexStrA T 9 (nth v1 0) (nth v1 2))) (fun v4 =>
  bnd (callV call (nth v1 1) [v4]) (fun v5 =>
  M.pure [v5])))) (fun v6 =>
  bnd (lft (pickA v3 (nth v6 0) (AV.bool false))) (fun v7 =>
  condM v7 (bnd (lft (binA T BinOp.add 3 (nth v1 2) (AV.int IntKind.i64 1))) (fun v8 =>
  v0 [nth v1 0, nth v1 1, v8])) (M.pure (nth v1 2))))))
theorem XL200_0 {call : FuncId → List AV → M AV} : Cont1 (L200_0 call fixW ) fun _n => L200_0 call fixW  := by
  intro v0 v0s hself v1
  unfold L200_0
  exact (LimM.bnd (LimM.const _) fun _ => (LimM.bnd (LimM.const _) fun _ => (LimM.bnd (LimM.const _) fun _ => (LimM.bnd (LimM.const _) fun _ => (condM_lim (LimM.bnd (LimM.const _) fun _ => (hself _)) (LimM.const _))))))
theorem FL200_0 (call : FuncId → List AV → M AV) (vs : List AV) : fixW (L200_0 call fixW ) vs = L200_0 call fixW  (fixW (L200_0 call fixW )) vs := fixW_eq (XL200_0 ) vs
noncomputable def S200 (call : FuncId → List AV → M AV) (fx : Fix AV) (a0 a1 : AV) : M AV :=
  fx (L200_0 call fx) [a0, a1, AV.int IntKind.i64 0]
theorem E200 (call : FuncId → List AV → M AV) (fx : Fix AV) (a0 a1 : AV) : evBody (pg.cx call Tryz.f200.ntmps ann200) fx Tryz.f200 (own 200) [a0, a1] = S200 call fx a0 a1 := by kernel_rfl
theorem C200 (a0 a1 : AV) : callW pg 200 [a0, a1] = isoP (S200 (callW pg) fixW (cl noHs a0) (cl noHs a1)) := (callW_iso hOther rfl rfl rfl _).trans (congrArg isoP (E200 _ _ (cl noHs a0) (cl noHs a1)))
noncomputable def L225_0 (call : FuncId → List AV → M AV) (fx : Fix AV) (v2 : List AV → M AV) (v3 : List AV) : M AV :=
  bnd (lft (binA T BinOp.geq 3 (nth v3 2) (AV.int IntKind.i64 0))) (fun v4 =>
  condM v4 (bnd (lft (indexAddrA T 25 (nth v3 0) (nth v3 2))) (fun v5 =>
  bnd (lft (fieldAddrA T 76 v5 0)) (fun v6 =>
  bnd (lft (loadA T 9 v6)) (fun v7 =>
  bnd (lft (binA T BinOp.eql 9 v7 (nth v3 1))) (fun v8 =>
  condM v8 (bnd (lft (indexAddrA T 25 (nth v3 0) (nth v3 2))) (fun v9 =>
  bnd (lft (fieldAddrA T 76 v9 1)) (fun v10 =>
  bnd (lft (loadA T 27 v10)) (fun v11 =>
  bnd (cellsNil 2 [] v11) (fun v12 =>
  M.pure (AV.tup [AV.agg [nth (acells v12) 0, nth (acells v12) 1], AV.bool true])))))) (bnd (lft (binA T BinOp.sub 3 (nth v3 2) (AV.int IntKind.i64 1))) (fun v13 =>
  v2 [nth v3 0, nth v3 1, v13, nth v3 3, nth v3 4]))))))) (bnd (lft (buildA T false 27 [])) (fun v14 =>
  bnd (cellsNil 2 [] v14) (fun v15 =>
  M.pure (AV.tup [AV.agg [nth (acells v15) 0, nth (acells v15) 1], AV.bool false])))))
theorem XL225_0 {call : FuncId → List AV → M AV} : Cont1 (L225_0 call fixW ) fun _n => L225_0 call fixW  := by
  intro v2 v2s hself v3
  unfold L225_0
  exact (LimM.bnd (LimM.const _) fun _ => (condM_lim (LimM.bnd (LimM.const _) fun _ => (LimM.bnd (LimM.const _) fun _ => (LimM.bnd (LimM.const _) fun _ => (LimM.bnd (LimM.const _) fun _ => (condM_lim (LimM.const _) (LimM.bnd (LimM.const _) fun _ => (hself _))))))) (LimM.const _)))
theorem FL225_0 (call : FuncId → List AV → M AV) (vs : List AV) : fixW (L225_0 call fixW ) vs = L225_0 call fixW  (fixW (L225_0 call fixW )) vs := fixW_eq (XL225_0 ) vs
noncomputable def S225 (call : FuncId → List AV → M AV) (fx : Fix AV) (a0 a1 : AV) : M AV :=
  bnd (lft (lenA T 25 a0)) (fun v0 =>
  bnd (lft (binA T BinOp.sub 3 v0 (AV.int IntKind.i64 1))) (fun v1 =>
  fx (L225_0 call fx) [a0, a1, v1, AV.int IntKind.i64 0, AV.sl []]))
theorem E225 (call : FuncId → List AV → M AV) (fx : Fix AV) (a0 a1 : AV) : evBody (pg.cx call Tryz.f225.ntmps ann225) fx Tryz.f225 (own 225) [a0, a1] = S225 call fx a0 a1 := by kernel_rfl
theorem C225 (a0 a1 : AV) : callW pg 225 [a0, a1] = isoP (S225 (callW pg) fixW (cl noHs a0) (cl noHs a1)) := (callW_iso hOther rfl rfl rfl _).trans (congrArg isoP (E225 _ _ (cl noHs a0) (cl noHs a1)))
end Go.Proofs.YteemeakjlfnapaaGreatDoor
