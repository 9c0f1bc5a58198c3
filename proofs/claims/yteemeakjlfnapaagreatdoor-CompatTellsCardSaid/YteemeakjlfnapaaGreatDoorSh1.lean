/- Shallow programs of the functions, part 1: written by a program. No condition. -/
import Derived.Test.YteemeakjlfnapaaGreatDoorAnn
namespace Go.Proofs.YteemeakjlfnapaaGreatDoor
open Go Go.Av
set_option maxRecDepth 100000
noncomputable def S3 (call : FuncId → List AV → M AV) (fx : Fix AV) (a0 a1 a2 a3 a4 a5 : AV) : M AV :=
  bnd (call 14 []) (fun v0 =>
  bnd (lft (loadA T 24 (AV.ip (acells a0)))) (fun v1 =>
  bnd (call 15 [v1]) (fun v2 =>
  bnd (lft (unA UnOp.not v2)) (fun v3 =>
  bnd (guardM v3 false 1 (bnd (lft (loadA T 24 (AV.ip (acells a1)))) (fun v4 =>
  bnd (call 15 [v4]) (fun v5 =>
  bnd (lft (unA UnOp.not v5)) (fun v6 =>
  M.pure [v6]))))) (fun v7 =>
  bnd (lft (pickA v3 (AV.bool true) (nth v7 0))) (fun v8 =>
  bnd (guardM v8 false 1 (bnd (lft (loadA T 27 (AV.ip (acells a2)))) (fun v9 =>
  bnd (call 16 [v9]) (fun v10 =>
  bnd (lft (unA UnOp.not v10)) (fun v11 =>
  M.pure [v11]))))) (fun v12 =>
  bnd (lft (pickA v8 (AV.bool true) (nth v12 0))) (fun v13 =>
  condM v13 (M.pure v0) (bnd (lft (loadA T 24 (AV.ip (acells a0)))) (fun v14 =>
  bnd (lft (loadA T 24 (AV.ip (acells a1)))) (fun v15 =>
  bnd (call 17 [v14, v15]) (fun v16 =>
  bnd (lft (extractA v16 0)) (fun v17 =>
  bnd (lft (extractA v16 1)) (fun v18 =>
  bnd (lft (loadA T 24 (AV.ip (acells a0)))) (fun v19 =>
  bnd (lft (loadA T 24 (AV.ip (acells a1)))) (fun v20 =>
  bnd (call 18 [v19, v20]) (fun v21 =>
  bnd (lft (extractA v21 0)) (fun v22 =>
  bnd (lft (extractA v21 1)) (fun v23 =>
  bnd (lft (loadA T 24 (AV.ip (acells a0)))) (fun v24 =>
  bnd (lft (loadA T 24 (AV.ip (acells a1)))) (fun v25 =>
  bnd (call 19 [v24, v25]) (fun v26 =>
  bnd (lft (extractA v26 0)) (fun v27 =>
  bnd (lft (extractA v26 1)) (fun v28 =>
  bnd (cellsM 9 v27) (fun v29 =>
  bnd (lft (loadA T 24 (AV.ip (acells a0)))) (fun v30 =>
  bnd (lft (loadA T 24 (AV.ip (acells a1)))) (fun v31 =>
  bnd (call 20 [v30, v31]) (fun v32 =>
  bnd (lft (extractA v32 0)) (fun v33 =>
  bnd (lft (extractA v32 1)) (fun v34 =>
  bnd (cellsM 9 v33) (fun v35 =>
  bnd (lft (binA T BinOp.eql 3 v17 v22)) (fun v36 =>
  bnd (guardM v36 true 1 (bnd (lft (binA T BinOp.eql 9 v18 v23)) (fun v37 =>
  M.pure [v37]))) (fun v38 =>
  bnd (lft (pickA v36 (nth v38 0) (AV.bool false))) (fun v39 =>
  bnd (guardM v39 true 1 (bnd (lft (binA T BinOp.eql 4 v28 v34)) (fun v40 =>
  M.pure [v40]))) (fun v41 =>
  bnd (lft (pickA v39 (nth v41 0) (AV.bool false))) (fun v42 =>
  bnd (guardM v42 true 1 (bnd (lft (loadA T 41 (AV.ip (acells v29)))) (fun v43 =>
  bnd (lft (loadA T 41 (AV.ip (acells v35)))) (fun v44 =>
  bnd (call 21 [v43, v44]) (fun v45 =>
  M.pure [v45]))))) (fun v46 =>
  bnd (lft (pickA v42 (nth v46 0) (AV.bool false))) (fun v47 =>
  bnd (guardM v0 true 1 (M.pure [v47])) (fun v48 =>
  bnd (lft (pickA v0 (nth v48 0) (AV.bool false))) (fun v49 =>
  bnd (guardM v49 true 1 (bnd (lft (loadA T 27 (AV.ip (acells a2)))) (fun v50 =>
  bnd (noPan (call 23 [v50])) (fun v51 =>
  bnd (lft (loadA T 27 (AV.ip (acells a2)))) (fun v52 =>
  bnd (noPan (call 24 [v52])) (fun v53 =>
  bnd (noPan (call 22 [v51, v53])) (fun v54 =>
  M.pure [v54]))))))) (fun v55 =>
  bnd (lft (pickA v49 (nth v55 0) (AV.bool false))) (fun v56 =>
  bnd (guardM v56 true 1 (bnd (lft (loadA T 29 (AV.ip (acells a3)))) (fun v57 =>
  bnd (lft (loadA T 29 (AV.ip (acells a4)))) (fun v58 =>
  bnd (noPan (call 25 [v57, v58, a5])) (fun v59 =>
  bnd (lft (loadA T 29 (AV.ip (acells a3)))) (fun v60 =>
  bnd (lft (loadA T 29 (AV.ip (acells a4)))) (fun v61 =>
  bnd (noPan (call 26 [v60, v61, a5])) (fun v62 =>
  bnd (lft (binA T BinOp.eql 4 v59 v62)) (fun v63 =>
  M.pure [v63]))))))))) (fun v64 =>
  bnd (lft (pickA v56 (nth v64 0) (AV.bool false))) (fun v65 =>
  M.pure v65))))))))))))))))))))))))))))))))))))))))))))
theorem E3 (call : FuncId → List AV → M AV) (fx : Fix AV) (a0 a1 a2 a3 a4 a5 : AV) : evBody (pg.cx call Tryz.f3.ntmps ann3) fx Tryz.f3 (own 3) [a0, a1, a2, a3, a4, a5] = S3 call fx a0 a1 a2 a3 a4 a5 := by kernel_rfl
theorem C3 (a0 a1 a2 a3 a4 a5 : AV) : callW pg 3 [a0, a1, a2, a3, a4, a5] = isoP (S3 (callW pg) fixW (cl noHs a0) (cl noHs a1) (cl noHs a2) (cl noHs a3) (cl noHs a4) (cl noHs a5)) := (callW_iso hOther rfl rfl rfl _).trans (congrArg isoP (E3 _ _ (cl noHs a0) (cl noHs a1) (cl noHs a2) (cl noHs a3) (cl noHs a4) (cl noHs a5)))
noncomputable def K20_0 (call : FuncId → List AV → M AV) (fx : Fix AV) (v40 : List AV) : M AV :=
  bnd (lft (fieldAddrA T 56 (nth v40 0) 2)) (fun v41 =>
  bnd (lft (loadA T 27 v41)) (fun v42 =>
  bnd (lft (fieldAddrA T 56 (nth v40 0) 3)) (fun v43 =>
  bnd (lft (loadA T 3 v43)) (fun v44 =>
  bnd (lft (buildA T false 73 [(0, AV.str [109, 97, 105, 110]), (3, v42), (4, v44), (5, AV.agg [nth v40 10, nth v40 11, nth v40 12, nth v40 13, nth v40 14, nth v40 15])])) (fun v45 =>
  bnd (lft (buildSliceA T 37 1 [(0, v45)])) (fun v46 =>
  bnd (cell1M v46) (fun v47 =>
  bnd (cellsNil 9 [] (AV.agg [nth v40 16, nth v40 17, nth v40 18, nth v40 19, v46, nth v40 21, nth v40 22, nth v40 23, nth v40 24])) (fun v48 =>
  M.pure (AV.tup [AV.agg [nth (acells v48) 0, nth (acells v48) 1, nth (acells v48) 2, nth (acells v48) 3, nth (acells v48) 4, nth (acells v48) 5, nth (acells v48) 6, nth (acells v48) 7, nth (acells v48) 8], AV.bool true])))))))))
noncomputable def L20_0 (call : FuncId → List AV → M AV) (fx : Fix AV) (v20 : List AV → M AV) (v21 : List AV) : M AV :=
  bnd (lft (fieldAddrA T 56 (nth v21 1) 1)) (fun v22 =>
  bnd (lft (loadA T 54 v22)) (fun v23 =>
  bnd (lft (lenA T 54 v23)) (fun v24 =>
  bnd (lft (binA T BinOp.lss 3 (nth v21 2) v24)) (fun v25 =>
  condM v25 (bnd (lft (fieldAddrA T 56 (nth v21 1) 1)) (fun v26 =>
  bnd (lft (loadA T 54 v26)) (fun v27 =>
  bnd (lft (indexAddrA T 54 v27 (nth v21 2))) (fun v28 =>
  bnd (lft (loadA T 27 v28)) (fun v29 =>
  bnd (noPan (call 24 [v29])) (fun v30 =>
  bnd (lft (buildSliceA T 36 1 [(0, v30)])) (fun v31 =>
  bnd (lft (appA T 36 (nth v21 17) v31)) (fun v32 =>
  bnd (cell1M v32) (fun v33 =>
  bnd (lft (binA T BinOp.add 3 (nth v21 2) (AV.int IntKind.i64 1))) (fun v34 =>
  v20 [nth v21 0, nth v21 1, v34, nth v21 3, nth v21 4, nth v21 5, nth v21 6, nth v21 7, nth v21 8, nth v21 9, nth v21 10, nth v21 11, nth v21 12, nth v21 13, nth v21 14, nth v21 15, nth v21 16, v32])))))))))) (bnd (lft (fieldAddrA T 24 (nth v21 0) 0)) (fun v35 =>
  bnd (lft (loadA T 9 v35)) (fun v36 =>
  bnd (lft (buildSliceA T 35 1 [(0, v36)])) (fun v37 =>
  bnd (lft (buildA T false 41 [(0, AV.str [99, 108, 105, 101, 110, 116]), (1, v37)])) (fun v38 =>
  bnd (cellsNil 9 [] v38) (fun v39 =>
  jn (K20_0 call fx) (fun v49 =>
  bnd (lft (fieldAddrA T 24 (nth v21 0) 0)) (fun v50 =>
  bnd (lft (loadA T 9 v50)) (fun v51 =>
  bnd (lft (binA T BinOp.eql 9 v51 (AV.str [99, 108, 105, 101, 110, 116]))) (fun v52 =>
  condM v52 (bnd (cell1M (AV.str [109, 97, 105, 110])) (fun v53 =>
  v49 [nth v21 1, nth v21 3, nth v21 4, nth v21 5, nth v21 6, nth v21 7, nth v21 8, nth v21 9, nth v21 10, nth v21 11, nth v21 12, nth v21 13, nth v21 14, nth v21 15, nth v21 16, nth v21 17, v53, nth (acells v39) 1, nth (acells v39) 2, nth (acells v39) 3, nth (acells v39) 4, nth (acells v39) 5, nth (acells v39) 6, nth (acells v39) 7, nth (acells v39) 8])) (v49 [nth v21 1, nth v21 3, nth v21 4, nth v21 5, nth v21 6, nth v21 7, nth v21 8, nth v21 9, nth v21 10, nth v21 11, nth v21 12, nth v21 13, nth v21 14, nth v21 15, nth v21 16, nth v21 17, nth (acells v39) 0, nth (acells v39) 1, nth (acells v39) 2, nth (acells v39) 3, nth (acells v39) 4, nth (acells v39) 5, nth (acells v39) 6, nth (acells v39) 7, nth (acells v39) 8])))))))))))))))
theorem XL20_0 {call : FuncId → List AV → M AV} : Cont1 (L20_0 call fixW ) fun _n => L20_0 call fixW  := by
  intro v20 v20s hself v21
  unfold L20_0
  exact (LimM.bnd (LimM.const _) fun _ => (LimM.bnd (LimM.const _) fun _ => (LimM.bnd (LimM.const _) fun _ => (LimM.bnd (LimM.const _) fun _ => (condM_lim (LimM.bnd (LimM.const _) fun _ => (LimM.bnd (LimM.const _) fun _ => (LimM.bnd (LimM.const _) fun _ => (LimM.bnd (LimM.const _) fun _ => (LimM.bnd (LimM.const _) fun _ => (LimM.bnd (LimM.const _) fun _ => (LimM.bnd (LimM.const _) fun _ => (LimM.bnd (LimM.const _) fun _ => (LimM.bnd (LimM.const _) fun _ => (hself _)))))))))) (LimM.const _))))))
theorem FL20_0 (call : FuncId → List AV → M AV) (vs : List AV) : fixW (L20_0 call fixW ) vs = L20_0 call fixW  (fixW (L20_0 call fixW )) vs := fixW_eq (XL20_0 ) vs
noncomputable def S20 (call : FuncId → List AV → M AV) (fx : Fix AV) (a0 a1 : AV) : M AV :=
  bnd (lft (loadA T 24 (AV.ip (acells a0)))) (fun v0 =>
  bnd (lft (loadA T 24 (AV.ip (acells a1)))) (fun v1 =>
  bnd (call 66 [v0, v1]) (fun v2 =>
  bnd (lft (unA UnOp.not v2)) (fun v3 =>
  condM v3 (bnd (lft (buildA T false 41 [])) (fun v4 =>
  bnd (cellsNil 9 [] v4) (fun v5 =>
  M.pure (AV.tup [AV.agg [nth (acells v5) 0, nth (acells v5) 1, nth (acells v5) 2, nth (acells v5) 3, nth (acells v5) 4, nth (acells v5) 5, nth (acells v5) 6, nth (acells v5) 7, nth (acells v5) 8], AV.bool false])))) (bnd (lft (loadA T 24 (AV.ip (acells a0)))) (fun v6 =>
  bnd (lft (loadA T 24 (AV.ip (acells a1)))) (fun v7 =>
  bnd (call 67 [v6, v7]) (fun v8 =>
  bnd (lft (extractA v8 0)) (fun v9 =>
  bnd (lft (extractA v8 1)) (fun v10 =>
  bnd (cellsM 5 v9) (fun v11 =>
  condM v10 (bnd (lft (buildA T false 41 [])) (fun v12 =>
  bnd (cellsNil 9 [] v12) (fun v13 =>
  M.pure (AV.tup [AV.agg [nth (acells v13) 0, nth (acells v13) 1, nth (acells v13) 2, nth (acells v13) 3, nth (acells v13) 4, nth (acells v13) 5, nth (acells v13) 6, nth (acells v13) 7, nth (acells v13) 8], AV.bool false])))) (bnd (lft (fieldAddrA T 24 (AV.ip (acells a0)) 0)) (fun v14 =>
  bnd (lft (loadA T 9 v14)) (fun v15 =>
  bnd (lft (fieldAddrA T 56 (AV.ip (acells v11)) 0)) (fun v16 =>
  bnd (lft (loadA T 9 v16)) (fun v17 =>
  bnd (lft (buildA T true 47 [(0, AV.int IntKind.i64 15), (3, v15), (2, v17)])) (fun v18 =>
  bnd (cellsNil 6 [5] v18) (fun v19 =>
  fx (L20_0 call fx) [AV.ip (acells a0), AV.ip (acells v11), AV.int IntKind.i64 0, AV.str [], AV.sl [], AV.sl [], AV.sl [], AV.sl [], AV.bool false, AV.sl [], AV.sl [], AV.sl [], nth (acells v19) 0, nth (acells v19) 1, nth (acells v19) 2, nth (acells v19) 3, nth (acells v19) 4, AV.sl []]))))))))))))))))))
theorem E20 (call : FuncId → List AV → M AV) (fx : Fix AV) (a0 a1 : AV) : evBody (pg.cx call Tryz.f20.ntmps ann20) fx Tryz.f20 (own 20) [a0, a1] = S20 call fx a0 a1 := by kernel_rfl
theorem C20 (a0 a1 : AV) : callW pg 20 [a0, a1] = isoP (S20 (callW pg) fixW (cl noHs a0) (cl noHs a1)) := (callW_iso hOther rfl rfl rfl _).trans (congrArg isoP (E20 _ _ (cl noHs a0) (cl noHs a1)))
noncomputable def L24_0 (call : FuncId → List AV → M AV) (fx : Fix AV) (v17 : List AV → M AV) (v18 : List AV) : M AV :=
  bnd (lft (fieldAddrA T 27 (nth v18 0) 1)) (fun v19 =>
  bnd (lft (loadA T 25 v19)) (fun v20 =>
  bnd (lft (lenA T 25 v20)) (fun v21 =>
  bnd (lft (binA T BinOp.lss 3 (nth v18 1) v21)) (fun v22 =>
  condM v22 (bnd (lft (fieldAddrA T 27 (nth v18 0) 1)) (fun v23 =>
  bnd (lft (loadA T 25 v23)) (fun v24 =>
  bnd (lft (indexAddrA T 25 v24 (nth v18 1))) (fun v25 =>
  bnd (lft (fieldAddrA T 76 v25 0)) (fun v26 =>
  bnd (lft (loadA T 9 v26)) (fun v27 =>
  bnd (lft (buildSliceA T 35 1 [(0, v27)])) (fun v28 =>
  bnd (lft (appA T 35 (nth v18 12) v28)) (fun v29 =>
  bnd (cell1M v29) (fun v30 =>
  bnd (lft (fieldAddrA T 27 (nth v18 0) 1)) (fun v31 =>
  bnd (lft (loadA T 25 v31)) (fun v32 =>
  bnd (lft (indexAddrA T 25 v32 (nth v18 1))) (fun v33 =>
  bnd (lft (fieldAddrA T 76 v33 1)) (fun v34 =>
  bnd (lft (loadA T 27 v34)) (fun v35 =>
  bnd (noPan (call 24 [v35])) (fun v36 =>
  bnd (lft (buildSliceA T 36 1 [(0, v36)])) (fun v37 =>
  bnd (lft (appA T 36 (nth v18 13) v37)) (fun v38 =>
  bnd (cell1M v38) (fun v39 =>
  bnd (lft (binA T BinOp.add 3 (nth v18 1) (AV.int IntKind.i64 1))) (fun v40 =>
  v17 [nth v18 0, v40, nth v18 2, nth v18 3, nth v18 4, nth v18 5, nth v18 6, nth v18 7, nth v18 8, nth v18 9, nth v18 10, nth v18 11, v29, v38]))))))))))))))))))) (bnd (cellsNil 6 [] (AV.agg [nth v18 8, nth v18 9, nth v18 10, nth v18 11, nth v18 12, nth v18 13])) (fun v41 =>
  M.pure (AV.agg [nth (acells v41) 0, nth (acells v41) 1, nth (acells v41) 2, nth (acells v41) 3, nth (acells v41) 4, nth (acells v41) 5])))))))
theorem XL24_0 {call : FuncId → List AV → M AV} : Cont1 (L24_0 call fixW ) fun _n => L24_0 call fixW  := by
  intro v17 v17s hself v18
  unfold L24_0
  exact (LimM.bnd (LimM.const _) fun _ => (LimM.bnd (LimM.const _) fun _ => (LimM.bnd (LimM.const _) fun _ => (LimM.bnd (LimM.const _) fun _ => (condM_lim (LimM.bnd (LimM.const _) fun _ => (LimM.bnd (LimM.const _) fun _ => (LimM.bnd (LimM.const _) fun _ => (LimM.bnd (LimM.const _) fun _ => (LimM.bnd (LimM.const _) fun _ => (LimM.bnd (LimM.const _) fun _ => (LimM.bnd (LimM.const _) fun _ => (LimM.bnd (LimM.const _) fun _ => (LimM.bnd (LimM.const _) fun _ => (LimM.bnd (LimM.const _) fun _ => (LimM.bnd (LimM.const _) fun _ => (LimM.bnd (LimM.const _) fun _ => (LimM.bnd (LimM.const _) fun _ => (LimM.bnd (LimM.const _) fun _ => (LimM.bnd (LimM.const _) fun _ => (LimM.bnd (LimM.const _) fun _ => (LimM.bnd (LimM.const _) fun _ => (LimM.bnd (LimM.const _) fun _ => (hself _))))))))))))))))))) (LimM.const _))))))
theorem FL24_0 (call : FuncId → List AV → M AV) (vs : List AV) : fixW (L24_0 call fixW ) vs = L24_0 call fixW  (fixW (L24_0 call fixW )) vs := fixW_eq (XL24_0 ) vs
noncomputable def S24 (call : FuncId → List AV → M AV) (fx : Fix AV) (a0 : AV) : M AV :=
  bnd (lft (loadA T 27 (AV.ip (acells a0)))) (fun v0 =>
  bnd (call 74 [v0]) (fun v1 =>
  bnd (lft (unA UnOp.not v1)) (fun v2 =>
  condM v2 (bnd (lft (buildA T false 47 [])) (fun v3 =>
  bnd (cellsNil 6 [] v3) (fun v4 =>
  M.pure (AV.agg [nth (acells v4) 0, nth (acells v4) 1, nth (acells v4) 2, nth (acells v4) 3, nth (acells v4) 4, nth (acells v4) 5])))) (bnd (lft (fieldAddrA T 27 (AV.ip (acells a0)) 0)) (fun v5 =>
  bnd (lft (loadA T 3 v5)) (fun v6 =>
  bnd (lft (binA T BinOp.eql 3 v6 (AV.int IntKind.i64 1))) (fun v7 =>
  condM v7 (bnd (lft (buildA T false 47 [(0, AV.int IntKind.i64 1)])) (fun v8 =>
  bnd (cellsNil 6 [] v8) (fun v9 =>
  M.pure (AV.agg [nth (acells v9) 0, nth (acells v9) 1, nth (acells v9) 2, nth (acells v9) 3, nth (acells v9) 4, nth (acells v9) 5])))) (bnd (lft (fieldAddrA T 27 (AV.ip (acells a0)) 0)) (fun v10 =>
  bnd (lft (loadA T 3 v10)) (fun v11 =>
  bnd (lft (binA T BinOp.eql 3 v11 (AV.int IntKind.i64 0))) (fun v12 =>
  condM v12 (bnd (lft (buildA T false 47 [(0, AV.int IntKind.i64 0)])) (fun v13 =>
  bnd (cellsNil 6 [] v13) (fun v14 =>
  M.pure (AV.agg [nth (acells v14) 0, nth (acells v14) 1, nth (acells v14) 2, nth (acells v14) 3, nth (acells v14) 4, nth (acells v14) 5])))) (bnd (lft (buildA T true 47 [(0, AV.int IntKind.i64 13)])) (fun v15 =>
  bnd (cellsNil 6 [4, 5] v15) (fun v16 =>
  fx (L24_0 call fx) [AV.ip (acells a0), AV.int IntKind.i64 0, AV.int IntKind.i64 0, AV.int IntKind.i64 0, AV.str [], AV.str [], AV.sl [], AV.sl [], nth (acells v16) 0, nth (acells v16) 1, nth (acells v16) 2, nth (acells v16) 3, AV.sl [], AV.sl []]))))))))))))))
theorem E24 (call : FuncId → List AV → M AV) (fx : Fix AV) (a0 : AV) : evBody (pg.cx call Tryz.f24.ntmps ann24) fx Tryz.f24 (own 24) [a0] = S24 call fx a0 := by kernel_rfl
theorem C24 (a0 : AV) : callW pg 24 [a0] = isoP (S24 (callW pg) fixW (cl noHs a0)) := (callW_iso hOther rfl rfl rfl _).trans (congrArg isoP (E24 _ _ (cl noHs a0)))
noncomputable def L27_0 (call : FuncId → List AV → M AV) (fx : Fix AV) (v13 : List AV → M AV) (v14 : List AV) : M AV :=
  bnd (lft (binA T BinOp.lss 3 (nth v14 3) (nth v14 2))) (fun v15 =>
  condM v15 (bnd (lft (indexAddrA T 22 (nth v14 1) (nth v14 3))) (fun v16 =>
  bnd (lft (loadA T 56 v16)) (fun v17 =>
  bnd (cellsM 5 v17) (fun v18 =>
  bnd (lft (loadA T 56 (AV.ip (acells v18)))) (fun v19 =>
  bnd (noPan (call 77 [v19])) (fun v20 =>
  bnd (lft (unA UnOp.not v20)) (fun v21 =>
  bnd (guardM v21 false 1 (bnd (lft (binA T BinOp.gtr 3 (nth v14 3) (AV.int IntKind.i64 0))) (fun v22 =>
  M.pure [v22]))) (fun v23 =>
  bnd (guardM (nth v23 0) true 1 (bnd (lft (fieldAddrA T 24 (nth v14 0) 1)) (fun v24 =>
  bnd (lft (loadA T 22 v24)) (fun v25 =>
  bnd (lft (binA T BinOp.sub 3 (nth v14 3) (AV.int IntKind.i64 1))) (fun v26 =>
  bnd (lft (indexAddrA T 22 v25 v26)) (fun v27 =>
  bnd (lft (fieldAddrA T 56 v27 0)) (fun v28 =>
  bnd (lft (loadA T 9 v28)) (fun v29 =>
  bnd (lft (fieldAddrA T 56 (AV.ip (acells v18)) 0)) (fun v30 =>
  bnd (lft (loadA T 9 v30)) (fun v31 =>
  bnd (lft (binA T BinOp.geq 9 v29 v31)) (fun v32 =>
  M.pure [v32]))))))))))) (fun v33 =>
  bnd (guardM v21 false 1 (bnd (lft (pickA (nth v23 0) (nth v33 0) (AV.bool false))) (fun v34 =>
  M.pure [v34]))) (fun v35 =>
  bnd (lft (pickA v21 (AV.bool true) (nth v35 0))) (fun v36 =>
  condM v36 (M.pure (AV.bool false)) (bnd (lft (binA T BinOp.add 3 (nth v14 3) (AV.int IntKind.i64 1))) (fun v37 =>
  v13 [nth v14 0, nth v14 1, nth v14 2, v37]))))))))))))) (M.pure (AV.bool true)))
theorem XL27_0 {call : FuncId → List AV → M AV} : Cont1 (L27_0 call fixW ) fun _n => L27_0 call fixW  := by
  intro v13 v13s hself v14
  unfold L27_0
  exact (LimM.bnd (LimM.const _) fun _ => (condM_lim (LimM.bnd (LimM.const _) fun _ => (LimM.bnd (LimM.const _) fun _ => (LimM.bnd (LimM.const _) fun _ => (LimM.bnd (LimM.const _) fun _ => (LimM.bnd (LimM.const _) fun _ => (LimM.bnd (LimM.const _) fun _ => (LimM.bnd (LimM.const _) fun _ => (LimM.bnd (LimM.const _) fun _ => (LimM.bnd (LimM.const _) fun _ => (LimM.bnd (LimM.const _) fun _ => (condM_lim (LimM.const _) (LimM.bnd (LimM.const _) fun _ => (hself _))))))))))))) (LimM.const _)))
theorem FL27_0 (call : FuncId → List AV → M AV) (vs : List AV) : fixW (L27_0 call fixW ) vs = L27_0 call fixW  (fixW (L27_0 call fixW )) vs := fixW_eq (XL27_0 ) vs
noncomputable def S27 (call : FuncId → List AV → M AV) (fx : Fix AV) (a0 : AV) : M AV :=
  bnd (lft (fieldAddrA T 24 (AV.ip (acells a0)) 0)) (fun v0 =>
  bnd (lft (loadA T 9 v0)) (fun v1 =>
  bnd (call 76 [v1]) (fun v2 =>
  bnd (lft (unA UnOp.not v2)) (fun v3 =>
  bnd (guardM v3 false 1 (bnd (lft (fieldAddrA T 24 (AV.ip (acells a0)) 1)) (fun v4 =>
  bnd (lft (loadA T 22 v4)) (fun v5 =>
  bnd (lft (lenA T 22 v5)) (fun v6 =>
  bnd (lft (binA T BinOp.gtr 3 v6 (AV.int IntKind.i64 30))) (fun v7 =>
  M.pure [v7])))))) (fun v8 =>
  bnd (lft (pickA v3 (AV.bool true) (nth v8 0))) (fun v9 =>
  condM v9 (M.pure (AV.bool false)) (bnd (lft (fieldAddrA T 24 (AV.ip (acells a0)) 1)) (fun v10 =>
  bnd (lft (loadA T 22 v10)) (fun v11 =>
  bnd (lft (lenA T 22 v11)) (fun v12 =>
  fx (L27_0 call fx) [AV.ip (acells a0), v11, v12, AV.int IntKind.i64 0]))))))))))
theorem E27 (call : FuncId → List AV → M AV) (fx : Fix AV) (a0 : AV) : evBody (pg.cx call Tryz.f27.ntmps ann27) fx Tryz.f27 (own 27) [a0] = S27 call fx a0 := by kernel_rfl
theorem C27 (a0 : AV) : callW pg 27 [a0] = isoP (S27 (callW pg) fixW (cl noHs a0)) := (callW_iso hOther rfl rfl rfl _).trans (congrArg isoP (E27 _ _ (cl noHs a0)))
noncomputable def S28 (call : FuncId → List AV → M AV) (fx : Fix AV) (a0 a1 : AV) : M AV :=
  bnd (lft (loadA T 29 (AV.ip (acells a0)))) (fun v0 =>
  bnd (call 78 [v0]) (fun v1 =>
  bnd (lft (unA UnOp.not v1)) (fun v2 =>
  bnd (guardM v2 false 1 (bnd (lft (loadA T 29 (AV.ip (acells a1)))) (fun v3 =>
  bnd (call 78 [v3]) (fun v4 =>
  bnd (lft (unA UnOp.not v4)) (fun v5 =>
  M.pure [v5]))))) (fun v6 =>
  bnd (lft (pickA v2 (AV.bool true) (nth v6 0))) (fun v7 =>
  bnd (guardM v7 false 1 (bnd (lft (loadA T 29 (AV.ip (acells a0)))) (fun v8 =>
  bnd (lft (loadA T 29 (AV.ip (acells a1)))) (fun v9 =>
  bnd (call 79 [v8, v9]) (fun v10 =>
  bnd (lft (binA T BinOp.geq 3 v10 (AV.int IntKind.i64 0))) (fun v11 =>
  M.pure [v11])))))) (fun v12 =>
  bnd (lft (pickA v7 (AV.bool true) (nth v12 0))) (fun v13 =>
  condM v13 (M.pure (AV.int IntKind.i64 0)) (bnd (lft (fieldAddrA T 29 (AV.ip (acells a0)) 0)) (fun v14 =>
  bnd (lft (loadA T 3 v14)) (fun v15 =>
  bnd (lft (fieldAddrA T 29 (AV.ip (acells a1)) 0)) (fun v16 =>
  bnd (lft (loadA T 3 v16)) (fun v17 =>
  bnd (lft (binA T BinOp.lss 3 v15 v17)) (fun v18 =>
  condM v18 (M.pure (AV.int IntKind.i64 3)) (bnd (lft (fieldAddrA T 29 (AV.ip (acells a0)) 1)) (fun v19 =>
  bnd (lft (loadA T 3 v19)) (fun v20 =>
  bnd (lft (fieldAddrA T 29 (AV.ip (acells a1)) 1)) (fun v21 =>
  bnd (lft (loadA T 3 v21)) (fun v22 =>
  bnd (lft (binA T BinOp.lss 3 v20 v22)) (fun v23 =>
  condM v23 (M.pure (AV.int IntKind.i64 2)) (M.pure (AV.int IntKind.i64 1)))))))))))))))))))))
theorem E28 (call : FuncId → List AV → M AV) (fx : Fix AV) (a0 a1 : AV) : evBody (pg.cx call Tryz.f28.ntmps ann28) fx Tryz.f28 (own 28) [a0, a1] = S28 call fx a0 a1 := by kernel_rfl
theorem C28 (a0 a1 : AV) : callW pg 28 [a0, a1] = isoP (S28 (callW pg) fixW (cl noHs a0) (cl noHs a1)) := (callW_iso hOther rfl rfl rfl _).trans (congrArg isoP (E28 _ _ (cl noHs a0) (cl noHs a1)))
noncomputable def S56 (call : FuncId → List AV → M AV) (fx : Fix AV) (a0 a1 : AV) : M AV :=
  bnd (lft (loadA T 27 (AV.ip (acells a0)))) (fun v0 =>
  bnd (call 73 [v0]) (fun v1 =>
  bnd (guardM v1 true 1 (bnd (lft (loadA T 27 (AV.ip (acells a1)))) (fun v2 =>
  bnd (call 73 [v2]) (fun v3 =>
  M.pure [v3])))) (fun v4 =>
  bnd (lft (pickA v1 (nth v4 0) (AV.bool false))) (fun v5 =>
  bnd (guardM v5 true 1 (bnd (lft (loadA T 27 (AV.ip (acells a0)))) (fun v6 =>
  bnd (lft (loadA T 27 (AV.ip (acells a1)))) (fun v7 =>
  bnd (call 125 [v6, v7]) (fun v8 =>
  M.pure [v8]))))) (fun v9 =>
  bnd (lft (pickA v5 (nth v9 0) (AV.bool false))) (fun v10 =>
  M.pure v10))))))
theorem E56 (call : FuncId → List AV → M AV) (fx : Fix AV) (a0 a1 : AV) : evBody (pg.cx call Tryz.f56.ntmps ann56) fx Tryz.f56 (own 56) [a0, a1] = S56 call fx a0 a1 := by kernel_rfl
theorem C56 (a0 a1 : AV) : callW pg 56 [a0, a1] = isoP (S56 (callW pg) fixW (cl noHs a0) (cl noHs a1)) := (callW_iso hOther rfl rfl rfl _).trans (congrArg isoP (E56 _ _ (cl noHs a0) (cl noHs a1)))
noncomputable def L61_0 (call : FuncId → List AV → M AV) (fx : Fix AV) (v0 : List AV → M AV) (v1 : List AV) : M AV :=
  bnd (lft (lenA T 54 (nth v1 0))) (fun v2 =>
  bnd (lft (binA T BinOp.lss 3 (nth v1 1) v2)) (fun v3 =>
  condM v3 (bnd (lft (indexAddrA T 54 (nth v1 0) (nth v1 1))) (fun v4 =>
  bnd (lft (loadA T 27 v4)) (fun v5 =>
  bnd (call 16 [v5]) (fun v6 =>
  bnd (lft (unA UnOp.not v6)) (fun v7 =>
  condM v7 (M.pure (AV.bool false)) (bnd (lft (binA T BinOp.add 3 (nth v1 1) (AV.int IntKind.i64 1))) (fun v8 =>
  v0 [nth v1 0, v8]))))))) (M.pure (AV.bool true))))
theorem XL61_0 {call : FuncId → List AV → M AV} : Cont1 (L61_0 call fixW ) fun _n => L61_0 call fixW  := by
  intro v0 v0s hself v1
  unfold L61_0
  exact (LimM.bnd (LimM.const _) fun _ => (LimM.bnd (LimM.const _) fun _ => (condM_lim (LimM.bnd (LimM.const _) fun _ => (LimM.bnd (LimM.const _) fun _ => (LimM.bnd (LimM.const _) fun _ => (LimM.bnd (LimM.const _) fun _ => (condM_lim (LimM.const _) (LimM.bnd (LimM.const _) fun _ => (hself _))))))) (LimM.const _))))
theorem FL61_0 (call : FuncId → List AV → M AV) (vs : List AV) : fixW (L61_0 call fixW ) vs = L61_0 call fixW  (fixW (L61_0 call fixW )) vs := fixW_eq (XL61_0 ) vs
noncomputable def S61 (call : FuncId → List AV → M AV) (fx : Fix AV) (a0 : AV) : M AV :=
  fx (L61_0 call fx) [a0, AV.int IntKind.i64 0]
theorem E61 (call : FuncId → List AV → M AV) (fx : Fix AV) (a0 : AV) : evBody (pg.cx call Tryz.f61.ntmps ann61) fx Tryz.f61 (own 61) [a0] = S61 call fx a0 := by kernel_rfl
theorem C61 (a0 : AV) : callW pg 61 [a0] = isoP (S61 (callW pg) fixW (cl noHs a0)) := (callW_iso hOther rfl rfl rfl _).trans (congrArg isoP (E61 _ _ (cl noHs a0)))
noncomputable def S64 (call : FuncId → List AV → M AV) (fx : Fix AV) (a0 a1 : AV) : M AV :=
  bnd (lft (fieldAddrA T 24 (AV.ip (acells a0)) 0)) (fun v0 =>
  bnd (lft (loadA T 9 v0)) (fun v1 =>
  bnd (lft (fieldAddrA T 24 (AV.ip (acells a1)) 0)) (fun v2 =>
  bnd (lft (loadA T 9 v2)) (fun v3 =>
  bnd (lft (binA T BinOp.eql 9 v1 v3)) (fun v4 =>
  bnd (guardM v4 true 1 (bnd (lft (loadA T 24 (AV.ip (acells a0)))) (fun v5 =>
  bnd (call 27 [v5]) (fun v6 =>
  M.pure [v6])))) (fun v7 =>
  bnd (lft (pickA v4 (nth v7 0) (AV.bool false))) (fun v8 =>
  bnd (guardM v8 true 1 (bnd (lft (loadA T 24 (AV.ip (acells a1)))) (fun v9 =>
  bnd (call 27 [v9]) (fun v10 =>
  M.pure [v10])))) (fun v11 =>
  bnd (lft (pickA v8 (nth v11 0) (AV.bool false))) (fun v12 =>
  M.pure v12)))))))))
theorem E64 (call : FuncId → List AV → M AV) (fx : Fix AV) (a0 a1 : AV) : evBody (pg.cx call Tryz.f64.ntmps ann64) fx Tryz.f64 (own 64) [a0, a1] = S64 call fx a0 a1 := by kernel_rfl
theorem C64 (a0 a1 : AV) : callW pg 64 [a0, a1] = isoP (S64 (callW pg) fixW (cl noHs a0) (cl noHs a1)) := (callW_iso hOther rfl rfl rfl _).trans (congrArg isoP (E64 _ _ (cl noHs a0) (cl noHs a1)))
noncomputable def L70_0 (call : FuncId → List AV → M AV) (fx : Fix AV) (v3 : List AV → M AV) (v4 : List AV) : M AV :=
  bnd (lft (lenA T 25 (nth v4 0))) (fun v5 =>
  bnd (lft (binA T BinOp.lss 3 (nth v4 2) v5)) (fun v6 =>
  condM v6 (bnd (lft (indexAddrA T 25 (nth v4 0) (nth v4 2))) (fun v7 =>
  bnd (lft (fieldAddrA T 76 v7 0)) (fun v8 =>
  bnd (lft (loadA T 9 v8)) (fun v9 =>
  bnd (lft (indexAddrA T 25 (nth v4 1) (nth v4 2))) (fun v10 =>
  bnd (lft (fieldAddrA T 76 v10 0)) (fun v11 =>
  bnd (lft (loadA T 9 v11)) (fun v12 =>
  bnd (lft (binA T BinOp.neq 9 v9 v12)) (fun v13 =>
  bnd (guardM v13 false 1 (bnd (lft (indexAddrA T 25 (nth v4 0) (nth v4 2))) (fun v14 =>
  bnd (lft (fieldAddrA T 76 v14 1)) (fun v15 =>
  bnd (lft (loadA T 27 v15)) (fun v16 =>
  bnd (lft (indexAddrA T 25 (nth v4 1) (nth v4 2))) (fun v17 =>
  bnd (lft (fieldAddrA T 76 v17 1)) (fun v18 =>
  bnd (lft (loadA T 27 v18)) (fun v19 =>
  bnd (noPan (call 142 [v16, v19])) (fun v20 =>
  bnd (lft (unA UnOp.not v20)) (fun v21 =>
  M.pure [v21])))))))))) (fun v22 =>
  bnd (lft (pickA v13 (AV.bool true) (nth v22 0))) (fun v23 =>
  condM v23 (M.pure (AV.bool false)) (bnd (lft (binA T BinOp.add 3 (nth v4 2) (AV.int IntKind.i64 1))) (fun v24 =>
  v3 [nth v4 0, nth v4 1, v24])))))))))))) (M.pure (AV.bool true))))
theorem XL70_0 {call : FuncId → List AV → M AV} : Cont1 (L70_0 call fixW ) fun _n => L70_0 call fixW  := by
  intro v3 v3s hself v4
  unfold L70_0
  exact (LimM.bnd (LimM.const _) fun _ => (LimM.bnd (LimM.const _) fun _ => (condM_lim (LimM.bnd (LimM.const _) fun _ => (LimM.bnd (LimM.const _) fun _ => (LimM.bnd (LimM.const _) fun _ => (LimM.bnd (LimM.const _) fun _ => (LimM.bnd (LimM.const _) fun _ => (LimM.bnd (LimM.const _) fun _ => (LimM.bnd (LimM.const _) fun _ => (LimM.bnd (LimM.const _) fun _ => (LimM.bnd (LimM.const _) fun _ => (condM_lim (LimM.const _) (LimM.bnd (LimM.const _) fun _ => (hself _)))))))))))) (LimM.const _))))
theorem FL70_0 (call : FuncId → List AV → M AV) (vs : List AV) : fixW (L70_0 call fixW ) vs = L70_0 call fixW  (fixW (L70_0 call fixW )) vs := fixW_eq (XL70_0 ) vs
noncomputable def S70 (call : FuncId → List AV → M AV) (fx : Fix AV) (a0 a1 : AV) : M AV :=
  bnd (lft (lenA T 25 a0)) (fun v0 =>
  bnd (lft (lenA T 25 a1)) (fun v1 =>
  bnd (lft (binA T BinOp.neq 3 v0 v1)) (fun v2 =>
  condM v2 (M.pure (AV.bool false)) (fx (L70_0 call fx) [a0, a1, AV.int IntKind.i64 0]))))
theorem E70 (call : FuncId → List AV → M AV) (fx : Fix AV) (a0 a1 : AV) : evBody (pg.cx call Tryz.f70.ntmps ann70) fx Tryz.f70 (own 70) [a0, a1] = S70 call fx a0 a1 := by kernel_rfl
theorem C70 (a0 a1 : AV) : callW pg 70 [a0, a1] = isoP (S70 (callW pg) fixW (cl noHs a0) (cl noHs a1)) := (callW_iso hOther rfl rfl rfl _).trans (congrArg isoP (E70 _ _ (cl noHs a0) (cl noHs a1)))
noncomputable def S76 (call : FuncId → List AV → M AV) (fx : Fix AV) (a0 : AV) : M AV :=
  bnd (call 146 [a0]) (fun v0 =>
  bnd (guardM v0 true 1 (bnd (lft (binA T BinOp.add 9 (AV.str [32]) a0)) (fun v1 =>
  bnd (lft (binA T BinOp.add 9 v1 (AV.str [32]))) (fun v2 =>
  bnd (call 147 [AV.str [32, 97, 110, 100, 32, 98, 97, 99, 107, 32, 98, 111, 111, 108, 32, 99, 108, 111, 99, 107, 32, 101, 108, 115, 101, 32, 102, 97, 108, 115, 101, 32, 102, 105, 108, 101, 115, 32, 102, 110, 32, 102, 111, 114, 119, 97, 114, 100, 32, 103, 101, 116, 32, 105, 102, 32, 105, 110, 32, 105, 110, 116, 32, 108, 101, 116, 32, 109, 111, 100, 117, 108, 101, 32, 109, 111, 118, 101, 32, 110, 101, 116, 32, 110, 111, 116, 32, 111, 114, 32, 112, 117, 98, 32, 115, 101, 99, 114, 101, 116, 115, 32, 115, 101, 116, 32, 116, 104, 101, 110, 32, 116, 114, 117, 101, 32, 117, 115, 101, 32, 118, 97, 114, 32], v2]) (fun v3 =>
  bnd (lft (unA UnOp.not v3)) (fun v4 =>
  M.pure [v4])))))) (fun v5 =>
  bnd (lft (pickA v0 (nth v5 0) (AV.bool false))) (fun v6 =>
  M.pure v6)))
theorem E76 (call : FuncId → List AV → M AV) (fx : Fix AV) (a0 : AV) : evBody (pg.cx call Tryz.f76.ntmps ann76) fx Tryz.f76 (own 76) [a0] = S76 call fx a0 := by kernel_rfl
theorem C76 (a0 : AV) : callW pg 76 [a0] = isoP (S76 (callW pg) fixW (cl noHs a0)) := (callW_iso hOther rfl rfl rfl _).trans (congrArg isoP (E76 _ _ (cl noHs a0)))
noncomputable def L104_0 (call : FuncId → List AV → M AV) (fx : Fix AV) (v4 : List AV → M AV) (v5 : List AV) : M AV :=
  bnd (lft (binA T BinOp.lss 3 (nth v5 2) (nth v5 1))) (fun v6 =>
  condM v6 (bnd (lft (indexAddrA T 25 (nth v5 0) (nth v5 2))) (fun v7 =>
  bnd (loadH T 76 v7) (fun v8 =>
  bnd (cellsM 3 v8) (fun v9 =>
  bnd (lft (fieldAddrA T 76 (AV.ip (acells v9)) 1)) (fun v10 =>
  bnd (lft (loadA T 27 v10)) (fun v11 =>
  bnd (noPan (call 104 [v11])) (fun v12 =>
  bnd (lft (indexAddrA T 25 (nth v5 4) (nth v5 2))) (fun v13 =>
  bnd (lft (fieldAddrA T 76 v13 1)) (fun v14 =>
  bnd (storeH T 27 v14 v12) (fun v15 =>
  bnd (lft (binA T BinOp.add 3 (nth v5 2) (AV.int IntKind.i64 1))) (fun v16 =>
  v4 [nth v5 0, nth v5 1, v16, nth v5 3, nth v5 4, nth v5 5, nth v5 6]))))))))))) (bnd (cellsNil 2 [] (AV.agg [nth v5 3, nth v5 4])) (fun v17 =>
  M.pure (AV.agg [nth (acells v17) 0, nth (acells v17) 1]))))
theorem XL104_0 {call : FuncId → List AV → M AV} : Cont1 (L104_0 call fixW ) fun _n => L104_0 call fixW  := by
  intro v4 v4s hself v5
  unfold L104_0
  exact (LimM.bnd (LimM.const _) fun _ => (condM_lim (LimM.bnd (LimM.const _) fun _ => (LimM.bnd (LimM.const _) fun _ => (LimM.bnd (LimM.const _) fun _ => (LimM.bnd (LimM.const _) fun _ => (LimM.bnd (LimM.const _) fun _ => (LimM.bnd (LimM.const _) fun _ => (LimM.bnd (LimM.const _) fun _ => (LimM.bnd (LimM.const _) fun _ => (LimM.bnd (LimM.const _) fun _ => (LimM.bnd (LimM.const _) fun _ => (hself _))))))))))) (LimM.const _)))
theorem FL104_0 (call : FuncId → List AV → M AV) (vs : List AV) : fixW (L104_0 call fixW ) vs = L104_0 call fixW  (fixW (L104_0 call fixW )) vs := fixW_eq (XL104_0 ) vs
noncomputable def S104 (call : FuncId → List AV → M AV) (fx : Fix AV) (a0 : AV) : M AV :=
  bnd (cellsM 2 a0) (fun v0 =>
  bnd (call 163 [nth (acells v0) 1]) (fun v1 =>
  bnd (cell1M v1) (fun v2 =>
  bnd (lft (lenA T 25 v1)) (fun v3 =>
  fx (L104_0 call fx) [v1, v3, AV.int IntKind.i64 0, nth (acells v0) 0, v1, AV.int IntKind.i64 0, AV.sl []]))))
theorem E104 (call : FuncId → List AV → M AV) (fx : Fix AV) (a0 : AV) : evBody (pg.cx call Tryz.f104.ntmps ann104) fx Tryz.f104 (own 104) [a0] = S104 call fx a0 := by kernel_rfl
theorem C104 (a0 : AV) : callW pg 104 [a0] = isoP (S104 (callW pg) fixW (cl noHs a0)) := (callW_iso hOther rfl rfl rfl _).trans (congrArg isoP (E104 _ _ (cl noHs a0)))
noncomputable def L116_0 (call : FuncId → List AV → M AV) (fx : Fix AV) (v32 : List AV → M AV) (v33 : List AV) : M AV :=
  bnd (lft (binA T BinOp.lss 3 (nth v33 4) (nth v33 3))) (fun v34 =>
  condM v34 (bnd (lft (indexAddrA T 25 (nth v33 2) (nth v33 4))) (fun v35 =>
  bnd (lft (loadA T 76 v35)) (fun v36 =>
  bnd (cellsM 3 v36) (fun v37 =>
  bnd (lft (fieldAddrA T 76 (AV.ip (acells v37)) 0)) (fun v38 =>
  bnd (lft (loadA T 9 v38)) (fun v39 =>
  bnd (noPan (call 76 [v39])) (fun v40 =>
  bnd (lft (unA UnOp.not v40)) (fun v41 =>
  bnd (guardM v41 false 1 (bnd (lft (binA T BinOp.gtr 3 (nth v33 4) (AV.int IntKind.i64 0))) (fun v42 =>
  M.pure [v42]))) (fun v43 =>
  bnd (guardM (nth v43 0) true 1 (bnd (lft (fieldAddrA T 76 (AV.ip (acells v37)) 0)) (fun v44 =>
  bnd (lft (loadA T 9 v44)) (fun v45 =>
  bnd (lft (fieldAddrA T 27 (nth v33 1) 1)) (fun v46 =>
  bnd (lft (loadA T 25 v46)) (fun v47 =>
  bnd (lft (binA T BinOp.sub 3 (nth v33 4) (AV.int IntKind.i64 1))) (fun v48 =>
  bnd (lft (indexAddrA T 25 v47 v48)) (fun v49 =>
  bnd (lft (fieldAddrA T 76 v49 0)) (fun v50 =>
  bnd (lft (loadA T 9 v50)) (fun v51 =>
  bnd (lft (binA T BinOp.leq 9 v45 v51)) (fun v52 =>
  M.pure [v52]))))))))))) (fun v53 =>
  bnd (guardM v41 false 1 (bnd (lft (pickA (nth v43 0) (nth v53 0) (AV.bool false))) (fun v54 =>
  M.pure [v54]))) (fun v55 =>
  bnd (lft (pickA v41 (AV.bool true) (nth v55 0))) (fun v56 =>
  bnd (guardM v56 false 1 (bnd (lft (fieldAddrA T 76 (AV.ip (acells v37)) 1)) (fun v57 =>
  bnd (lft (loadA T 27 v57)) (fun v58 =>
  bnd (lft (binA T BinOp.sub 3 (nth v33 0) (AV.int IntKind.i64 1))) (fun v59 =>
  bnd (noPan (call 116 [v58, v59])) (fun v60 =>
  bnd (lft (unA UnOp.not v60)) (fun v61 =>
  M.pure [v61]))))))) (fun v62 =>
  bnd (lft (pickA v56 (AV.bool true) (nth v62 0))) (fun v63 =>
  condM v63 (M.pure (AV.bool false)) (bnd (lft (binA T BinOp.add 3 (nth v33 4) (AV.int IntKind.i64 1))) (fun v64 =>
  v32 [nth v33 0, nth v33 1, nth v33 2, nth v33 3, v64])))))))))))))))) (M.pure (AV.bool true)))
theorem XL116_0 {call : FuncId → List AV → M AV} : Cont1 (L116_0 call fixW ) fun _n => L116_0 call fixW  := by
  intro v32 v32s hself v33
  unfold L116_0
  exact (LimM.bnd (LimM.const _) fun _ => (condM_lim (LimM.bnd (LimM.const _) fun _ => (LimM.bnd (LimM.const _) fun _ => (LimM.bnd (LimM.const _) fun _ => (LimM.bnd (LimM.const _) fun _ => (LimM.bnd (LimM.const _) fun _ => (LimM.bnd (LimM.const _) fun _ => (LimM.bnd (LimM.const _) fun _ => (LimM.bnd (LimM.const _) fun _ => (LimM.bnd (LimM.const _) fun _ => (LimM.bnd (LimM.const _) fun _ => (LimM.bnd (LimM.const _) fun _ => (LimM.bnd (LimM.const _) fun _ => (LimM.bnd (LimM.const _) fun _ => (condM_lim (LimM.const _) (LimM.bnd (LimM.const _) fun _ => (hself _)))))))))))))))) (LimM.const _)))
theorem FL116_0 (call : FuncId → List AV → M AV) (vs : List AV) : fixW (L116_0 call fixW ) vs = L116_0 call fixW  (fixW (L116_0 call fixW )) vs := fixW_eq (XL116_0 ) vs
noncomputable def S116 (call : FuncId → List AV → M AV) (fx : Fix AV) (a0 a1 : AV) : M AV :=
  bnd (lft (binA T BinOp.eql 3 a1 (AV.int IntKind.i64 0))) (fun v0 =>
  bnd (guardM v0 false 1 (bnd (lft (fieldAddrA T 27 (AV.ip (acells a0)) 0)) (fun v1 =>
  bnd (lft (loadA T 3 v1)) (fun v2 =>
  bnd (lft (binA T BinOp.lss 3 v2 (AV.int IntKind.i64 0))) (fun v3 =>
  M.pure [v3]))))) (fun v4 =>
  bnd (lft (pickA v0 (AV.bool true) (nth v4 0))) (fun v5 =>
  bnd (guardM v5 false 1 (bnd (lft (fieldAddrA T 27 (AV.ip (acells a0)) 0)) (fun v6 =>
  bnd (lft (loadA T 3 v6)) (fun v7 =>
  bnd (lft (binA T BinOp.geq 3 v7 (AV.int IntKind.i64 3))) (fun v8 =>
  M.pure [v8]))))) (fun v9 =>
  bnd (lft (pickA v5 (AV.bool true) (nth v9 0))) (fun v10 =>
  bnd (guardM v10 false 1 (bnd (lft (fieldAddrA T 27 (AV.ip (acells a0)) 1)) (fun v11 =>
  bnd (lft (loadA T 25 v11)) (fun v12 =>
  bnd (lft (lenA T 25 v12)) (fun v13 =>
  bnd (lft (binA T BinOp.gtr 3 v13 (AV.int IntKind.i64 8))) (fun v14 =>
  M.pure [v14])))))) (fun v15 =>
  bnd (lft (pickA v10 (AV.bool true) (nth v15 0))) (fun v16 =>
  bnd (guardM v16 false 1 (bnd (lft (fieldAddrA T 27 (AV.ip (acells a0)) 0)) (fun v17 =>
  bnd (lft (loadA T 3 v17)) (fun v18 =>
  bnd (lft (binA T BinOp.neq 3 v18 (AV.int IntKind.i64 2))) (fun v19 =>
  M.pure [v19]))))) (fun v20 =>
  bnd (guardM (nth v20 0) true 1 (bnd (lft (fieldAddrA T 27 (AV.ip (acells a0)) 1)) (fun v21 =>
  bnd (lft (loadA T 25 v21)) (fun v22 =>
  bnd (lft (lenA T 25 v22)) (fun v23 =>
  bnd (lft (binA T BinOp.gtr 3 v23 (AV.int IntKind.i64 0))) (fun v24 =>
  M.pure [v24])))))) (fun v25 =>
  bnd (guardM v16 false 1 (bnd (lft (pickA (nth v20 0) (nth v25 0) (AV.bool false))) (fun v26 =>
  M.pure [v26]))) (fun v27 =>
  bnd (lft (pickA v16 (AV.bool true) (nth v27 0))) (fun v28 =>
  condM v28 (M.pure (AV.bool false)) (bnd (lft (fieldAddrA T 27 (AV.ip (acells a0)) 1)) (fun v29 =>
  bnd (lft (loadA T 25 v29)) (fun v30 =>
  bnd (lft (lenA T 25 v30)) (fun v31 =>
  fx (L116_0 call fx) [a1, AV.ip (acells a0), v30, v31, AV.int IntKind.i64 0])))))))))))))))
theorem E116 (call : FuncId → List AV → M AV) (fx : Fix AV) (a0 a1 : AV) : evBody (pg.cx call Tryz.f116.ntmps ann116) fx Tryz.f116 (own 116) [a0, a1] = S116 call fx a0 a1 := by kernel_rfl
theorem C116 (a0 a1 : AV) : callW pg 116 [a0, a1] = isoP (S116 (callW pg) fixW (cl noHs a0) (cl noHs a1)) := (callW_iso hOther rfl rfl rfl _).trans (congrArg isoP (E116 _ _ (cl noHs a0) (cl noHs a1)))
noncomputable def S125 (call : FuncId → List AV → M AV) (fx : Fix AV) (a0 a1 : AV) : M AV :=
  bnd (lft (fieldAddrA T 27 (AV.ip (acells a0)) 0)) (fun v0 =>
  bnd (lft (loadA T 3 v0)) (fun v1 =>
  bnd (lft (fieldAddrA T 27 (AV.ip (acells a1)) 0)) (fun v2 =>
  bnd (lft (loadA T 3 v2)) (fun v3 =>
  bnd (lft (binA T BinOp.eql 3 v1 v3)) (fun v4 =>
  bnd (guardM v4 true 1 (bnd (lft (fieldAddrA T 27 (AV.ip (acells a1)) 1)) (fun v5 =>
  bnd (lft (loadA T 25 v5)) (fun v6 =>
  bnd (call 131 [v6, AV.fn (Fn.func 186) [] [AV.ip (acells a0)]]) (fun v7 =>
  bnd (lft (unA UnOp.not v7)) (fun v8 =>
  M.pure [v8])))))) (fun v9 =>
  bnd (lft (pickA v4 (nth v9 0) (AV.bool false))) (fun v10 =>
  M.pure v10)))))))
theorem E125 (call : FuncId → List AV → M AV) (fx : Fix AV) (a0 a1 : AV) : evBody (pg.cx call Tryz.f125.ntmps ann125) fx Tryz.f125 (own 125) [a0, a1] = S125 call fx a0 a1 := by kernel_rfl
theorem C125 (a0 a1 : AV) : callW pg 125 [a0, a1] = isoP (S125 (callW pg) fixW (cl noHs a0) (cl noHs a1)) := (callW_iso hOther rfl rfl rfl _).trans (congrArg isoP (E125 _ _ (cl noHs a0) (cl noHs a1)))
noncomputable def S131 (call : FuncId → List AV → M AV) (fx : Fix AV) (a0 a1 : AV) : M AV :=
  bnd (call 189 [a0, a1]) (fun v0 =>
  bnd (lft (binA T BinOp.geq 3 v0 (AV.int IntKind.i64 0))) (fun v1 =>
  M.pure v1))
theorem E131 (call : FuncId → List AV → M AV) (fx : Fix AV) (a0 a1 : AV) : evBody (pg.cx call Tryz.f131.ntmps ann131) fx Tryz.f131 (own 131) [a0, a1] = S131 call fx a0 a1 := by kernel_rfl
theorem C131 (a0 a1 : AV) : callW pg 131 [a0, a1] = isoP (S131 (callW pg) fixW (cl noHs a0) (cl noHs a1)) := (callW_iso hOther rfl rfl rfl _).trans (congrArg isoP (E131 _ _ (cl noHs a0) (cl noHs a1)))
noncomputable def L150_0 (call : FuncId → List AV → M AV) (fx : Fix AV) (v1 : List AV → M AV) (v2 : List AV) : M AV :=
  bnd (lft (binA T BinOp.lss 3 (nth v2 3) (nth v2 2))) (fun v3 =>
  condM v3 (bnd (lft (indexAddrA T 196 (nth v2 1) (nth v2 3))) (fun v4 =>
  bnd (lft (loadA T 3 v4)) (fun v5 =>
  bnd (lft (binA T BinOp.neq 3 v5 (nth v2 0))) (fun v6 =>
  condM v6 (M.pure v5) (bnd (lft (binA T BinOp.add 3 (nth v2 3) (AV.int IntKind.i64 1))) (fun v7 =>
  v1 [nth v2 0, nth v2 1, nth v2 2, v7])))))) (M.pure (nth v2 0)))
theorem XL150_0 {call : FuncId → List AV → M AV} : Cont1 (L150_0 call fixW ) fun _n => L150_0 call fixW  := by
  intro v1 v1s hself v2
  unfold L150_0
  exact (LimM.bnd (LimM.const _) fun _ => (condM_lim (LimM.bnd (LimM.const _) fun _ => (LimM.bnd (LimM.const _) fun _ => (LimM.bnd (LimM.const _) fun _ => (condM_lim (LimM.const _) (LimM.bnd (LimM.const _) fun _ => (hself _)))))) (LimM.const _)))
theorem FL150_0 (call : FuncId → List AV → M AV) (vs : List AV) : fixW (L150_0 call fixW ) vs = L150_0 call fixW  (fixW (L150_0 call fixW )) vs := fixW_eq (XL150_0 ) vs
noncomputable def S150 (call : FuncId → List AV → M AV) (fx : Fix AV) (a0 : AV) : M AV :=
  bnd (lft (lenA T 196 a0)) (fun v0 =>
  fx (L150_0 call fx) [AV.int IntKind.i64 0, a0, v0, AV.int IntKind.i64 0])
theorem E150 (call : FuncId → List AV → M AV) (fx : Fix AV) (a0 : AV) : evBody (pg.cx call Tryz.f150.ntmps ann150) fx Tryz.f150 (own 150) [a0] = S150 call fx a0 := by kernel_rfl
theorem C150 (a0 : AV) : callW pg 150 [a0] = isoP (S150 (callW pg) fixW (cl noHs a0)) := (callW_iso hOther rfl rfl rfl _).trans (congrArg isoP (E150 _ _ (cl noHs a0)))
noncomputable def S186 (call : FuncId → List AV → M AV) (fx : Fix AV) (a0 a1 : AV) : M AV :=
  bnd (lft (fieldAddrA T 27 a1 1)) (fun v0 =>
  bnd (lft (loadA T 25 v0)) (fun v1 =>
  bnd (lft (fieldAddrA T 76 (AV.ip (acells a0)) 0)) (fun v2 =>
  bnd (lft (loadA T 9 v2)) (fun v3 =>
  bnd (call 181 [v1, v3]) (fun v4 =>
  bnd (lft (extractA v4 0)) (fun v5 =>
  bnd (lft (extractA v4 1)) (fun v6 =>
  bnd (cellsM 2 v5) (fun v7 =>
  bnd (lft (unA UnOp.not v6)) (fun v8 =>
  bnd (guardM v8 false 1 (bnd (lft (loadA T 27 (AV.ip (acells v7)))) (fun v9 =>
  bnd (lft (fieldAddrA T 76 (AV.ip (acells a0)) 1)) (fun v10 =>
  bnd (lft (loadA T 27 v10)) (fun v11 =>
  bnd (call 125 [v9, v11]) (fun v12 =>
  bnd (lft (unA UnOp.not v12)) (fun v13 =>
  M.pure [v13]))))))) (fun v14 =>
  bnd (lft (pickA v8 (AV.bool true) (nth v14 0))) (fun v15 =>
  M.pure v15)))))))))))
theorem E186 (call : FuncId → List AV → M AV) (fx : Fix AV) (a0 a1 : AV) : evBody (pg.cx call Tryz.f186.ntmps ann186) fx Tryz.f186 (own 186) [a0, a1] = S186 call fx a0 a1 := by kernel_rfl
theorem C186 (a0 a1 : AV) : callW pg 186 [a0, a1] = isoP (S186 (callW pg) fixW (cl noHs a0) (cl noHs a1)) := (callW_iso hOther rfl rfl rfl _).trans (congrArg isoP (E186 _ _ (cl noHs a0) (cl noHs a1)))
noncomputable def L189_0 (call : FuncId → List AV → M AV) (fx : Fix AV) (v1 : List AV → M AV) (v2 : List AV) : M AV :=
  bnd (lft (binA T BinOp.lss 3 (nth v2 3) (nth v2 2))) (fun v3 =>
  condM v3 (bnd (lft (indexAddrA T 25 (nth v2 0) (nth v2 3))) (fun v4 =>
  bnd (lft (loadA T 76 v4)) (fun v5 =>
  bnd (callV call (nth v2 1) [v5]) (fun v6 =>
  condM v6 (M.pure (nth v2 3)) (bnd (lft (binA T BinOp.add 3 (nth v2 3) (AV.int IntKind.i64 1))) (fun v7 =>
  v1 [nth v2 0, nth v2 1, nth v2 2, v7])))))) (M.pure (AV.int IntKind.i64 (-1))))
theorem XL189_0 {call : FuncId → List AV → M AV} : Cont1 (L189_0 call fixW ) fun _n => L189_0 call fixW  := by
  intro v1 v1s hself v2
  unfold L189_0
  exact (LimM.bnd (LimM.const _) fun _ => (condM_lim (LimM.bnd (LimM.const _) fun _ => (LimM.bnd (LimM.const _) fun _ => (LimM.bnd (LimM.const _) fun _ => (condM_lim (LimM.const _) (LimM.bnd (LimM.const _) fun _ => (hself _)))))) (LimM.const _)))
theorem FL189_0 (call : FuncId → List AV → M AV) (vs : List AV) : fixW (L189_0 call fixW ) vs = L189_0 call fixW  (fixW (L189_0 call fixW )) vs := fixW_eq (XL189_0 ) vs
noncomputable def S189 (call : FuncId → List AV → M AV) (fx : Fix AV) (a0 a1 : AV) : M AV :=
  bnd (lft (lenA T 25 a0)) (fun v0 =>
  fx (L189_0 call fx) [a0, a1, v0, AV.int IntKind.i64 0])
theorem E189 (call : FuncId → List AV → M AV) (fx : Fix AV) (a0 a1 : AV) : evBody (pg.cx call Tryz.f189.ntmps ann189) fx Tryz.f189 (own 189) [a0, a1] = S189 call fx a0 a1 := by kernel_rfl
theorem C189 (a0 a1 : AV) : callW pg 189 [a0, a1] = isoP (S189 (callW pg) fixW (cl noHs a0) (cl noHs a1)) := (callW_iso hOther rfl rfl rfl _).trans (congrArg isoP (E189 _ _ (cl noHs a0) (cl noHs a1)))
noncomputable def L196_0 (call : FuncId → List AV → M AV) (fx : Fix AV) (v0 : List AV → M AV) (v1 : List AV) : M AV :=
  bnd (lft (lenA T 35 (nth v1 0))) (fun v2 =>
  bnd (lft (binA T BinOp.lss 3 (nth v1 1) v2)) (fun v3 =>
  condM v3 (bnd (lft (indexAddrA T 35 (nth v1 0) (nth v1 1))) (fun v4 =>
  bnd (lft (loadA T 9 v4)) (fun v5 =>
  bnd (noPan (call 106 [v5])) (fun v6 =>
  bnd (lft (unA UnOp.not v6)) (fun v7 =>
  bnd (guardM v7 false 1 (bnd (lft (binA T BinOp.gtr 3 (nth v1 1) (AV.int IntKind.i64 0))) (fun v8 =>
  M.pure [v8]))) (fun v9 =>
  bnd (guardM (nth v9 0) true 1 (bnd (lft (binA T BinOp.sub 3 (nth v1 1) (AV.int IntKind.i64 1))) (fun v10 =>
  bnd (lft (indexAddrA T 35 (nth v1 0) v10)) (fun v11 =>
  bnd (lft (loadA T 9 v11)) (fun v12 =>
  bnd (lft (indexAddrA T 35 (nth v1 0) (nth v1 1))) (fun v13 =>
  bnd (lft (loadA T 9 v13)) (fun v14 =>
  bnd (lft (binA T BinOp.geq 9 v12 v14)) (fun v15 =>
  M.pure [v15])))))))) (fun v16 =>
  bnd (guardM v7 false 1 (bnd (lft (pickA (nth v9 0) (nth v16 0) (AV.bool false))) (fun v17 =>
  M.pure [v17]))) (fun v18 =>
  bnd (lft (pickA v7 (AV.bool true) (nth v18 0))) (fun v19 =>
  condM v19 (M.pure (AV.bool false)) (bnd (lft (binA T BinOp.add 3 (nth v1 1) (AV.int IntKind.i64 1))) (fun v20 =>
  v0 [nth v1 0, v20]))))))))))) (M.pure (AV.bool true))))
theorem XL196_0 {call : FuncId → List AV → M AV} : Cont1 (L196_0 call fixW ) fun _n => L196_0 call fixW  := by
  intro v0 v0s hself v1
  unfold L196_0
  exact (LimM.bnd (LimM.const _) fun _ => (LimM.bnd (LimM.const _) fun _ => (condM_lim (LimM.bnd (LimM.const _) fun _ => (LimM.bnd (LimM.const _) fun _ => (LimM.bnd (LimM.const _) fun _ => (LimM.bnd (LimM.const _) fun _ => (LimM.bnd (LimM.const _) fun _ => (LimM.bnd (LimM.const _) fun _ => (LimM.bnd (LimM.const _) fun _ => (LimM.bnd (LimM.const _) fun _ => (condM_lim (LimM.const _) (LimM.bnd (LimM.const _) fun _ => (hself _))))))))))) (LimM.const _))))
theorem FL196_0 (call : FuncId → List AV → M AV) (vs : List AV) : fixW (L196_0 call fixW ) vs = L196_0 call fixW  (fixW (L196_0 call fixW )) vs := fixW_eq (XL196_0 ) vs
noncomputable def S196 (call : FuncId → List AV → M AV) (fx : Fix AV) (a0 : AV) : M AV :=
  fx (L196_0 call fx) [a0, AV.int IntKind.i64 0]
theorem E196 (call : FuncId → List AV → M AV) (fx : Fix AV) (a0 : AV) : evBody (pg.cx call Tryz.f196.ntmps ann196) fx Tryz.f196 (own 196) [a0] = S196 call fx a0 := by kernel_rfl
theorem C196 (a0 : AV) : callW pg 196 [a0] = isoP (S196 (callW pg) fixW (cl noHs a0)) := (callW_iso hOther rfl rfl rfl _).trans (congrArg isoP (E196 _ _ (cl noHs a0)))
noncomputable def S202 (call : FuncId → List AV → M AV) (fx : Fix AV) (a0 : AV) : M AV :=
  bnd (lft (binA T BinOp.geq 5 a0 (AV.int IntKind.u8 48))) (fun v0 =>
  bnd (guardM v0 true 1 (bnd (lft (binA T BinOp.leq 5 a0 (AV.int IntKind.u8 57))) (fun v1 =>
  M.pure [v1]))) (fun v2 =>
  bnd (lft (pickA v0 (nth v2 0) (AV.bool false))) (fun v3 =>
  M.pure v3)))
theorem E202 (call : FuncId → List AV → M AV) (fx : Fix AV) (a0 : AV) : evBody (pg.cx call Tryz.f202.ntmps ann202) fx Tryz.f202 (own 202) [a0] = S202 call fx a0 := by kernel_rfl
theorem C202 (a0 : AV) : callW pg 202 [a0] = isoP (S202 (callW pg) fixW (cl noHs a0)) := (callW_iso hOther rfl rfl rfl _).trans (congrArg isoP (E202 _ _ (cl noHs a0)))
end Go.Proofs.YteemeakjlfnapaaGreatDoor
