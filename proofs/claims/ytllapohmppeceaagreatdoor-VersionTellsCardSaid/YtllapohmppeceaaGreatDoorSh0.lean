/- Shallow programs of the functions, part 0: written by a program. No condition. -/
import Derived.Test.YtllapohmppeceaaGreatDoorAnn
namespace Go.Proofs.YtllapohmppeceaaGreatDoor
open Go Go.Av
set_option maxRecDepth 100000
noncomputable def S4 (call : FuncId → List AV → M AV) (fx : Fix AV) : M AV :=
  bnd (call 5 [AV.str [49, 46, 48, 50, 46, 51]]) (fun v0 =>
  bnd (lft (extractA v0 0)) (fun v1 =>
  bnd (lft (extractA v0 1)) (fun v2 =>
  bnd (cellsM 3 v1) (fun v3 =>
  bnd (call 5 [AV.str [49, 46, 50]]) (fun v4 =>
  bnd (lft (extractA v4 0)) (fun v5 =>
  bnd (lft (extractA v4 1)) (fun v6 =>
  bnd (cellsM 3 v5) (fun v7 =>
  bnd (call 5 [AV.str [49, 46, 50, 46, 51]]) (fun v8 =>
  bnd (lft (extractA v8 0)) (fun v9 =>
  bnd (lft (extractA v8 1)) (fun v10 =>
  bnd (cellsM 3 v9) (fun v11 =>
  bnd (call 27 [AV.int IntKind.i64 1, AV.int IntKind.i64 0, AV.int IntKind.i64 0]) (fun v12 =>
  bnd (call 27 [AV.int IntKind.i64 2, AV.int IntKind.i64 0, AV.int IntKind.i64 0]) (fun v13 =>
  bnd (call 26 [v12, v13]) (fun v14 =>
  bnd (call 27 [AV.int IntKind.i64 2, AV.int IntKind.i64 0, AV.int IntKind.i64 0]) (fun v15 =>
  bnd (call 27 [AV.int IntKind.i64 3, AV.int IntKind.i64 0, AV.int IntKind.i64 0]) (fun v16 =>
  bnd (call 26 [v15, v16]) (fun v17 =>
  bnd (call 27 [AV.int IntKind.i64 5, AV.int IntKind.i64 0, AV.int IntKind.i64 0]) (fun v18 =>
  bnd (call 27 [AV.int IntKind.i64 4, AV.int IntKind.i64 0, AV.int IntKind.i64 0]) (fun v19 =>
  bnd (call 26 [v18, v19]) (fun v20 =>
  bnd (lft (buildSliceA T 24 3 [(0, v14), (1, v17), (2, v20)])) (fun v21 =>
  bnd (call 20 [v21]) (fun v22 =>
  bnd (call 27 [AV.int IntKind.i64 1, AV.int IntKind.i64 0, AV.int IntKind.i64 0]) (fun v23 =>
  bnd (call 27 [AV.int IntKind.i64 3, AV.int IntKind.i64 0, AV.int IntKind.i64 0]) (fun v24 =>
  bnd (call 26 [v23, v24]) (fun v25 =>
  bnd (lft (buildSliceA T 24 1 [(0, v25)])) (fun v26 =>
  bnd (call 27 [AV.int IntKind.i64 1, AV.int IntKind.i64 5, AV.int IntKind.i64 0]) (fun v27 =>
  bnd (call 27 [AV.int IntKind.i64 2, AV.int IntKind.i64 0, AV.int IntKind.i64 0]) (fun v28 =>
  bnd (call 26 [v27, v28]) (fun v29 =>
  bnd (lft (buildSliceA T 24 1 [(0, v29)])) (fun v30 =>
  bnd (call 25 [v26, v30]) (fun v31 =>
  bnd (call 27 [AV.int IntKind.i64 1, AV.int IntKind.i64 4, AV.int IntKind.i64 0]) (fun v32 =>
  bnd (call 27 [AV.int IntKind.i64 2, AV.int IntKind.i64 1, AV.int IntKind.i64 0]) (fun v33 =>
  bnd (call 26 [v32, v33]) (fun v34 =>
  bnd (lft (buildSliceA T 24 1 [(0, v34)])) (fun v35 =>
  bnd (call 24 [v31, v35]) (fun v36 =>
  bnd (call 27 [AV.int IntKind.i64 1, AV.int IntKind.i64 0, AV.int IntKind.i64 0]) (fun v37 =>
  bnd (call 27 [AV.int IntKind.i64 2, AV.int IntKind.i64 9, AV.int IntKind.i64 9]) (fun v38 =>
  bnd (call 27 [AV.int IntKind.i64 3, AV.int IntKind.i64 0, AV.int IntKind.i64 0]) (fun v39 =>
  bnd (lft (buildSliceA T 25 3 [(0, v37), (1, v38), (2, v39)])) (fun v40 =>
  bnd (call 7 [v40, v26]) (fun v41 =>
  bnd (lft (extractA v41 0)) (fun v42 =>
  bnd (lft (extractA v41 1)) (fun v43 =>
  bnd (cellsM 3 v42) (fun v44 =>
  bnd (noPan (call 27 [AV.int IntKind.i64 1, AV.int IntKind.i64 2, AV.int IntKind.i64 3])) (fun v45 =>
  bnd (noPan (call 13 [v45])) (fun v46 =>
  bnd (lft (binA T BinOp.eql 9 v46 (AV.str [49, 46, 50, 46, 51]))) (fun v47 =>
  bnd (guardM v47 true 1 (bnd (lft (unA UnOp.not v2)) (fun v48 =>
  M.pure [v48]))) (fun v49 =>
  bnd (lft (pickA v47 (nth v49 0) (AV.bool false))) (fun v50 =>
  bnd (guardM v50 true 1 (bnd (lft (unA UnOp.not v6)) (fun v51 =>
  M.pure [v51]))) (fun v52 =>
  bnd (lft (pickA v50 (nth v52 0) (AV.bool false))) (fun v53 =>
  bnd (guardM v53 true 1 (M.pure [v10])) (fun v54 =>
  bnd (lft (pickA v53 (nth v54 0) (AV.bool false))) (fun v55 =>
  bnd (guardM v55 true 1 (bnd (lft (loadA T 23 (AV.ip (acells v11)))) (fun v56 =>
  bnd (noPan (call 27 [AV.int IntKind.i64 1, AV.int IntKind.i64 2, AV.int IntKind.i64 3])) (fun v57 =>
  bnd (lft (binA T BinOp.eql 23 v56 v57)) (fun v58 =>
  M.pure [v58]))))) (fun v59 =>
  bnd (lft (pickA v55 (nth v59 0) (AV.bool false))) (fun v60 =>
  bnd (guardM v60 true 1 (bnd (lft (loadA T 23 (AV.ip (acells v11)))) (fun v61 =>
  bnd (noPan (call 27 [AV.int IntKind.i64 1, AV.int IntKind.i64 2, AV.int IntKind.i64 9])) (fun v62 =>
  bnd (noPan (call 15 [v61, v62])) (fun v63 =>
  bnd (lft (binA T BinOp.eql 3 v63 (AV.int IntKind.i64 1))) (fun v64 =>
  M.pure [v64])))))) (fun v65 =>
  bnd (lft (pickA v60 (nth v65 0) (AV.bool false))) (fun v66 =>
  bnd (guardM v66 true 1 (bnd (lft (loadA T 23 (AV.ip (acells v11)))) (fun v67 =>
  bnd (noPan (call 27 [AV.int IntKind.i64 1, AV.int IntKind.i64 3, AV.int IntKind.i64 0])) (fun v68 =>
  bnd (noPan (call 15 [v67, v68])) (fun v69 =>
  bnd (lft (binA T BinOp.eql 3 v69 (AV.int IntKind.i64 2))) (fun v70 =>
  M.pure [v70])))))) (fun v71 =>
  bnd (lft (pickA v66 (nth v71 0) (AV.bool false))) (fun v72 =>
  bnd (guardM v72 true 1 (bnd (lft (loadA T 23 (AV.ip (acells v11)))) (fun v73 =>
  bnd (noPan (call 27 [AV.int IntKind.i64 2, AV.int IntKind.i64 0, AV.int IntKind.i64 0])) (fun v74 =>
  bnd (noPan (call 15 [v73, v74])) (fun v75 =>
  bnd (lft (binA T BinOp.eql 3 v75 (AV.int IntKind.i64 3))) (fun v76 =>
  M.pure [v76])))))) (fun v77 =>
  bnd (lft (pickA v72 (nth v77 0) (AV.bool false))) (fun v78 =>
  bnd (guardM v78 true 1 (bnd (lft (loadA T 23 (AV.ip (acells v11)))) (fun v79 =>
  bnd (lft (loadA T 23 (AV.ip (acells v11)))) (fun v80 =>
  bnd (noPan (call 15 [v79, v80])) (fun v81 =>
  bnd (lft (binA T BinOp.eql 3 v81 (AV.int IntKind.i64 0))) (fun v82 =>
  M.pure [v82])))))) (fun v83 =>
  bnd (lft (pickA v78 (nth v83 0) (AV.bool false))) (fun v84 =>
  bnd (call 19 [v22, v26]) (fun v85 =>
  bnd (guardM v85 true 1 (bnd (call 27 [AV.int IntKind.i64 1, AV.int IntKind.i64 0, AV.int IntKind.i64 0]) (fun v86 =>
  bnd (call 27 [AV.int IntKind.i64 1, AV.int IntKind.i64 5, AV.int IntKind.i64 0]) (fun v87 =>
  bnd (call 26 [v86, v87]) (fun v88 =>
  bnd (call 27 [AV.int IntKind.i64 2, AV.int IntKind.i64 0, AV.int IntKind.i64 0]) (fun v89 =>
  bnd (call 27 [AV.int IntKind.i64 3, AV.int IntKind.i64 0, AV.int IntKind.i64 0]) (fun v90 =>
  bnd (call 26 [v89, v90]) (fun v91 =>
  bnd (lft (buildSliceA T 24 2 [(0, v88), (1, v91)])) (fun v92 =>
  bnd (call 19 [v31, v92]) (fun v93 =>
  M.pure [v93])))))))))) (fun v94 =>
  bnd (lft (pickA v85 (nth v94 0) (AV.bool false))) (fun v95 =>
  bnd (guardM v84 true 1 (M.pure [v95])) (fun v96 =>
  bnd (lft (pickA v84 (nth v96 0) (AV.bool false))) (fun v97 =>
  bnd (guardM v97 true 1 (bnd (noPan (call 27 [AV.int IntKind.i64 1, AV.int IntKind.i64 4, AV.int IntKind.i64 0])) (fun v98 =>
  bnd (noPan (call 27 [AV.int IntKind.i64 1, AV.int IntKind.i64 5, AV.int IntKind.i64 0])) (fun v99 =>
  bnd (noPan (call 26 [v98, v99])) (fun v100 =>
  bnd (noPan (call 27 [AV.int IntKind.i64 2, AV.int IntKind.i64 0, AV.int IntKind.i64 0])) (fun v101 =>
  bnd (noPan (call 27 [AV.int IntKind.i64 2, AV.int IntKind.i64 1, AV.int IntKind.i64 0])) (fun v102 =>
  bnd (noPan (call 26 [v101, v102])) (fun v103 =>
  bnd (lft (buildSliceA T 24 2 [(0, v100), (1, v103)])) (fun v104 =>
  bnd (noPan (call 19 [v36, v104])) (fun v105 =>
  M.pure [v105])))))))))) (fun v106 =>
  bnd (lft (pickA v97 (nth v106 0) (AV.bool false))) (fun v107 =>
  bnd (guardM v107 true 1 (M.pure [v43])) (fun v108 =>
  bnd (lft (pickA v107 (nth v108 0) (AV.bool false))) (fun v109 =>
  bnd (guardM v109 true 1 (bnd (lft (loadA T 23 (AV.ip (acells v44)))) (fun v110 =>
  bnd (noPan (call 27 [AV.int IntKind.i64 2, AV.int IntKind.i64 9, AV.int IntKind.i64 9])) (fun v111 =>
  bnd (lft (binA T BinOp.eql 23 v110 v111)) (fun v112 =>
  M.pure [v112]))))) (fun v113 =>
  bnd (lft (pickA v109 (nth v113 0) (AV.bool false))) (fun v114 =>
  bnd (guardM v114 true 1 (bnd (lft (loadA T 23 (AV.ip (acells v11)))) (fun v115 =>
  bnd (noPan (call 17 [v26, v115])) (fun v116 =>
  M.pure [v116])))) (fun v117 =>
  bnd (lft (pickA v114 (nth v117 0) (AV.bool false))) (fun v118 =>
  bnd (guardM v118 true 1 (bnd (lft (loadA T 23 (AV.ip (acells v11)))) (fun v119 =>
  bnd (noPan (call 9 [v119])) (fun v120 =>
  M.pure [v120])))) (fun v121 =>
  bnd (lft (pickA v118 (nth v121 0) (AV.bool false))) (fun v122 =>
  bnd (guardM v122 true 1 (bnd (lft (loadA T 23 (AV.ip (acells v11)))) (fun v123 =>
  bnd (noPan (call 27 [AV.int IntKind.i64 1, AV.int IntKind.i64 2, AV.int IntKind.i64 4])) (fun v124 =>
  bnd (noPan (call 11 [v123, v124])) (fun v125 =>
  bnd (lft (binA T BinOp.eql 3 v125 (AV.int IntKind.i64 (-1)))) (fun v126 =>
  M.pure [v126])))))) (fun v127 =>
  bnd (lft (pickA v122 (nth v127 0) (AV.bool false))) (fun v128 =>
  M.pure v128)))))))))))))))))))))))))))))))))))))))))))))))))))))))))))))))))))))))))))))))))
theorem E4 (call : FuncId → List AV → M AV) (fx : Fix AV) : evBody (pg.cx call Tryz.f4.ntmps ann4) fx Tryz.f4 (own 4) [] = S4 call fx  := by kernel_rfl
theorem C4 : callW pg 4 [] = isoP (S4 (callW pg) fixW ) := (callW_iso hOther rfl rfl rfl _).trans (congrArg isoP (E4 _ _ ))
noncomputable def L7_0 (call : FuncId → List AV → M AV) (fx : Fix AV) (v1 : List AV → M AV) (v2 : List AV) : M AV :=
  bnd (lft (binA T BinOp.lss 3 (nth v2 4) (nth v2 3))) (fun v3 =>
  condM v3 (bnd (lft (indexAddrA T 25 (nth v2 2) (nth v2 4))) (fun v4 =>
  bnd (lft (loadA T 23 v4)) (fun v5 =>
  bnd (cellsM 3 v5) (fun v6 =>
  bnd (lft (loadA T 23 (AV.ip (acells v6)))) (fun v7 =>
  bnd (call 17 [nth v2 0, v7]) (fun v8 =>
  bnd (guardM v8 true 1 (bnd (lft (unA UnOp.not (nth v2 1))) (fun v9 =>
  M.pure [v9]))) (fun v10 =>
  bnd (guardM (nth v10 0) false 1 (bnd (lft (loadA T 23 (AV.ip (acells v6)))) (fun v11 =>
  bnd (call 11 [v11, AV.agg [nth v2 8, nth v2 9, nth v2 10]]) (fun v12 =>
  bnd (lft (binA T BinOp.gtr 3 v12 (AV.int IntKind.i64 0))) (fun v13 =>
  M.pure [v13]))))) (fun v14 =>
  bnd (guardM v8 true 1 (bnd (lft (pickA (nth v10 0) (AV.bool true) (nth v14 0))) (fun v15 =>
  M.pure [v15]))) (fun v16 =>
  bnd (lft (pickA v8 (nth v16 0) (AV.bool false))) (fun v17 =>
  condM v17 (bnd (lft (loadA T 23 (AV.ip (acells v6)))) (fun v18 =>
  bnd (cellsNil 3 [] v18) (fun v19 =>
  bnd (lft (binA T BinOp.add 3 (nth v2 4) (AV.int IntKind.i64 1))) (fun v20 =>
  v1 [nth v2 0, AV.bool true, nth v2 2, nth v2 3, v20, nth v2 5, nth v2 6, nth v2 7, nth (acells v19) 0, nth (acells v19) 1, nth (acells v19) 2])))) (bnd (lft (binA T BinOp.add 3 (nth v2 4) (AV.int IntKind.i64 1))) (fun v21 =>
  v1 [nth v2 0, nth v2 1, nth v2 2, nth v2 3, v21, nth v2 5, nth v2 6, nth v2 7, nth v2 8, nth v2 9, nth v2 10])))))))))))) (bnd (cellsNil 3 [] (AV.agg [nth v2 8, nth v2 9, nth v2 10])) (fun v22 =>
  M.pure (AV.tup [AV.agg [nth (acells v22) 0, nth (acells v22) 1, nth (acells v22) 2], nth v2 1]))))
theorem XL7_0 {call : FuncId → List AV → M AV} : Cont1 (L7_0 call fixW ) fun _n => L7_0 call fixW  := by
  intro v1 v1s hself v2
  unfold L7_0
  exact (LimM.bnd (LimM.const _) fun _ => (condM_lim (LimM.bnd (LimM.const _) fun _ => (LimM.bnd (LimM.const _) fun _ => (LimM.bnd (LimM.const _) fun _ => (LimM.bnd (LimM.const _) fun _ => (LimM.bnd (LimM.const _) fun _ => (LimM.bnd (LimM.const _) fun _ => (LimM.bnd (LimM.const _) fun _ => (LimM.bnd (LimM.const _) fun _ => (LimM.bnd (LimM.const _) fun _ => (condM_lim (LimM.bnd (LimM.const _) fun _ => (LimM.bnd (LimM.const _) fun _ => (LimM.bnd (LimM.const _) fun _ => (hself _)))) (LimM.bnd (LimM.const _) fun _ => (hself _)))))))))))) (LimM.const _)))
theorem FL7_0 (call : FuncId → List AV → M AV) (vs : List AV) : fixW (L7_0 call fixW ) vs = L7_0 call fixW  (fixW (L7_0 call fixW )) vs := fixW_eq (XL7_0 ) vs
noncomputable def S7 (call : FuncId → List AV → M AV) (fx : Fix AV) (a0 a1 : AV) : M AV :=
  bnd (lft (lenA T 25 a0)) (fun v0 =>
  fx (L7_0 call fx) [a1, AV.bool false, a0, v0, AV.int IntKind.i64 0, AV.int IntKind.i64 0, AV.int IntKind.i64 0, AV.int IntKind.i64 0, AV.int IntKind.i64 0, AV.int IntKind.i64 0, AV.int IntKind.i64 0])
theorem E7 (call : FuncId → List AV → M AV) (fx : Fix AV) (a0 a1 : AV) : evBody (pg.cx call Tryz.f7.ntmps ann7) fx Tryz.f7 (own 7) [a0, a1] = S7 call fx a0 a1 := by kernel_rfl
theorem C7 (a0 a1 : AV) : callW pg 7 [a0, a1] = isoP (S7 (callW pg) fixW (cl noHs a0) (cl noHs a1)) := (callW_iso hOther rfl rfl rfl _).trans (congrArg isoP (E7 _ _ (cl noHs a0) (cl noHs a1)))
noncomputable def S9 (call : FuncId → List AV → M AV) (fx : Fix AV) (a0 : AV) : M AV :=
  bnd (lft (fieldAddrA T 23 (AV.ip (acells a0)) 0)) (fun v0 =>
  bnd (lft (loadA T 3 v0)) (fun v1 =>
  bnd (lft (fieldAddrA T 23 (AV.ip (acells a0)) 1)) (fun v2 =>
  bnd (lft (loadA T 3 v2)) (fun v3 =>
  bnd (lft (fieldAddrA T 23 (AV.ip (acells a0)) 2)) (fun v4 =>
  bnd (lft (loadA T 3 v4)) (fun v5 =>
  bnd (lft (minsA false [v1, v3, v5])) (fun v6 =>
  bnd (lft (binA T BinOp.geq 3 v6 (AV.int IntKind.i64 0))) (fun v7 =>
  bnd (guardM v7 true 1 (bnd (lft (fieldAddrA T 23 (AV.ip (acells a0)) 0)) (fun v8 =>
  bnd (lft (loadA T 3 v8)) (fun v9 =>
  bnd (lft (fieldAddrA T 23 (AV.ip (acells a0)) 1)) (fun v10 =>
  bnd (lft (loadA T 3 v10)) (fun v11 =>
  bnd (lft (fieldAddrA T 23 (AV.ip (acells a0)) 2)) (fun v12 =>
  bnd (lft (loadA T 3 v12)) (fun v13 =>
  bnd (lft (minsA true [v9, v11, v13])) (fun v14 =>
  bnd (lft (binA T BinOp.leq 3 v14 (AV.int IntKind.i64 1048576))) (fun v15 =>
  M.pure [v15])))))))))) (fun v16 =>
  bnd (lft (pickA v7 (nth v16 0) (AV.bool false))) (fun v17 =>
  M.pure v17))))))))))
theorem E9 (call : FuncId → List AV → M AV) (fx : Fix AV) (a0 : AV) : evBody (pg.cx call Tryz.f9.ntmps ann9) fx Tryz.f9 (own 9) [a0] = S9 call fx a0 := by kernel_rfl
theorem C9 (a0 : AV) : callW pg 9 [a0] = isoP (S9 (callW pg) fixW (cl noHs a0)) := (callW_iso hOther rfl rfl rfl _).trans (congrArg isoP (E9 _ _ (cl noHs a0)))
noncomputable def S10 (call : FuncId → List AV → M AV) (fx : Fix AV) (a0 : AV) : M AV :=
  bnd (lft (fieldAddrA T 23 (AV.ip (acells a0)) 0)) (fun v0 =>
  bnd (lft (loadA T 3 v0)) (fun v1 =>
  bnd (lft (binA T BinOp.geq 3 v1 (AV.int IntKind.i64 0))) (fun v2 =>
  bnd (guardM v2 true 1 (bnd (lft (fieldAddrA T 23 (AV.ip (acells a0)) 0)) (fun v3 =>
  bnd (lft (loadA T 3 v3)) (fun v4 =>
  bnd (lft (binA T BinOp.leq 3 v4 (AV.int IntKind.i64 1048576))) (fun v5 =>
  M.pure [v5]))))) (fun v6 =>
  bnd (lft (pickA v2 (nth v6 0) (AV.bool false))) (fun v7 =>
  bnd (guardM v7 true 1 (bnd (lft (fieldAddrA T 23 (AV.ip (acells a0)) 1)) (fun v8 =>
  bnd (lft (loadA T 3 v8)) (fun v9 =>
  bnd (lft (binA T BinOp.geq 3 v9 (AV.int IntKind.i64 0))) (fun v10 =>
  M.pure [v10]))))) (fun v11 =>
  bnd (lft (pickA v7 (nth v11 0) (AV.bool false))) (fun v12 =>
  bnd (guardM v12 true 1 (bnd (lft (fieldAddrA T 23 (AV.ip (acells a0)) 1)) (fun v13 =>
  bnd (lft (loadA T 3 v13)) (fun v14 =>
  bnd (lft (binA T BinOp.leq 3 v14 (AV.int IntKind.i64 1048576))) (fun v15 =>
  M.pure [v15]))))) (fun v16 =>
  bnd (lft (pickA v12 (nth v16 0) (AV.bool false))) (fun v17 =>
  bnd (guardM v17 true 1 (bnd (lft (fieldAddrA T 23 (AV.ip (acells a0)) 2)) (fun v18 =>
  bnd (lft (loadA T 3 v18)) (fun v19 =>
  bnd (lft (binA T BinOp.geq 3 v19 (AV.int IntKind.i64 0))) (fun v20 =>
  M.pure [v20]))))) (fun v21 =>
  bnd (lft (pickA v17 (nth v21 0) (AV.bool false))) (fun v22 =>
  bnd (guardM v22 true 1 (bnd (lft (fieldAddrA T 23 (AV.ip (acells a0)) 2)) (fun v23 =>
  bnd (lft (loadA T 3 v23)) (fun v24 =>
  bnd (lft (binA T BinOp.leq 3 v24 (AV.int IntKind.i64 1048576))) (fun v25 =>
  M.pure [v25]))))) (fun v26 =>
  bnd (lft (pickA v22 (nth v26 0) (AV.bool false))) (fun v27 =>
  M.pure v27)))))))))))))
theorem E10 (call : FuncId → List AV → M AV) (fx : Fix AV) (a0 : AV) : evBody (pg.cx call Tryz.f10.ntmps ann10) fx Tryz.f10 (own 10) [a0] = S10 call fx a0 := by kernel_rfl
theorem C10 (a0 : AV) : callW pg 10 [a0] = isoP (S10 (callW pg) fixW (cl noHs a0)) := (callW_iso hOther rfl rfl rfl _).trans (congrArg isoP (E10 _ _ (cl noHs a0)))
noncomputable def S12 (call : FuncId → List AV → M AV) (fx : Fix AV) (a0 a1 : AV) : M AV :=
  bnd (lft (fieldAddrA T 23 (AV.ip (acells a0)) 0)) (fun v0 =>
  bnd (lft (loadA T 3 v0)) (fun v1 =>
  bnd (lft (fieldAddrA T 23 (AV.ip (acells a1)) 0)) (fun v2 =>
  bnd (lft (loadA T 3 v2)) (fun v3 =>
  bnd (lft (binA T BinOp.neq 3 v1 v3)) (fun v4 =>
  condM v4 (bnd (lft (fieldAddrA T 23 (AV.ip (acells a0)) 0)) (fun v5 =>
  bnd (lft (loadA T 3 v5)) (fun v6 =>
  bnd (lft (fieldAddrA T 23 (AV.ip (acells a1)) 0)) (fun v7 =>
  bnd (lft (loadA T 3 v7)) (fun v8 =>
  bnd (call 33 [v6, v8]) (fun v9 =>
  M.pure v9)))))) (bnd (lft (fieldAddrA T 23 (AV.ip (acells a0)) 1)) (fun v10 =>
  bnd (lft (loadA T 3 v10)) (fun v11 =>
  bnd (lft (fieldAddrA T 23 (AV.ip (acells a1)) 1)) (fun v12 =>
  bnd (lft (loadA T 3 v12)) (fun v13 =>
  bnd (lft (binA T BinOp.neq 3 v11 v13)) (fun v14 =>
  condM v14 (bnd (lft (fieldAddrA T 23 (AV.ip (acells a0)) 1)) (fun v15 =>
  bnd (lft (loadA T 3 v15)) (fun v16 =>
  bnd (lft (fieldAddrA T 23 (AV.ip (acells a1)) 1)) (fun v17 =>
  bnd (lft (loadA T 3 v17)) (fun v18 =>
  bnd (call 33 [v16, v18]) (fun v19 =>
  M.pure v19)))))) (bnd (lft (fieldAddrA T 23 (AV.ip (acells a0)) 2)) (fun v20 =>
  bnd (lft (loadA T 3 v20)) (fun v21 =>
  bnd (lft (fieldAddrA T 23 (AV.ip (acells a1)) 2)) (fun v22 =>
  bnd (lft (loadA T 3 v22)) (fun v23 =>
  bnd (call 33 [v21, v23]) (fun v24 =>
  M.pure v24)))))))))))))))))
theorem E12 (call : FuncId → List AV → M AV) (fx : Fix AV) (a0 a1 : AV) : evBody (pg.cx call Tryz.f12.ntmps ann12) fx Tryz.f12 (own 12) [a0, a1] = S12 call fx a0 a1 := by kernel_rfl
theorem C12 (a0 a1 : AV) : callW pg 12 [a0, a1] = isoP (S12 (callW pg) fixW (cl noHs a0) (cl noHs a1)) := (callW_iso hOther rfl rfl rfl _).trans (congrArg isoP (E12 _ _ (cl noHs a0) (cl noHs a1)))
noncomputable def S14 (call : FuncId → List AV → M AV) (fx : Fix AV) (a0 : AV) : M AV :=
  bnd (lft (loadA T 23 (AV.ip (acells a0)))) (fun v0 =>
  bnd (call 10 [v0]) (fun v1 =>
  bnd (lft (unA UnOp.not v1)) (fun v2 =>
  condM v2 (M.pure (AV.str [])) (bnd (lft (fieldAddrA T 23 (AV.ip (acells a0)) 0)) (fun v3 =>
  bnd (lft (loadA T 3 v3)) (fun v4 =>
  bnd (noPan (call 34 [v4])) (fun v5 =>
  bnd (lft (binA T BinOp.add 9 v5 (AV.str [46]))) (fun v6 =>
  bnd (lft (fieldAddrA T 23 (AV.ip (acells a0)) 1)) (fun v7 =>
  bnd (lft (loadA T 3 v7)) (fun v8 =>
  bnd (noPan (call 34 [v8])) (fun v9 =>
  bnd (lft (binA T BinOp.add 9 v6 v9)) (fun v10 =>
  bnd (lft (binA T BinOp.add 9 v10 (AV.str [46]))) (fun v11 =>
  bnd (lft (fieldAddrA T 23 (AV.ip (acells a0)) 2)) (fun v12 =>
  bnd (lft (loadA T 3 v12)) (fun v13 =>
  bnd (noPan (call 34 [v13])) (fun v14 =>
  bnd (lft (binA T BinOp.add 9 v11 v14)) (fun v15 =>
  M.pure v15)))))))))))))))))
theorem E14 (call : FuncId → List AV → M AV) (fx : Fix AV) (a0 : AV) : evBody (pg.cx call Tryz.f14.ntmps ann14) fx Tryz.f14 (own 14) [a0] = S14 call fx a0 := by kernel_rfl
theorem C14 (a0 : AV) : callW pg 14 [a0] = isoP (S14 (callW pg) fixW (cl noHs a0)) := (callW_iso hOther rfl rfl rfl _).trans (congrArg isoP (E14 _ _ (cl noHs a0)))
noncomputable def S16 (call : FuncId → List AV → M AV) (fx : Fix AV) (a0 a1 : AV) : M AV :=
  bnd (lft (loadA T 23 (AV.ip (acells a0)))) (fun v0 =>
  bnd (call 10 [v0]) (fun v1 =>
  bnd (lft (unA UnOp.not v1)) (fun v2 =>
  bnd (guardM v2 false 1 (bnd (lft (loadA T 23 (AV.ip (acells a1)))) (fun v3 =>
  bnd (call 10 [v3]) (fun v4 =>
  bnd (lft (unA UnOp.not v4)) (fun v5 =>
  M.pure [v5]))))) (fun v6 =>
  bnd (lft (pickA v2 (AV.bool true) (nth v6 0))) (fun v7 =>
  bnd (guardM v7 false 1 (bnd (lft (loadA T 23 (AV.ip (acells a0)))) (fun v8 =>
  bnd (lft (loadA T 23 (AV.ip (acells a1)))) (fun v9 =>
  bnd (call 12 [v8, v9]) (fun v10 =>
  bnd (lft (binA T BinOp.geq 3 v10 (AV.int IntKind.i64 0))) (fun v11 =>
  M.pure [v11])))))) (fun v12 =>
  bnd (lft (pickA v7 (AV.bool true) (nth v12 0))) (fun v13 =>
  condM v13 (M.pure (AV.int IntKind.i64 0)) (bnd (lft (fieldAddrA T 23 (AV.ip (acells a0)) 0)) (fun v14 =>
  bnd (lft (loadA T 3 v14)) (fun v15 =>
  bnd (lft (fieldAddrA T 23 (AV.ip (acells a1)) 0)) (fun v16 =>
  bnd (lft (loadA T 3 v16)) (fun v17 =>
  bnd (lft (binA T BinOp.neq 3 v15 v17)) (fun v18 =>
  condM v18 (M.pure (AV.int IntKind.i64 3)) (bnd (lft (fieldAddrA T 23 (AV.ip (acells a0)) 1)) (fun v19 =>
  bnd (lft (loadA T 3 v19)) (fun v20 =>
  bnd (lft (fieldAddrA T 23 (AV.ip (acells a1)) 1)) (fun v21 =>
  bnd (lft (loadA T 3 v21)) (fun v22 =>
  bnd (lft (binA T BinOp.neq 3 v20 v22)) (fun v23 =>
  condM v23 (M.pure (AV.int IntKind.i64 2)) (M.pure (AV.int IntKind.i64 1)))))))))))))))))))))
theorem E16 (call : FuncId → List AV → M AV) (fx : Fix AV) (a0 a1 : AV) : evBody (pg.cx call Tryz.f16.ntmps ann16) fx Tryz.f16 (own 16) [a0, a1] = S16 call fx a0 a1 := by kernel_rfl
theorem C16 (a0 a1 : AV) : callW pg 16 [a0, a1] = isoP (S16 (callW pg) fixW (cl noHs a0) (cl noHs a1)) := (callW_iso hOther rfl rfl rfl _).trans (congrArg isoP (E16 _ _ (cl noHs a0) (cl noHs a1)))
noncomputable def L19_0 (call : FuncId → List AV → M AV) (fx : Fix AV) (v3 : List AV → M AV) (v4 : List AV) : M AV :=
  bnd (lft (lenA T 24 (nth v4 0))) (fun v5 =>
  bnd (lft (binA T BinOp.lss 3 (nth v4 2) v5)) (fun v6 =>
  condM v6 (bnd (lft (indexAddrA T 24 (nth v4 0) (nth v4 2))) (fun v7 =>
  bnd (lft (loadA T 40 v7)) (fun v8 =>
  bnd (lft (indexAddrA T 24 (nth v4 1) (nth v4 2))) (fun v9 =>
  bnd (lft (loadA T 40 v9)) (fun v10 =>
  bnd (lft (binA T BinOp.neq 40 v8 v10)) (fun v11 =>
  condM v11 (M.pure (AV.bool false)) (bnd (lft (binA T BinOp.add 3 (nth v4 2) (AV.int IntKind.i64 1))) (fun v12 =>
  v3 [nth v4 0, nth v4 1, v12])))))))) (M.pure (AV.bool true))))
theorem XL19_0 {call : FuncId → List AV → M AV} : Cont1 (L19_0 call fixW ) fun _n => L19_0 call fixW  := by
  intro v3 v3s hself v4
  unfold L19_0
  exact (LimM.bnd (LimM.const _) fun _ => (LimM.bnd (LimM.const _) fun _ => (condM_lim (LimM.bnd (LimM.const _) fun _ => (LimM.bnd (LimM.const _) fun _ => (LimM.bnd (LimM.const _) fun _ => (LimM.bnd (LimM.const _) fun _ => (LimM.bnd (LimM.const _) fun _ => (condM_lim (LimM.const _) (LimM.bnd (LimM.const _) fun _ => (hself _)))))))) (LimM.const _))))
theorem FL19_0 (call : FuncId → List AV → M AV) (vs : List AV) : fixW (L19_0 call fixW ) vs = L19_0 call fixW  (fixW (L19_0 call fixW )) vs := fixW_eq (XL19_0 ) vs
noncomputable def S19 (call : FuncId → List AV → M AV) (fx : Fix AV) (a0 a1 : AV) : M AV :=
  bnd (lft (lenA T 24 a0)) (fun v0 =>
  bnd (lft (lenA T 24 a1)) (fun v1 =>
  bnd (lft (binA T BinOp.neq 3 v0 v1)) (fun v2 =>
  condM v2 (M.pure (AV.bool false)) (fx (L19_0 call fx) [a0, a1, AV.int IntKind.i64 0]))))
theorem E19 (call : FuncId → List AV → M AV) (fx : Fix AV) (a0 a1 : AV) : evBody (pg.cx call Tryz.f19.ntmps ann19) fx Tryz.f19 (own 19) [a0, a1] = S19 call fx a0 a1 := by kernel_rfl
theorem C19 (a0 a1 : AV) : callW pg 19 [a0, a1] = isoP (S19 (callW pg) fixW (cl noHs a0) (cl noHs a1)) := (callW_iso hOther rfl rfl rfl _).trans (congrArg isoP (E19 _ _ (cl noHs a0) (cl noHs a1)))
noncomputable def S21 (call : FuncId → List AV → M AV) (fx : Fix AV) (a0 : AV) : M AV :=
  bnd (call 23 [a0, AV.sl [], AV.int IntKind.i64 0]) (fun v0 =>
  M.pure v0)
theorem E21 (call : FuncId → List AV → M AV) (fx : Fix AV) (a0 : AV) : evBody (pg.cx call Tryz.f21.ntmps ann21) fx Tryz.f21 (own 21) [a0] = S21 call fx a0 := by kernel_rfl
theorem C21 (a0 : AV) : callW pg 21 [a0] = isoP (S21 (callW pg) fixW (cl noHs a0)) := (callW_iso hOther rfl rfl rfl _).trans (congrArg isoP (E21 _ _ (cl noHs a0)))
noncomputable def K23_0 (call : FuncId → List AV → M AV) (fx : Fix AV) (v1 : List AV → M AV) (v6 : List AV) : M AV :=
  bnd (lft (binA T BinOp.add 3 (nth v6 5) (AV.int IntKind.i64 1))) (fun v7 =>
  v1 [nth v6 0, nth v6 1, nth v6 2, nth v6 3, nth v6 4, v7])
noncomputable def L23_0 (call : FuncId → List AV → M AV) (fx : Fix AV) (v1 : List AV → M AV) (v2 : List AV) : M AV :=
  bnd (lft (binA T BinOp.add 3 (nth v2 5) (AV.int IntKind.i64 1))) (fun v3 =>
  bnd (lft (lenA T 25 (nth v2 3))) (fun v4 =>
  bnd (lft (binA T BinOp.lss 3 v3 v4)) (fun v5 =>
  condM v5 (jn (K23_0 call fx v1) (fun v8 =>
  bnd (lft (indexAddrA T 25 (nth v2 3) (nth v2 5))) (fun v9 =>
  bnd (lft (loadA T 23 v9)) (fun v10 =>
  bnd (call 45 [nth v2 0, nth v2 1, nth v2 2, v10]) (fun v11 =>
  bnd (lft (unA UnOp.not v11)) (fun v12 =>
  condM v12 (v8 [nth v2 0, nth v2 1, nth v2 2, nth v2 3, nth v2 4, nth v2 5]) (bnd (lft (lenA T 24 (nth v2 4))) (fun v13 =>
  bnd (lft (binA T BinOp.gtr 3 v13 (AV.int IntKind.i64 0))) (fun v14 =>
  bnd (guardM v14 true 1 (bnd (lft (binA T BinOp.sub 3 v13 (AV.int IntKind.i64 1))) (fun v15 =>
  bnd (lft (indexAddrA T 24 (nth v2 4) v15)) (fun v16 =>
  bnd (lft (fieldAddrA T 40 v16 1)) (fun v17 =>
  bnd (loadH T 23 v17) (fun v18 =>
  bnd (lft (indexAddrA T 25 (nth v2 3) (nth v2 5))) (fun v19 =>
  bnd (lft (loadA T 23 v19)) (fun v20 =>
  bnd (lft (binA T BinOp.eql 23 v18 v20)) (fun v21 =>
  M.pure [v21]))))))))) (fun v22 =>
  bnd (lft (pickA v14 (nth v22 0) (AV.bool false))) (fun v23 =>
  condM v23 (bnd (lft (binA T BinOp.sub 3 v13 (AV.int IntKind.i64 1))) (fun v24 =>
  bnd (lft (binA T BinOp.add 3 (nth v2 5) (AV.int IntKind.i64 1))) (fun v25 =>
  bnd (lft (indexAddrA T 25 (nth v2 3) v25)) (fun v26 =>
  bnd (lft (loadA T 23 v26)) (fun v27 =>
  bnd (lft (indexAddrA T 24 (nth v2 4) v24)) (fun v28 =>
  bnd (lft (fieldAddrA T 40 v28 1)) (fun v29 =>
  bnd (storeH T 23 v29 v27) (fun v30 =>
  v8 [nth v2 0, nth v2 1, nth v2 2, nth v2 3, nth v2 4, nth v2 5])))))))) (bnd (lft (indexAddrA T 25 (nth v2 3) (nth v2 5))) (fun v31 =>
  bnd (lft (loadA T 23 v31)) (fun v32 =>
  bnd (lft (binA T BinOp.add 3 (nth v2 5) (AV.int IntKind.i64 1))) (fun v33 =>
  bnd (lft (indexAddrA T 25 (nth v2 3) v33)) (fun v34 =>
  bnd (lft (loadA T 23 v34)) (fun v35 =>
  bnd (lft (buildA T false 40 [(0, v32), (1, v35)])) (fun v36 =>
  bnd (lft (buildSliceA T 24 1 [(0, v36)])) (fun v37 =>
  bnd (appH T 24 false (nth v2 4) v37) (fun v38 =>
  v8 [nth v2 0, nth v2 1, nth v2 2, nth v2 3, v38, nth v2 5])))))))))))))))))))) (M.pure (nth v2 4)))))
theorem XK23_0 {call : FuncId → List AV → M AV} {v1 : List AV → M AV} {v1s : Nat → List AV → M AV} (hv1 : LimF v1 fun n => v1s n) : LimF (K23_0 call fixW v1) fun n => K23_0 call fixW (v1s n) := by
  intro v6
  unfold K23_0
  exact (LimM.bnd (LimM.const _) fun _ => (hv1 _))
theorem XL23_0 {call : FuncId → List AV → M AV} : Cont1 (L23_0 call fixW ) fun _n => L23_0 call fixW  := by
  intro v1 v1s hself v2
  unfold L23_0
  exact (LimM.bnd (LimM.const _) fun _ => (LimM.bnd (LimM.const _) fun _ => (LimM.bnd (LimM.const _) fun _ => (condM_lim (jn_lim (XK23_0 hself) fun _ _ hv8 => (LimM.bnd (LimM.const _) fun _ => (LimM.bnd (LimM.const _) fun _ => (LimM.bnd (LimM.const _) fun _ => (LimM.bnd (LimM.const _) fun _ => (condM_lim (hv8 _) (LimM.bnd (LimM.const _) fun _ => (LimM.bnd (LimM.const _) fun _ => (LimM.bnd (LimM.const _) fun _ => (LimM.bnd (LimM.const _) fun _ => (condM_lim (LimM.bnd (LimM.const _) fun _ => (LimM.bnd (LimM.const _) fun _ => (LimM.bnd (LimM.const _) fun _ => (LimM.bnd (LimM.const _) fun _ => (LimM.bnd (LimM.const _) fun _ => (LimM.bnd (LimM.const _) fun _ => (LimM.bnd (LimM.const _) fun _ => (hv8 _)))))))) (LimM.bnd (LimM.const _) fun _ => (LimM.bnd (LimM.const _) fun _ => (LimM.bnd (LimM.const _) fun _ => (LimM.bnd (LimM.const _) fun _ => (LimM.bnd (LimM.const _) fun _ => (LimM.bnd (LimM.const _) fun _ => (LimM.bnd (LimM.const _) fun _ => (LimM.bnd (LimM.const _) fun _ => (hv8 _)))))))))))))))))))) (LimM.const _)))))
theorem FL23_0 (call : FuncId → List AV → M AV) (vs : List AV) : fixW (L23_0 call fixW ) vs = L23_0 call fixW  (fixW (L23_0 call fixW )) vs := fixW_eq (XL23_0 ) vs
noncomputable def S23 (call : FuncId → List AV → M AV) (fx : Fix AV) (a0 a1 a2 : AV) : M AV :=
  bnd (call 44 [a0, a1]) (fun v0 =>
  fx (L23_0 call fx) [a0, a1, a2, v0, AV.hn, AV.int IntKind.i64 0])
theorem E23 (call : FuncId → List AV → M AV) (fx : Fix AV) (a0 a1 a2 : AV) : evBody (pg.cx call Tryz.f23.ntmps ann23) fx Tryz.f23 (own 23) [a0, a1, a2] = S23 call fx a0 a1 a2 := by kernel_rfl
theorem C23 (a0 a1 a2 : AV) : callW pg 23 [a0, a1, a2] = isoP (S23 (callW pg) fixW (cl noHs a0) (cl noHs a1) (cl noHs a2)) := (callW_iso hOther rfl rfl rfl _).trans (congrArg isoP (E23 _ _ (cl noHs a0) (cl noHs a1) (cl noHs a2)))
noncomputable def L25_0 (call : FuncId → List AV → M AV) (fx : Fix AV) (v3 : List AV → M AV) (v10 : List AV → M AV) (v11 : List AV) : M AV :=
  bnd (lft (binA T BinOp.lss 3 (nth v11 7) (nth v11 6))) (fun v12 =>
  condM v12 (bnd (lft (indexAddrA T 24 (nth v11 5) (nth v11 7))) (fun v13 =>
  bnd (lft (loadA T 40 v13)) (fun v14 =>
  bnd (cellsM 6 v14) (fun v15 =>
  bnd (lft (fieldAddrA T 40 (AV.ip (acells v15)) 0)) (fun v16 =>
  bnd (lft (loadA T 23 v16)) (fun v17 =>
  bnd (lft (fieldAddrA T 40 (AV.ip (acells v15)) 1)) (fun v18 =>
  bnd (lft (loadA T 23 v18)) (fun v19 =>
  bnd (lft (fieldAddrA T 40 (nth v11 0) 0)) (fun v20 =>
  bnd (lft (loadA T 23 v20)) (fun v21 =>
  bnd (noPan (call 47 [v19, v21])) (fun v22 =>
  bnd (lft (buildA T false 40 [(0, v17), (1, v22)])) (fun v23 =>
  bnd (lft (fieldAddrA T 40 (AV.ip (acells v15)) 0)) (fun v24 =>
  bnd (lft (loadA T 23 v24)) (fun v25 =>
  bnd (lft (fieldAddrA T 40 (nth v11 0) 1)) (fun v26 =>
  bnd (lft (loadA T 23 v26)) (fun v27 =>
  bnd (noPan (call 46 [v25, v27])) (fun v28 =>
  bnd (lft (fieldAddrA T 40 (AV.ip (acells v15)) 1)) (fun v29 =>
  bnd (lft (loadA T 23 v29)) (fun v30 =>
  bnd (lft (buildA T false 40 [(0, v28), (1, v30)])) (fun v31 =>
  bnd (lft (buildSliceA T 24 2 [(0, v23), (1, v31)])) (fun v32 =>
  bnd (lft (appA T 24 (nth v11 1) v32)) (fun v33 =>
  bnd (lft (binA T BinOp.add 3 (nth v11 7) (AV.int IntKind.i64 1))) (fun v34 =>
  v10 [nth v11 0, v33, nth v11 2, nth v11 3, nth v11 4, nth v11 5, nth v11 6, v34]))))))))))))))))))))))) (bnd (call 20 [nth v11 1]) (fun v35 =>
  bnd (lft (binA T BinOp.add 3 (nth v11 4) (AV.int IntKind.i64 1))) (fun v36 =>
  v3 [v35, nth v11 2, nth v11 3, v36]))))
noncomputable def L25_1 (call : FuncId → List AV → M AV) (fx : Fix AV) (v3 : List AV → M AV) (v4 : List AV) : M AV :=
  bnd (lft (binA T BinOp.lss 3 (nth v4 3) (nth v4 2))) (fun v5 =>
  condM v5 (bnd (lft (indexAddrA T 24 (nth v4 1) (nth v4 3))) (fun v6 =>
  bnd (lft (loadA T 40 v6)) (fun v7 =>
  bnd (cellsM 6 v7) (fun v8 =>
  bnd (lft (lenA T 24 (nth v4 0))) (fun v9 =>
  fx (L25_0 call fx v3) [AV.ip (acells v8), AV.sl [], nth v4 1, nth v4 2, nth v4 3, nth v4 0, v9, AV.int IntKind.i64 0]))))) (M.pure (nth v4 0)))
theorem XL25_0 {call : FuncId → List AV → M AV} {v3 : List AV → M AV} {v3s : Nat → List AV → M AV} (hv3 : LimF v3 fun n => v3s n) : Cont1 (L25_0 call fixW v3) fun n => L25_0 call fixW (v3s n) := by
  intro v10 v10s hself v11
  unfold L25_0
  exact (LimM.bnd (LimM.const _) fun _ => (condM_lim (LimM.bnd (LimM.const _) fun _ => (LimM.bnd (LimM.const _) fun _ => (LimM.bnd (LimM.const _) fun _ => (LimM.bnd (LimM.const _) fun _ => (LimM.bnd (LimM.const _) fun _ => (LimM.bnd (LimM.const _) fun _ => (LimM.bnd (LimM.const _) fun _ => (LimM.bnd (LimM.const _) fun _ => (LimM.bnd (LimM.const _) fun _ => (LimM.bnd (LimM.const _) fun _ => (LimM.bnd (LimM.const _) fun _ => (LimM.bnd (LimM.const _) fun _ => (LimM.bnd (LimM.const _) fun _ => (LimM.bnd (LimM.const _) fun _ => (LimM.bnd (LimM.const _) fun _ => (LimM.bnd (LimM.const _) fun _ => (LimM.bnd (LimM.const _) fun _ => (LimM.bnd (LimM.const _) fun _ => (LimM.bnd (LimM.const _) fun _ => (LimM.bnd (LimM.const _) fun _ => (LimM.bnd (LimM.const _) fun _ => (LimM.bnd (LimM.const _) fun _ => (hself _))))))))))))))))))))))) (LimM.bnd (LimM.const _) fun _ => (LimM.bnd (LimM.const _) fun _ => (hv3 _)))))
theorem YL25_0 {call : FuncId → List AV → M AV} {v3 : List AV → M AV} {v3s : Nat → List AV → M AV} (hv3 : LimF v3 fun n => v3s n) : LimF (fixW (L25_0 call fixW v3)) fun n => fixW (L25_0 call fixW (v3s n)) := fixW_limF (XL25_0 hv3) (XL25_0 (LimF.const _)) fun _ => XL25_0 (LimF.const _)
theorem FL25_0 (call : FuncId → List AV → M AV) (v3 : List AV → M AV) (vs : List AV) : fixW (L25_0 call fixW v3) vs = L25_0 call fixW v3 (fixW (L25_0 call fixW v3)) vs := fixW_eq (XL25_0 (LimF.const _)) vs
theorem XL25_1 {call : FuncId → List AV → M AV} : Cont1 (L25_1 call fixW ) fun _n => L25_1 call fixW  := by
  intro v3 v3s hself v4
  unfold L25_1
  exact (LimM.bnd (LimM.const _) fun _ => (condM_lim (LimM.bnd (LimM.const _) fun _ => (LimM.bnd (LimM.const _) fun _ => (LimM.bnd (LimM.const _) fun _ => (LimM.bnd (LimM.const _) fun _ => ((YL25_0 hself) _))))) (LimM.const _)))
theorem FL25_1 (call : FuncId → List AV → M AV) (vs : List AV) : fixW (L25_1 call fixW ) vs = L25_1 call fixW  (fixW (L25_1 call fixW )) vs := fixW_eq (XL25_1 ) vs
noncomputable def S25 (call : FuncId → List AV → M AV) (fx : Fix AV) (a0 a1 : AV) : M AV :=
  bnd (call 20 [a0]) (fun v0 =>
  bnd (call 20 [a1]) (fun v1 =>
  bnd (lft (lenA T 24 v1)) (fun v2 =>
  fx (L25_1 call fx) [v0, v1, v2, AV.int IntKind.i64 0])))
theorem E25 (call : FuncId → List AV → M AV) (fx : Fix AV) (a0 a1 : AV) : evBody (pg.cx call Tryz.f25.ntmps ann25) fx Tryz.f25 (own 25) [a0, a1] = S25 call fx a0 a1 := by kernel_rfl
theorem C25 (a0 a1 : AV) : callW pg 25 [a0, a1] = isoP (S25 (callW pg) fixW (cl noHs a0) (cl noHs a1)) := (callW_iso hOther rfl rfl rfl _).trans (congrArg isoP (E25 _ _ (cl noHs a0) (cl noHs a1)))
noncomputable def L31_0 (call : FuncId → List AV → M AV) (fx : Fix AV) (v1 : List AV → M AV) (v2 : List AV) : M AV :=
  bnd (lft (binA T BinOp.lss 3 (nth v2 3) (nth v2 2))) (fun v3 =>
  condM v3 (bnd (lft (indexAddrA T 51 (nth v2 1) (nth v2 3))) (fun v4 =>
  bnd (lft (loadA T 3 v4)) (fun v5 =>
  bnd (lft (binA T BinOp.neq 3 v5 (nth v2 0))) (fun v6 =>
  condM v6 (M.pure v5) (bnd (lft (binA T BinOp.add 3 (nth v2 3) (AV.int IntKind.i64 1))) (fun v7 =>
  v1 [nth v2 0, nth v2 1, nth v2 2, v7])))))) (M.pure (nth v2 0)))
theorem XL31_0 {call : FuncId → List AV → M AV} : Cont1 (L31_0 call fixW ) fun _n => L31_0 call fixW  := by
  intro v1 v1s hself v2
  unfold L31_0
  exact (LimM.bnd (LimM.const _) fun _ => (condM_lim (LimM.bnd (LimM.const _) fun _ => (LimM.bnd (LimM.const _) fun _ => (LimM.bnd (LimM.const _) fun _ => (condM_lim (LimM.const _) (LimM.bnd (LimM.const _) fun _ => (hself _)))))) (LimM.const _)))
theorem FL31_0 (call : FuncId → List AV → M AV) (vs : List AV) : fixW (L31_0 call fixW ) vs = L31_0 call fixW  (fixW (L31_0 call fixW )) vs := fixW_eq (XL31_0 ) vs
noncomputable def S31 (call : FuncId → List AV → M AV) (fx : Fix AV) (a0 : AV) : M AV :=
  bnd (lft (lenA T 51 a0)) (fun v0 =>
  fx (L31_0 call fx) [AV.int IntKind.i64 0, a0, v0, AV.int IntKind.i64 0])
theorem E31 (call : FuncId → List AV → M AV) (fx : Fix AV) (a0 : AV) : evBody (pg.cx call Tryz.f31.ntmps ann31) fx Tryz.f31 (own 31) [a0] = S31 call fx a0 := by kernel_rfl
theorem C31 (a0 : AV) : callW pg 31 [a0] = isoP (S31 (callW pg) fixW (cl noHs a0)) := (callW_iso hOther rfl rfl rfl _).trans (congrArg isoP (E31 _ _ (cl noHs a0)))
noncomputable def S34 (call : FuncId → List AV → M AV) (fx : Fix AV) (a0 : AV) : M AV :=
  bnd (lft (binA T BinOp.rem 3 a0 (AV.int IntKind.i64 10))) (fun v0 =>
  bnd (lft (binA T BinOp.rem 3 a0 (AV.int IntKind.i64 10))) (fun v1 =>
  bnd (lft (binA T BinOp.add 3 v1 (AV.int IntKind.i64 1))) (fun v2 =>
  bnd (lft (sliceA T 9 (AV.str [48, 49, 50, 51, 52, 53, 54, 55, 56, 57]) (some v0) (some v2) none)) (fun v3 =>
  bnd (lft (binA T BinOp.lss 3 a0 (AV.int IntKind.i64 10))) (fun v4 =>
  condM v4 (M.pure v3) (bnd (lft (binA T BinOp.quo 3 a0 (AV.int IntKind.i64 10))) (fun v5 =>
  bnd (call 34 [v5]) (fun v6 =>
  bnd (lft (binA T BinOp.add 9 v6 v3)) (fun v7 =>
  M.pure v7)))))))))
theorem E34 (call : FuncId → List AV → M AV) (fx : Fix AV) (a0 : AV) : evBody (pg.cx call Tryz.f34.ntmps ann34) fx Tryz.f34 (own 34) [a0] = S34 call fx a0 := by kernel_rfl
theorem C34 (a0 : AV) : callW pg 34 [a0] = isoP (S34 (callW pg) fixW (cl noHs a0)) := (callW_iso hOther rfl rfl rfl _).trans (congrArg isoP (E34 _ _ (cl noHs a0)))
noncomputable def S35 (call : FuncId → List AV → M AV) (fx : Fix AV) (a0 a1 : AV) : M AV :=
  bnd (call 53 [a0, a1]) (fun v0 =>
  bnd (lft (binA T BinOp.geq 3 v0 (AV.int IntKind.i64 0))) (fun v1 =>
  M.pure v1))
theorem E35 (call : FuncId → List AV → M AV) (fx : Fix AV) (a0 a1 : AV) : evBody (pg.cx call Tryz.f35.ntmps ann35) fx Tryz.f35 (own 35) [a0, a1] = S35 call fx a0 a1 := by kernel_rfl
theorem C35 (a0 a1 : AV) : callW pg 35 [a0, a1] = isoP (S35 (callW pg) fixW (cl noHs a0) (cl noHs a1)) := (callW_iso hOther rfl rfl rfl _).trans (congrArg isoP (E35 _ _ (cl noHs a0) (cl noHs a1)))
noncomputable def S41 (call : FuncId → List AV → M AV) (fx : Fix AV) (a0 a1 : AV) : M AV :=
  bnd (lft (lenA T 24 a0)) (fun v0 =>
  bnd (lft (convA T 3 70 v0)) (fun v1 =>
  bnd (call 55 [v1]) (fun v2 =>
  bnd (call 54 [a0, AV.int IntKind.i64 0, v0, v2, a1]) (fun v3 =>
  M.pure (AV.tup [])))))
theorem E41 (call : FuncId → List AV → M AV) (fx : Fix AV) (a0 a1 : AV) : evBody (pg.cx call Tryz.f41.ntmps ann41) fx Tryz.f41 (own 41) [a0, a1] = S41 call fx a0 a1 := by kernel_rfl
theorem C41 (a0 a1 : AV) : callW pg 41 [a0, a1] = S41 (callW pg) fixW a0 a1 := (callW_heap hOther rfl rfl rfl _).trans (E41 _ _ a0 a1)
noncomputable def S42 (call : FuncId → List AV → M AV) (fx : Fix AV) (a0 a1 : AV) : M AV :=
  bnd (lft (fieldAddrA T 40 (AV.ip (acells a0)) 0)) (fun v0 =>
  bnd (lft (loadA T 23 v0)) (fun v1 =>
  bnd (lft (fieldAddrA T 40 (AV.ip (acells a1)) 0)) (fun v2 =>
  bnd (lft (loadA T 23 v2)) (fun v3 =>
  bnd (call 11 [v1, v3]) (fun v4 =>
  M.pure v4)))))
theorem E42 (call : FuncId → List AV → M AV) (fx : Fix AV) (a0 a1 : AV) : evBody (pg.cx call Tryz.f42.ntmps ann42) fx Tryz.f42 (own 42) [a0, a1] = S42 call fx a0 a1 := by kernel_rfl
theorem C42 (a0 a1 : AV) : callW pg 42 [a0, a1] = isoP (S42 (callW pg) fixW (cl noHs a0) (cl noHs a1)) := (callW_iso hOther rfl rfl rfl _).trans (congrArg isoP (E42 _ _ (cl noHs a0) (cl noHs a1)))
noncomputable def L43_0 (call : FuncId → List AV → M AV) (fx : Fix AV) (v15 : List AV → M AV) (v16 : List AV) : M AV :=
  bnd (lft (binA T BinOp.lss 3 (nth v16 3) (nth v16 2))) (fun v17 =>
  condM v17 (bnd (lft (indexAddrA T 71 (nth v16 1) (nth v16 3))) (fun v18 =>
  bnd (lft (loadA T 24 v18)) (fun v19 =>
  bnd (lft (appA T 24 (nth v16 0) v19)) (fun v20 =>
  bnd (lft (binA T BinOp.add 3 (nth v16 3) (AV.int IntKind.i64 1))) (fun v21 =>
  v15 [v20, nth v16 1, nth v16 2, v21]))))) (M.pure (nth v16 0)))
noncomputable def L43_1 (call : FuncId → List AV → M AV) (fx : Fix AV) (v1 : List AV → M AV) (v2 : List AV) : M AV :=
  bnd (lft (binA T BinOp.lss 3 (nth v2 4) (nth v2 3))) (fun v3 =>
  condM v3 (bnd (lft (indexAddrA T 71 (nth v2 2) (nth v2 4))) (fun v4 =>
  bnd (lft (loadA T 24 v4)) (fun v5 =>
  bnd (lft (lenA T 24 v5)) (fun v6 =>
  bnd (lft (binA T BinOp.add 3 (nth v2 1) v6)) (fun v7 =>
  bnd (lft (binA T BinOp.lss 3 v7 (AV.int IntKind.i64 0))) (fun v8 =>
  condM v8 (bnd (lft (mkIfaceA T 9 (AV.str [108, 101, 110, 32, 111, 117, 116, 32, 111, 102, 32, 114, 97, 110, 103, 101]))) (fun v9 =>
  bnd (panM v9) (fun v10 =>
  bnd (lft (binA T BinOp.add 3 (nth v2 4) (AV.int IntKind.i64 1))) (fun v11 =>
  v1 [nth v2 0, v7, nth v2 2, nth v2 3, v11])))) (bnd (lft (binA T BinOp.add 3 (nth v2 4) (AV.int IntKind.i64 1))) (fun v12 =>
  v1 [nth v2 0, v7, nth v2 2, nth v2 3, v12])))))))) (bnd (call 56 [AV.hn, nth v2 1]) (fun v13 =>
  bnd (lft (lenA T 71 (nth v2 0))) (fun v14 =>
  fx (L43_0 call fx) [v13, nth v2 0, v14, AV.int IntKind.i64 0]))))
theorem XL43_0 {call : FuncId → List AV → M AV} : Cont1 (L43_0 call fixW ) fun _n => L43_0 call fixW  := by
  intro v15 v15s hself v16
  unfold L43_0
  exact (LimM.bnd (LimM.const _) fun _ => (condM_lim (LimM.bnd (LimM.const _) fun _ => (LimM.bnd (LimM.const _) fun _ => (LimM.bnd (LimM.const _) fun _ => (LimM.bnd (LimM.const _) fun _ => (hself _))))) (LimM.const _)))
theorem FL43_0 (call : FuncId → List AV → M AV) (vs : List AV) : fixW (L43_0 call fixW ) vs = L43_0 call fixW  (fixW (L43_0 call fixW )) vs := fixW_eq (XL43_0 ) vs
theorem XL43_1 {call : FuncId → List AV → M AV} : Cont1 (L43_1 call fixW ) fun _n => L43_1 call fixW  := by
  intro v1 v1s hself v2
  unfold L43_1
  exact (LimM.bnd (LimM.const _) fun _ => (condM_lim (LimM.bnd (LimM.const _) fun _ => (LimM.bnd (LimM.const _) fun _ => (LimM.bnd (LimM.const _) fun _ => (LimM.bnd (LimM.const _) fun _ => (LimM.bnd (LimM.const _) fun _ => (condM_lim (LimM.bnd (LimM.const _) fun _ => (LimM.bnd (LimM.const _) fun _ => (LimM.bnd (LimM.const _) fun _ => (hself _)))) (LimM.bnd (LimM.const _) fun _ => (hself _)))))))) (LimM.const _)))
theorem FL43_1 (call : FuncId → List AV → M AV) (vs : List AV) : fixW (L43_1 call fixW ) vs = L43_1 call fixW  (fixW (L43_1 call fixW )) vs := fixW_eq (XL43_1 ) vs
noncomputable def S43 (call : FuncId → List AV → M AV) (fx : Fix AV) (a0 : AV) : M AV :=
  bnd (lft (lenA T 71 a0)) (fun v0 =>
  fx (L43_1 call fx) [a0, AV.int IntKind.i64 0, a0, v0, AV.int IntKind.i64 0])
theorem E43 (call : FuncId → List AV → M AV) (fx : Fix AV) (a0 : AV) : evBody (pg.cx call Tryz.f43.ntmps ann43) fx Tryz.f43 (own 43) [a0] = S43 call fx a0 := by kernel_rfl
theorem C43 (a0 : AV) : callW pg 43 [a0] = isoP (S43 (callW pg) fixW (cl noHs a0)) := (callW_iso hOther rfl rfl rfl _).trans (congrArg isoP (E43 _ _ (cl noHs a0)))
noncomputable def K44_0 (call : FuncId → List AV → M AV) (fx : Fix AV) (v3 : List AV → M AV) (v8 : List AV) : M AV :=
  bnd (lft (binA T BinOp.add 3 (nth v8 2) (AV.int IntKind.i64 1))) (fun v9 =>
  v3 [nth v8 0, nth v8 1, v9])
noncomputable def L44_0 (call : FuncId → List AV → M AV) (fx : Fix AV) (v10 : List AV → M AV) (v17 : List AV → M AV) (v18 : List AV) : M AV :=
  bnd (lft (lenA T 25 (nth v18 0))) (fun v19 =>
  bnd (lft (binA T BinOp.lss 3 (nth v18 3) v19)) (fun v20 =>
  bnd (guardM v20 true 1 (bnd (lft (indexAddrA T 25 (nth v18 0) (nth v18 3))) (fun v21 =>
  bnd (loadH T 23 v21) (fun v22 =>
  bnd (noPan (call 12 [v22, AV.agg [nth v18 4, nth v18 5, nth v18 6]])) (fun v23 =>
  bnd (lft (binA T BinOp.lss 3 v23 (AV.int IntKind.i64 0))) (fun v24 =>
  M.pure [v24])))))) (fun v25 =>
  bnd (lft (pickA v20 (nth v25 0) (AV.bool false))) (fun v26 =>
  condM v26 (bnd (lft (binA T BinOp.add 3 (nth v18 3) (AV.int IntKind.i64 1))) (fun v27 =>
  v17 [nth v18 0, nth v18 1, nth v18 2, v27, nth v18 4, nth v18 5, nth v18 6])) (bnd (lft (lenA T 25 (nth v18 0))) (fun v28 =>
  bnd (lft (binA T BinOp.lss 3 (nth v18 3) v28)) (fun v29 =>
  bnd (guardM v29 true 1 (bnd (lft (indexAddrA T 25 (nth v18 0) (nth v18 3))) (fun v30 =>
  bnd (loadH T 23 v30) (fun v31 =>
  bnd (lft (binA T BinOp.eql 23 v31 (AV.agg [nth v18 4, nth v18 5, nth v18 6]))) (fun v32 =>
  M.pure [v32]))))) (fun v33 =>
  bnd (lft (pickA v29 (nth v33 0) (AV.bool false))) (fun v34 =>
  condM v34 (v10 [nth v18 0, nth v18 1, nth v18 2]) (bnd (lft (buildSliceA T 25 1 [(0, AV.agg [nth v18 4, nth v18 5, nth v18 6])])) (fun v35 =>
  bnd (lft (sliceA T 25 (nth v18 0) (some (nth v18 3)) none none)) (fun v36 =>
  bnd (appR T 25 v35 v36) (fun v37 =>
  bnd (lft (sliceT T 25 (nth v18 0) none (some (nth v18 3)) none)) (fun v38 =>
  bnd (appH T 25 false v38 v37) (fun v39 =>
  v10 [v39, nth v18 1, nth v18 2])))))))))))))))
noncomputable def K44_1 (call : FuncId → List AV → M AV) (fx : Fix AV) (v10 : List AV → M AV) (v16 : List AV) : M AV :=
  fx (L44_0 call fx v10) [nth v16 0, nth v16 1, nth v16 2, AV.int IntKind.i64 0, nth v16 3, nth v16 4, nth v16 5]
noncomputable def L44_1 (call : FuncId → List AV → M AV) (fx : Fix AV) (v3 : List AV → M AV) (v4 : List AV) : M AV :=
  bnd (lft (lenA T 24 (nth v4 1))) (fun v5 =>
  bnd (lft (binA T BinOp.mul 3 (AV.int IntKind.i64 2) v5)) (fun v6 =>
  bnd (lft (binA T BinOp.lss 3 (nth v4 2) v6)) (fun v7 =>
  condM v7 (jn (K44_0 call fx v3) (fun v10 =>
  bnd (lft (binA T BinOp.quo 3 (nth v4 2) (AV.int IntKind.i64 2))) (fun v11 =>
  bnd (lft (indexAddrA T 24 (nth v4 1) v11)) (fun v12 =>
  bnd (lft (fieldAddrA T 40 v12 0)) (fun v13 =>
  bnd (lft (loadA T 23 v13)) (fun v14 =>
  bnd (cellsNil 3 [] v14) (fun v15 =>
  jn (K44_1 call fx v10) (fun v40 =>
  bnd (lft (binA T BinOp.rem 3 (nth v4 2) (AV.int IntKind.i64 2))) (fun v41 =>
  bnd (lft (binA T BinOp.eql 3 v41 (AV.int IntKind.i64 1))) (fun v42 =>
  condM v42 (bnd (lft (binA T BinOp.quo 3 (nth v4 2) (AV.int IntKind.i64 2))) (fun v43 =>
  bnd (lft (indexAddrA T 24 (nth v4 1) v43)) (fun v44 =>
  bnd (lft (fieldAddrA T 40 v44 1)) (fun v45 =>
  bnd (lft (loadA T 23 v45)) (fun v46 =>
  bnd (cellsNil 3 [] v46) (fun v47 =>
  v40 [nth v4 0, nth v4 1, nth v4 2, nth (acells v47) 0, nth (acells v47) 1, nth (acells v47) 2])))))) (v40 [nth v4 0, nth v4 1, nth v4 2, nth (acells v15) 0, nth (acells v15) 1, nth (acells v15) 2]))))))))))) (M.pure (nth v4 0)))))
theorem XK44_0 {call : FuncId → List AV → M AV} {v3 : List AV → M AV} {v3s : Nat → List AV → M AV} (hv3 : LimF v3 fun n => v3s n) : LimF (K44_0 call fixW v3) fun n => K44_0 call fixW (v3s n) := by
  intro v8
  unfold K44_0
  exact (LimM.bnd (LimM.const _) fun _ => (hv3 _))
theorem XL44_0 {call : FuncId → List AV → M AV} {v10 : List AV → M AV} {v10s : Nat → List AV → M AV} (hv10 : LimF v10 fun n => v10s n) : Cont1 (L44_0 call fixW v10) fun n => L44_0 call fixW (v10s n) := by
  intro v17 v17s hself v18
  unfold L44_0
  exact (LimM.bnd (LimM.const _) fun _ => (LimM.bnd (LimM.const _) fun _ => (LimM.bnd (LimM.const _) fun _ => (LimM.bnd (LimM.const _) fun _ => (condM_lim (LimM.bnd (LimM.const _) fun _ => (hself _)) (LimM.bnd (LimM.const _) fun _ => (LimM.bnd (LimM.const _) fun _ => (LimM.bnd (LimM.const _) fun _ => (LimM.bnd (LimM.const _) fun _ => (condM_lim (hv10 _) (LimM.bnd (LimM.const _) fun _ => (LimM.bnd (LimM.const _) fun _ => (LimM.bnd (LimM.const _) fun _ => (LimM.bnd (LimM.const _) fun _ => (LimM.bnd (LimM.const _) fun _ => (hv10 _))))))))))))))))
theorem YL44_0 {call : FuncId → List AV → M AV} {v10 : List AV → M AV} {v10s : Nat → List AV → M AV} (hv10 : LimF v10 fun n => v10s n) : LimF (fixW (L44_0 call fixW v10)) fun n => fixW (L44_0 call fixW (v10s n)) := fixW_limF (XL44_0 hv10) (XL44_0 (LimF.const _)) fun _ => XL44_0 (LimF.const _)
theorem FL44_0 (call : FuncId → List AV → M AV) (v10 : List AV → M AV) (vs : List AV) : fixW (L44_0 call fixW v10) vs = L44_0 call fixW v10 (fixW (L44_0 call fixW v10)) vs := fixW_eq (XL44_0 (LimF.const _)) vs
theorem XK44_1 {call : FuncId → List AV → M AV} {v10 : List AV → M AV} {v10s : Nat → List AV → M AV} (hv10 : LimF v10 fun n => v10s n) : LimF (K44_1 call fixW v10) fun n => K44_1 call fixW (v10s n) := by
  intro v16
  unfold K44_1
  exact ((YL44_0 hv10) _)
theorem XL44_1 {call : FuncId → List AV → M AV} : Cont1 (L44_1 call fixW ) fun _n => L44_1 call fixW  := by
  intro v3 v3s hself v4
  unfold L44_1
  exact (LimM.bnd (LimM.const _) fun _ => (LimM.bnd (LimM.const _) fun _ => (LimM.bnd (LimM.const _) fun _ => (condM_lim (jn_lim (XK44_0 hself) fun _ _ hv10 => (LimM.bnd (LimM.const _) fun _ => (LimM.bnd (LimM.const _) fun _ => (LimM.bnd (LimM.const _) fun _ => (LimM.bnd (LimM.const _) fun _ => (LimM.bnd (LimM.const _) fun _ => (jn_lim (XK44_1 hv10) fun _ _ hv40 => (LimM.bnd (LimM.const _) fun _ => (LimM.bnd (LimM.const _) fun _ => (condM_lim (LimM.bnd (LimM.const _) fun _ => (LimM.bnd (LimM.const _) fun _ => (LimM.bnd (LimM.const _) fun _ => (LimM.bnd (LimM.const _) fun _ => (LimM.bnd (LimM.const _) fun _ => (hv40 _)))))) (hv40 _))))))))))) (LimM.const _)))))
theorem FL44_1 (call : FuncId → List AV → M AV) (vs : List AV) : fixW (L44_1 call fixW ) vs = L44_1 call fixW  (fixW (L44_1 call fixW )) vs := fixW_eq (XL44_1 ) vs
noncomputable def S44 (call : FuncId → List AV → M AV) (fx : Fix AV) (a0 a1 : AV) : M AV :=
  bnd (lft (buildSliceA T 24 0 [])) (fun v0 =>
  bnd (lft (appA T 24 v0 a0)) (fun v1 =>
  bnd (lft (appA T 24 v1 a1)) (fun v2 =>
  fx (L44_1 call fx) [AV.hn, v2, AV.int IntKind.i64 0])))
theorem E44 (call : FuncId → List AV → M AV) (fx : Fix AV) (a0 a1 : AV) : evBody (pg.cx call Tryz.f44.ntmps ann44) fx Tryz.f44 (own 44) [a0, a1] = S44 call fx a0 a1 := by kernel_rfl
theorem C44 (a0 a1 : AV) : callW pg 44 [a0, a1] = isoP (S44 (callW pg) fixW (cl noHs a0) (cl noHs a1)) := (callW_iso hOther rfl rfl rfl _).trans (congrArg isoP (E44 _ _ (cl noHs a0) (cl noHs a1)))
noncomputable def S45 (call : FuncId → List AV → M AV) (fx : Fix AV) (a0 a1 a2 a3 : AV) : M AV :=
  bnd (lft (loadA T 23 (AV.ip (acells a3)))) (fun v0 =>
  bnd (call 18 [a0, v0]) (fun v1 =>
  bnd (lft (loadA T 23 (AV.ip (acells a3)))) (fun v2 =>
  bnd (call 18 [a1, v2]) (fun v3 =>
  bnd (lft (binA T BinOp.eql 3 a2 (AV.int IntKind.i64 0))) (fun v4 =>
  bnd (guardM v4 true 1 (M.pure [v1])) (fun v5 =>
  bnd (guardM (nth v5 0) false 1 (M.pure [v3])) (fun v6 =>
  bnd (guardM v4 true 1 (bnd (lft (pickA (nth v5 0) (AV.bool true) (nth v6 0))) (fun v7 =>
  M.pure [v7]))) (fun v8 =>
  bnd (lft (pickA v4 (nth v8 0) (AV.bool false))) (fun v9 =>
  bnd (guardM v9 false 1 (bnd (lft (binA T BinOp.eql 3 a2 (AV.int IntKind.i64 1))) (fun v10 =>
  M.pure [v10]))) (fun v11 =>
  bnd (guardM (nth v11 0) true 1 (M.pure [v1])) (fun v12 =>
  bnd (guardM v9 false 1 (bnd (lft (pickA (nth v11 0) (nth v12 0) (AV.bool false))) (fun v13 =>
  M.pure [v13]))) (fun v14 =>
  bnd (guardM (nth v14 0) true 1 (M.pure [v3])) (fun v15 =>
  bnd (guardM v9 false 1 (bnd (lft (pickA (nth v14 0) (nth v15 0) (AV.bool false))) (fun v16 =>
  M.pure [v16]))) (fun v17 =>
  bnd (lft (pickA v9 (AV.bool true) (nth v17 0))) (fun v18 =>
  bnd (guardM v18 false 1 (bnd (lft (binA T BinOp.eql 3 a2 (AV.int IntKind.i64 2))) (fun v19 =>
  M.pure [v19]))) (fun v20 =>
  bnd (guardM (nth v20 0) true 1 (M.pure [v1])) (fun v21 =>
  bnd (guardM v18 false 1 (bnd (lft (pickA (nth v20 0) (nth v21 0) (AV.bool false))) (fun v22 =>
  M.pure [v22]))) (fun v23 =>
  bnd (guardM (nth v23 0) true 1 (bnd (lft (unA UnOp.not v3)) (fun v24 =>
  M.pure [v24]))) (fun v25 =>
  bnd (guardM v18 false 1 (bnd (lft (pickA (nth v23 0) (nth v25 0) (AV.bool false))) (fun v26 =>
  M.pure [v26]))) (fun v27 =>
  bnd (lft (pickA v18 (AV.bool true) (nth v27 0))) (fun v28 =>
  M.pure v28)))))))))))))))))))))
theorem E45 (call : FuncId → List AV → M AV) (fx : Fix AV) (a0 a1 a2 a3 : AV) : evBody (pg.cx call Tryz.f45.ntmps ann45) fx Tryz.f45 (own 45) [a0, a1, a2, a3] = S45 call fx a0 a1 a2 a3 := by kernel_rfl
theorem C45 (a0 a1 a2 a3 : AV) : callW pg 45 [a0, a1, a2, a3] = isoP (S45 (callW pg) fixW (cl noHs a0) (cl noHs a1) (cl noHs a2) (cl noHs a3)) := (callW_iso hOther rfl rfl rfl _).trans (congrArg isoP (E45 _ _ (cl noHs a0) (cl noHs a1) (cl noHs a2) (cl noHs a3)))
noncomputable def S47 (call : FuncId → List AV → M AV) (fx : Fix AV) (a0 a1 : AV) : M AV :=
  bnd (lft (loadA T 23 (AV.ip (acells a0)))) (fun v0 =>
  bnd (lft (loadA T 23 (AV.ip (acells a1)))) (fun v1 =>
  bnd (call 11 [v0, v1]) (fun v2 =>
  bnd (lft (binA T BinOp.lss 3 v2 (AV.int IntKind.i64 0))) (fun v3 =>
  condM v3 (bnd (lft (loadA T 23 (AV.ip (acells a0)))) (fun v4 =>
  bnd (cellsNil 3 [] v4) (fun v5 =>
  M.pure (AV.agg [nth (acells v5) 0, nth (acells v5) 1, nth (acells v5) 2])))) (bnd (lft (loadA T 23 (AV.ip (acells a1)))) (fun v6 =>
  bnd (cellsNil 3 [] v6) (fun v7 =>
  M.pure (AV.agg [nth (acells v7) 0, nth (acells v7) 1, nth (acells v7) 2]))))))))
theorem E47 (call : FuncId → List AV → M AV) (fx : Fix AV) (a0 a1 : AV) : evBody (pg.cx call Tryz.f47.ntmps ann47) fx Tryz.f47 (own 47) [a0, a1] = S47 call fx a0 a1 := by kernel_rfl
theorem C47 (a0 a1 : AV) : callW pg 47 [a0, a1] = isoP (S47 (callW pg) fixW (cl noHs a0) (cl noHs a1)) := (callW_iso hOther rfl rfl rfl _).trans (congrArg isoP (E47 _ _ (cl noHs a0) (cl noHs a1)))
end Go.Proofs.YtllapohmppeceaaGreatDoor
