/- Shallow programs of the functions, part 0: written by a program. No condition. -/
import Derived.Test.YtllapohmppeceaaDoorAnn
namespace Go.Proofs.YtllapohmppeceaaDoor
open Go Go.Av
set_option maxRecDepth 100000
/-- lading.ladinglaw12.VersionOrder -/
noncomputable def S4 (call : FuncId → List AV → M AV) (fx : Fix AV) (a0 a1 a2 : AV) : M AV :=
  bnd (call 8 []) (fun v0 =>
  bnd (lft (loadA T 23 (AV.ip (acells a0)))) (fun v1 =>
  bnd (lft (loadA T 23 (AV.ip (acells a1)))) (fun v2 =>
  bnd (call 12 [v1, v2]) (fun v3 =>
  bnd (lft (binA T BinOp.eql 3 v3 (AV.int IntKind.i64 0))) (fun v4 =>
  bnd (lft (loadA T 23 (AV.ip (acells a0)))) (fun v5 =>
  bnd (lft (loadA T 23 (AV.ip (acells a1)))) (fun v6 =>
  bnd (lft (binA T BinOp.eql 23 v5 v6)) (fun v7 =>
  bnd (lft (binA T BinOp.neq 4 v4 v7)) (fun v8 =>
  bnd (guardM v8 false 1 (bnd (lft (loadA T 23 (AV.ip (acells a1)))) (fun v9 =>
  bnd (lft (loadA T 23 (AV.ip (acells a0)))) (fun v10 =>
  bnd (call 12 [v9, v10]) (fun v11 =>
  bnd (lft (unA UnOp.neg v3)) (fun v12 =>
  bnd (lft (binA T BinOp.neq 3 v11 v12)) (fun v13 =>
  M.pure [v13]))))))) (fun v14 =>
  bnd (lft (pickA v8 (AV.bool true) (nth v14 0))) (fun v15 =>
  bnd (guardM v15 false 1 (bnd (lft (binA T BinOp.lss 3 v3 (AV.int IntKind.i64 (-1)))) (fun v16 =>
  M.pure [v16]))) (fun v17 =>
  bnd (lft (pickA v15 (AV.bool true) (nth v17 0))) (fun v18 =>
  bnd (guardM v18 false 1 (bnd (lft (binA T BinOp.gtr 3 v3 (AV.int IntKind.i64 1))) (fun v19 =>
  M.pure [v19]))) (fun v20 =>
  bnd (lft (pickA v18 (AV.bool true) (nth v20 0))) (fun v21 =>
  condM v21 (M.pure (AV.bool false)) (bnd (lft (binA T BinOp.leq 3 v3 (AV.int IntKind.i64 0))) (fun v22 =>
  bnd (guardM v22 true 1 (bnd (lft (loadA T 23 (AV.ip (acells a1)))) (fun v23 =>
  bnd (lft (loadA T 23 (AV.ip (acells a2)))) (fun v24 =>
  bnd (call 12 [v23, v24]) (fun v25 =>
  bnd (lft (binA T BinOp.leq 3 v25 (AV.int IntKind.i64 0))) (fun v26 =>
  M.pure [v26])))))) (fun v27 =>
  bnd (lft (pickA v22 (nth v27 0) (AV.bool false))) (fun v28 =>
  bnd (guardM v28 true 1 (bnd (lft (loadA T 23 (AV.ip (acells a0)))) (fun v29 =>
  bnd (lft (loadA T 23 (AV.ip (acells a2)))) (fun v30 =>
  bnd (call 12 [v29, v30]) (fun v31 =>
  bnd (lft (binA T BinOp.gtr 3 v31 (AV.int IntKind.i64 0))) (fun v32 =>
  M.pure [v32])))))) (fun v33 =>
  bnd (lft (pickA v28 (nth v33 0) (AV.bool false))) (fun v34 =>
  condM v34 (M.pure (AV.bool false)) (bnd (lft (loadA T 23 (AV.ip (acells a0)))) (fun v35 =>
  bnd (lft (loadA T 23 (AV.ip (acells a1)))) (fun v36 =>
  bnd (call 13 [v35, v36]) (fun v37 =>
  bnd (lft (loadA T 23 (AV.ip (acells a0)))) (fun v38 =>
  bnd (lft (loadA T 23 (AV.ip (acells a2)))) (fun v39 =>
  bnd (call 13 [v38, v39]) (fun v40 =>
  bnd (lft (binA T BinOp.gtr 3 v37 (AV.int IntKind.i64 0))) (fun v41 =>
  bnd (lft (loadA T 23 (AV.ip (acells a0)))) (fun v42 =>
  bnd (call 11 [v42]) (fun v43 =>
  bnd (guardM v43 true 1 (bnd (lft (loadA T 23 (AV.ip (acells a1)))) (fun v44 =>
  bnd (call 11 [v44]) (fun v45 =>
  M.pure [v45])))) (fun v46 =>
  bnd (lft (pickA v43 (nth v46 0) (AV.bool false))) (fun v47 =>
  bnd (guardM v47 true 1 (bnd (lft (binA T BinOp.lss 3 v3 (AV.int IntKind.i64 0))) (fun v48 =>
  M.pure [v48]))) (fun v49 =>
  bnd (lft (pickA v47 (nth v49 0) (AV.bool false))) (fun v50 =>
  bnd (lft (binA T BinOp.neq 4 v41 v50)) (fun v51 =>
  bnd (guardM v51 false 1 (bnd (lft (binA T BinOp.lss 3 v37 (AV.int IntKind.i64 0))) (fun v52 =>
  M.pure [v52]))) (fun v53 =>
  bnd (lft (pickA v51 (AV.bool true) (nth v53 0))) (fun v54 =>
  bnd (guardM v54 false 1 (bnd (lft (binA T BinOp.gtr 3 v37 (AV.int IntKind.i64 3))) (fun v55 =>
  M.pure [v55]))) (fun v56 =>
  bnd (lft (pickA v54 (AV.bool true) (nth v56 0))) (fun v57 =>
  condM v57 (M.pure (AV.bool false)) (bnd (guardM v0 true 1 (bnd (lft (binA T BinOp.eql 3 v37 (AV.int IntKind.i64 0))) (fun v58 =>
  M.pure [v58]))) (fun v59 =>
  bnd (guardM (nth v59 0) false 1 (bnd (lft (binA T BinOp.eql 3 v40 (AV.int IntKind.i64 0))) (fun v60 =>
  M.pure [v60]))) (fun v61 =>
  bnd (guardM v0 true 1 (bnd (lft (pickA (nth v59 0) (AV.bool true) (nth v61 0))) (fun v62 =>
  M.pure [v62]))) (fun v63 =>
  bnd (guardM (nth v63 0) false 1 (bnd (lft (loadA T 23 (AV.ip (acells a1)))) (fun v64 =>
  bnd (lft (loadA T 23 (AV.ip (acells a2)))) (fun v65 =>
  bnd (call 12 [v64, v65]) (fun v66 =>
  bnd (lft (binA T BinOp.gtr 3 v66 (AV.int IntKind.i64 0))) (fun v67 =>
  M.pure [v67])))))) (fun v68 =>
  bnd (guardM v0 true 1 (bnd (lft (pickA (nth v63 0) (AV.bool true) (nth v68 0))) (fun v69 =>
  M.pure [v69]))) (fun v70 =>
  bnd (guardM (nth v70 0) false 1 (bnd (lft (binA T BinOp.leq 3 v37 v40)) (fun v71 =>
  M.pure [v71]))) (fun v72 =>
  bnd (guardM v0 true 1 (bnd (lft (pickA (nth v70 0) (AV.bool true) (nth v72 0))) (fun v73 =>
  M.pure [v73]))) (fun v74 =>
  bnd (lft (pickA v0 (nth v74 0) (AV.bool false))) (fun v75 =>
  M.pure v75)))))))))))))))))))))))))))))))))))))))))))))))))
theorem E4 (call : FuncId → List AV → M AV) (fx : Fix AV) (a0 a1 a2 : AV) : evBody (pg.cx call Tryd.f4.ntmps ann4) fx Tryd.f4 (own 4) [a0, a1, a2] = S4 call fx a0 a1 a2 := by kernel_rfl
theorem C4 (a0 a1 a2 : AV) : callW pg 4 [a0, a1, a2] = isoP (S4 (callW pg) fixW (cl noHs a0) (cl noHs a1) (cl noHs a2)) := (callW_iso hOther rfl rfl rfl _).trans (congrArg isoP (E4 _ _ (cl noHs a0) (cl noHs a1) (cl noHs a2)))
/-- lading.ladinglaw12.small -/
noncomputable def S8 (call : FuncId → List AV → M AV) (fx : Fix AV) : M AV :=
  bnd (call 10 [AV.str [49, 46, 48, 50, 46, 51]]) (fun v0 =>
  bnd (lft (extractA v0 0)) (fun v1 =>
  bnd (lft (extractA v0 1)) (fun v2 =>
  bnd (cellsM 3 v1) (fun v3 =>
  bnd (call 10 [AV.str [49, 46, 50]]) (fun v4 =>
  bnd (lft (extractA v4 0)) (fun v5 =>
  bnd (lft (extractA v4 1)) (fun v6 =>
  bnd (cellsM 3 v5) (fun v7 =>
  bnd (call 10 [AV.str [49, 46, 50, 46, 51]]) (fun v8 =>
  bnd (lft (extractA v8 0)) (fun v9 =>
  bnd (lft (extractA v8 1)) (fun v10 =>
  bnd (cellsM 3 v9) (fun v11 =>
  bnd (call 23 [AV.int IntKind.i64 1, AV.int IntKind.i64 0, AV.int IntKind.i64 0]) (fun v12 =>
  bnd (call 23 [AV.int IntKind.i64 2, AV.int IntKind.i64 0, AV.int IntKind.i64 0]) (fun v13 =>
  bnd (call 22 [v12, v13]) (fun v14 =>
  bnd (call 23 [AV.int IntKind.i64 2, AV.int IntKind.i64 0, AV.int IntKind.i64 0]) (fun v15 =>
  bnd (call 23 [AV.int IntKind.i64 3, AV.int IntKind.i64 0, AV.int IntKind.i64 0]) (fun v16 =>
  bnd (call 22 [v15, v16]) (fun v17 =>
  bnd (call 23 [AV.int IntKind.i64 5, AV.int IntKind.i64 0, AV.int IntKind.i64 0]) (fun v18 =>
  bnd (call 23 [AV.int IntKind.i64 4, AV.int IntKind.i64 0, AV.int IntKind.i64 0]) (fun v19 =>
  bnd (call 22 [v18, v19]) (fun v20 =>
  bnd (lft (buildSliceA T 32 3 [(0, v14), (1, v17), (2, v20)])) (fun v21 =>
  bnd (call 14 [v21]) (fun v22 =>
  bnd (call 23 [AV.int IntKind.i64 1, AV.int IntKind.i64 0, AV.int IntKind.i64 0]) (fun v23 =>
  bnd (call 23 [AV.int IntKind.i64 3, AV.int IntKind.i64 0, AV.int IntKind.i64 0]) (fun v24 =>
  bnd (call 22 [v23, v24]) (fun v25 =>
  bnd (lft (buildSliceA T 32 1 [(0, v25)])) (fun v26 =>
  bnd (call 23 [AV.int IntKind.i64 1, AV.int IntKind.i64 5, AV.int IntKind.i64 0]) (fun v27 =>
  bnd (call 23 [AV.int IntKind.i64 2, AV.int IntKind.i64 0, AV.int IntKind.i64 0]) (fun v28 =>
  bnd (call 22 [v27, v28]) (fun v29 =>
  bnd (lft (buildSliceA T 32 1 [(0, v29)])) (fun v30 =>
  bnd (call 17 [v26, v30]) (fun v31 =>
  bnd (call 23 [AV.int IntKind.i64 1, AV.int IntKind.i64 4, AV.int IntKind.i64 0]) (fun v32 =>
  bnd (call 23 [AV.int IntKind.i64 2, AV.int IntKind.i64 1, AV.int IntKind.i64 0]) (fun v33 =>
  bnd (call 22 [v32, v33]) (fun v34 =>
  bnd (lft (buildSliceA T 32 1 [(0, v34)])) (fun v35 =>
  bnd (call 16 [v31, v35]) (fun v36 =>
  bnd (call 23 [AV.int IntKind.i64 1, AV.int IntKind.i64 0, AV.int IntKind.i64 0]) (fun v37 =>
  bnd (call 23 [AV.int IntKind.i64 2, AV.int IntKind.i64 9, AV.int IntKind.i64 9]) (fun v38 =>
  bnd (call 23 [AV.int IntKind.i64 3, AV.int IntKind.i64 0, AV.int IntKind.i64 0]) (fun v39 =>
  bnd (lft (buildSliceA T 42 3 [(0, v37), (1, v38), (2, v39)])) (fun v40 =>
  bnd (call 21 [v40, v26]) (fun v41 =>
  bnd (lft (extractA v41 0)) (fun v42 =>
  bnd (lft (extractA v41 1)) (fun v43 =>
  bnd (cellsM 3 v42) (fun v44 =>
  bnd (noPan (call 23 [AV.int IntKind.i64 1, AV.int IntKind.i64 2, AV.int IntKind.i64 3])) (fun v45 =>
  bnd (noPan (call 9 [v45])) (fun v46 =>
  bnd (lft (binA T BinOp.eql 9 v46 (AV.str [49, 46, 50, 46, 51]))) (fun v47 =>
  bnd (guardM v47 true 1 (bnd (lft (unA UnOp.not v2)) (fun v48 =>
  M.pure [v48]))) (fun v49 =>
  bnd (lft (pickA v47 (nth v49 0) (AV.bool false))) (fun v50 =>
  bnd (guardM v50 true 1 (bnd (lft (unA UnOp.not v6)) (fun v51 =>
  M.pure [v51]))) (fun v52 =>
  bnd (lft (pickA v50 (nth v52 0) (AV.bool false))) (fun v53 =>
  bnd (guardM v53 true 1 (M.pure [v10])) (fun v54 =>
  bnd (lft (pickA v53 (nth v54 0) (AV.bool false))) (fun v55 =>
  bnd (guardM v55 true 1 (bnd (lft (loadA T 23 (AV.ip (acells v11)))) (fun v56 =>
  bnd (noPan (call 23 [AV.int IntKind.i64 1, AV.int IntKind.i64 2, AV.int IntKind.i64 3])) (fun v57 =>
  bnd (lft (binA T BinOp.eql 23 v56 v57)) (fun v58 =>
  M.pure [v58]))))) (fun v59 =>
  bnd (lft (pickA v55 (nth v59 0) (AV.bool false))) (fun v60 =>
  bnd (guardM v60 true 1 (bnd (lft (loadA T 23 (AV.ip (acells v11)))) (fun v61 =>
  bnd (noPan (call 23 [AV.int IntKind.i64 1, AV.int IntKind.i64 2, AV.int IntKind.i64 9])) (fun v62 =>
  bnd (noPan (call 13 [v61, v62])) (fun v63 =>
  bnd (lft (binA T BinOp.eql 3 v63 (AV.int IntKind.i64 1))) (fun v64 =>
  M.pure [v64])))))) (fun v65 =>
  bnd (lft (pickA v60 (nth v65 0) (AV.bool false))) (fun v66 =>
  bnd (guardM v66 true 1 (bnd (lft (loadA T 23 (AV.ip (acells v11)))) (fun v67 =>
  bnd (noPan (call 23 [AV.int IntKind.i64 1, AV.int IntKind.i64 3, AV.int IntKind.i64 0])) (fun v68 =>
  bnd (noPan (call 13 [v67, v68])) (fun v69 =>
  bnd (lft (binA T BinOp.eql 3 v69 (AV.int IntKind.i64 2))) (fun v70 =>
  M.pure [v70])))))) (fun v71 =>
  bnd (lft (pickA v66 (nth v71 0) (AV.bool false))) (fun v72 =>
  bnd (guardM v72 true 1 (bnd (lft (loadA T 23 (AV.ip (acells v11)))) (fun v73 =>
  bnd (noPan (call 23 [AV.int IntKind.i64 2, AV.int IntKind.i64 0, AV.int IntKind.i64 0])) (fun v74 =>
  bnd (noPan (call 13 [v73, v74])) (fun v75 =>
  bnd (lft (binA T BinOp.eql 3 v75 (AV.int IntKind.i64 3))) (fun v76 =>
  M.pure [v76])))))) (fun v77 =>
  bnd (lft (pickA v72 (nth v77 0) (AV.bool false))) (fun v78 =>
  bnd (guardM v78 true 1 (bnd (lft (loadA T 23 (AV.ip (acells v11)))) (fun v79 =>
  bnd (lft (loadA T 23 (AV.ip (acells v11)))) (fun v80 =>
  bnd (noPan (call 13 [v79, v80])) (fun v81 =>
  bnd (lft (binA T BinOp.eql 3 v81 (AV.int IntKind.i64 0))) (fun v82 =>
  M.pure [v82])))))) (fun v83 =>
  bnd (lft (pickA v78 (nth v83 0) (AV.bool false))) (fun v84 =>
  bnd (call 20 [v22, v26]) (fun v85 =>
  bnd (guardM v85 true 1 (bnd (call 23 [AV.int IntKind.i64 1, AV.int IntKind.i64 0, AV.int IntKind.i64 0]) (fun v86 =>
  bnd (call 23 [AV.int IntKind.i64 1, AV.int IntKind.i64 5, AV.int IntKind.i64 0]) (fun v87 =>
  bnd (call 22 [v86, v87]) (fun v88 =>
  bnd (call 23 [AV.int IntKind.i64 2, AV.int IntKind.i64 0, AV.int IntKind.i64 0]) (fun v89 =>
  bnd (call 23 [AV.int IntKind.i64 3, AV.int IntKind.i64 0, AV.int IntKind.i64 0]) (fun v90 =>
  bnd (call 22 [v89, v90]) (fun v91 =>
  bnd (lft (buildSliceA T 32 2 [(0, v88), (1, v91)])) (fun v92 =>
  bnd (call 20 [v31, v92]) (fun v93 =>
  M.pure [v93])))))))))) (fun v94 =>
  bnd (lft (pickA v85 (nth v94 0) (AV.bool false))) (fun v95 =>
  bnd (guardM v84 true 1 (M.pure [v95])) (fun v96 =>
  bnd (lft (pickA v84 (nth v96 0) (AV.bool false))) (fun v97 =>
  bnd (guardM v97 true 1 (bnd (noPan (call 23 [AV.int IntKind.i64 1, AV.int IntKind.i64 4, AV.int IntKind.i64 0])) (fun v98 =>
  bnd (noPan (call 23 [AV.int IntKind.i64 1, AV.int IntKind.i64 5, AV.int IntKind.i64 0])) (fun v99 =>
  bnd (noPan (call 22 [v98, v99])) (fun v100 =>
  bnd (noPan (call 23 [AV.int IntKind.i64 2, AV.int IntKind.i64 0, AV.int IntKind.i64 0])) (fun v101 =>
  bnd (noPan (call 23 [AV.int IntKind.i64 2, AV.int IntKind.i64 1, AV.int IntKind.i64 0])) (fun v102 =>
  bnd (noPan (call 22 [v101, v102])) (fun v103 =>
  bnd (lft (buildSliceA T 32 2 [(0, v100), (1, v103)])) (fun v104 =>
  bnd (noPan (call 20 [v36, v104])) (fun v105 =>
  M.pure [v105])))))))))) (fun v106 =>
  bnd (lft (pickA v97 (nth v106 0) (AV.bool false))) (fun v107 =>
  bnd (guardM v107 true 1 (M.pure [v43])) (fun v108 =>
  bnd (lft (pickA v107 (nth v108 0) (AV.bool false))) (fun v109 =>
  bnd (guardM v109 true 1 (bnd (lft (loadA T 23 (AV.ip (acells v44)))) (fun v110 =>
  bnd (noPan (call 23 [AV.int IntKind.i64 2, AV.int IntKind.i64 9, AV.int IntKind.i64 9])) (fun v111 =>
  bnd (lft (binA T BinOp.eql 23 v110 v111)) (fun v112 =>
  M.pure [v112]))))) (fun v113 =>
  bnd (lft (pickA v109 (nth v113 0) (AV.bool false))) (fun v114 =>
  bnd (guardM v114 true 1 (bnd (lft (loadA T 23 (AV.ip (acells v11)))) (fun v115 =>
  bnd (noPan (call 18 [v26, v115])) (fun v116 =>
  M.pure [v116])))) (fun v117 =>
  bnd (lft (pickA v114 (nth v117 0) (AV.bool false))) (fun v118 =>
  bnd (guardM v118 true 1 (bnd (lft (loadA T 23 (AV.ip (acells v11)))) (fun v119 =>
  bnd (noPan (call 11 [v119])) (fun v120 =>
  M.pure [v120])))) (fun v121 =>
  bnd (lft (pickA v118 (nth v121 0) (AV.bool false))) (fun v122 =>
  bnd (guardM v122 true 1 (bnd (lft (loadA T 23 (AV.ip (acells v11)))) (fun v123 =>
  bnd (noPan (call 23 [AV.int IntKind.i64 1, AV.int IntKind.i64 2, AV.int IntKind.i64 4])) (fun v124 =>
  bnd (noPan (call 12 [v123, v124])) (fun v125 =>
  bnd (lft (binA T BinOp.eql 3 v125 (AV.int IntKind.i64 (-1)))) (fun v126 =>
  M.pure [v126])))))) (fun v127 =>
  bnd (lft (pickA v122 (nth v127 0) (AV.bool false))) (fun v128 =>
  M.pure v128)))))))))))))))))))))))))))))))))))))))))))))))))))))))))))))))))))))))))))))))))
theorem E8 (call : FuncId → List AV → M AV) (fx : Fix AV) : evBody (pg.cx call Tryd.f8.ntmps ann8) fx Tryd.f8 (own 8) [] = S8 call fx  := by kernel_rfl
theorem C8 : callW pg 8 [] = isoP (S8 (callW pg) fixW ) := (callW_iso hOther rfl rfl rfl _).trans (congrArg isoP (E8 _ _ ))
/-- lading.version.Parse -/
noncomputable def L10_0 (call : FuncId → List AV → M AV) (fx : Fix AV) (v7 : List AV → M AV) (v8 : List AV) : M AV :=
  bnd (lft (binA T BinOp.lss 3 (nth v8 3) (nth v8 2))) (fun v9 =>
  condM v9 (bnd (lft (indexAddrA T 48 (nth v8 1) (nth v8 3))) (fun v10 =>
  bnd (lft (loadA T 9 v10)) (fun v11 =>
  bnd (call 26 [v11]) (fun v12 =>
  bnd (lft (extractA v12 0)) (fun v13 =>
  bnd (lft (extractA v12 1)) (fun v14 =>
  bnd (lft (binA T BinOp.neq 52 v14 AV.nili)) (fun v15 =>
  bnd (guardM v15 false 1 (bnd (call 24 [v13]) (fun v16 =>
  bnd (lft (binA T BinOp.neq 9 v16 v11)) (fun v17 =>
  M.pure [v17])))) (fun v18 =>
  bnd (lft (pickA v15 (AV.bool true) (nth v18 0))) (fun v19 =>
  condM v19 (bnd (lft (buildA T false 23 [])) (fun v20 =>
  bnd (cellsNil 3 [] v20) (fun v21 =>
  M.pure (AV.tup [AV.agg [nth (acells v21) 0, nth (acells v21) 1, nth (acells v21) 2], AV.bool false])))) (bnd (lft (indexAddrA T 50 (nth v8 0) (nth v8 3))) (fun v22 =>
  bnd (storeH T 3 v22 v13) (fun v23 =>
  bnd (lft (binA T BinOp.add 3 (nth v8 3) (AV.int IntKind.i64 1))) (fun v24 =>
  v7 [nth v8 0, nth v8 1, nth v8 2, v24, nth v8 4, nth v8 5, nth v8 6]))))))))))))) (bnd (lft (indexAddrA T 50 (nth v8 0) (AV.int IntKind.i64 0))) (fun v25 =>
  bnd (loadH T 3 v25) (fun v26 =>
  bnd (lft (indexAddrA T 50 (nth v8 0) (AV.int IntKind.i64 1))) (fun v27 =>
  bnd (loadH T 3 v27) (fun v28 =>
  bnd (lft (indexAddrA T 50 (nth v8 0) (AV.int IntKind.i64 2))) (fun v29 =>
  bnd (loadH T 3 v29) (fun v30 =>
  bnd (lft (buildA T false 23 [(0, v26), (1, v28), (2, v30)])) (fun v31 =>
  bnd (cellsM 3 v31) (fun v32 =>
  bnd (lft (loadA T 23 (AV.ip (acells v32)))) (fun v33 =>
  bnd (call 11 [v33]) (fun v34 =>
  bnd (lft (unA UnOp.not v34)) (fun v35 =>
  condM v35 (bnd (lft (buildA T false 23 [])) (fun v36 =>
  bnd (cellsNil 3 [] v36) (fun v37 =>
  M.pure (AV.tup [AV.agg [nth (acells v37) 0, nth (acells v37) 1, nth (acells v37) 2], AV.bool false])))) (bnd (lft (loadA T 23 (AV.ip (acells v32)))) (fun v38 =>
  bnd (cellsNil 3 [] v38) (fun v39 =>
  M.pure (AV.tup [AV.agg [nth (acells v39) 0, nth (acells v39) 1, nth (acells v39) 2], AV.bool true])))))))))))))))))
theorem XL10_0 {call : FuncId → List AV → M AV} : Cont1 (L10_0 call fixW ) fun _n => L10_0 call fixW  := by
  intro v7 v7s hself v8
  unfold L10_0
  exact (LimM.bnd (LimM.const _) fun _ => (condM_lim (LimM.bnd (LimM.const _) fun _ => (LimM.bnd (LimM.const _) fun _ => (LimM.bnd (LimM.const _) fun _ => (LimM.bnd (LimM.const _) fun _ => (LimM.bnd (LimM.const _) fun _ => (LimM.bnd (LimM.const _) fun _ => (LimM.bnd (LimM.const _) fun _ => (LimM.bnd (LimM.const _) fun _ => (condM_lim (LimM.const _) (LimM.bnd (LimM.const _) fun _ => (LimM.bnd (LimM.const _) fun _ => (LimM.bnd (LimM.const _) fun _ => (hself _))))))))))))) (LimM.const _)))
theorem FL10_0 (call : FuncId → List AV → M AV) (vs : List AV) : fixW (L10_0 call fixW ) vs = L10_0 call fixW  (fixW (L10_0 call fixW )) vs := fixW_eq (XL10_0 ) vs
noncomputable def S10 (call : FuncId → List AV → M AV) (fx : Fix AV) (a0 : AV) : M AV :=
  bnd (call 25 [a0, AV.str [46]]) (fun v0 =>
  bnd (lft (lenA T 48 v0)) (fun v1 =>
  bnd (lft (binA T BinOp.neq 3 v1 (AV.int IntKind.i64 3))) (fun v2 =>
  condM v2 (bnd (lft (buildA T false 23 [])) (fun v3 =>
  bnd (cellsNil 3 [] v3) (fun v4 =>
  M.pure (AV.tup [AV.agg [nth (acells v4) 0, nth (acells v4) 1, nth (acells v4) 2], AV.bool false])))) (bnd (newH [AV.int IntKind.i64 0, AV.int IntKind.i64 0, AV.int IntKind.i64 0]) (fun v5 =>
  bnd (lft (lenA T 48 v0)) (fun v6 =>
  fx (L10_0 call fx) [v5, v0, v6, AV.int IntKind.i64 0, AV.int IntKind.i64 0, AV.int IntKind.i64 0, AV.int IntKind.i64 0]))))))
theorem E10 (call : FuncId → List AV → M AV) (fx : Fix AV) (a0 : AV) : evBody (pg.cx call Tryd.f10.ntmps ann10) fx Tryd.f10 (own 10) [a0] = S10 call fx a0 := by kernel_rfl
theorem C10 (a0 : AV) : callW pg 10 [a0] = isoP (S10 (callW pg) fixW (cl noHs a0)) := (callW_iso hOther rfl rfl rfl _).trans (congrArg isoP (E10 _ _ (cl noHs a0)))
/-- lading.version.Right -/
noncomputable def S11 (call : FuncId → List AV → M AV) (fx : Fix AV) (a0 : AV) : M AV :=
  bnd (lft (fieldAddrA T 23 (AV.ip (acells a0)) 0)) (fun v0 =>
  bnd (lft (loadA T 3 v0)) (fun v1 =>
  bnd (lft (fieldAddrA T 23 (AV.ip (acells a0)) 1)) (fun v2 =>
  bnd (lft (loadA T 3 v2)) (fun v3 =>
  bnd (lft (fieldAddrA T 23 (AV.ip (acells a0)) 2)) (fun v4 =>
  bnd (lft (loadA T 3 v4)) (fun v5 =>
  bnd (lft (minsA false [v1, v3, v5])) (fun v6 =>
  bnd (lft (binA T BinOp.geq 3 v6 (AV.int IntKind.i64 0))) (fun v7 =>
  bnd (guardM v7 true 1 (bnd (lft (fieldAddrA T 23 (AV.ip (acells a0)) 0)) (fun v8 =>
  bnd (lft (loadA T 3 v8)) (fun v9 =>
  bnd (lft (fieldAddrA T 23 (AV.ip (acells a0)) 1)) (fun v10 =>
  bnd (lft (loadA T 3 v10)) (fun v11 =>
  bnd (lft (fieldAddrA T 23 (AV.ip (acells a0)) 2)) (fun v12 =>
  bnd (lft (loadA T 3 v12)) (fun v13 =>
  bnd (lft (minsA true [v9, v11, v13])) (fun v14 =>
  bnd (lft (binA T BinOp.leq 3 v14 (AV.int IntKind.i64 1048576))) (fun v15 =>
  M.pure [v15])))))))))) (fun v16 =>
  bnd (lft (pickA v7 (nth v16 0) (AV.bool false))) (fun v17 =>
  M.pure v17))))))))))
theorem E11 (call : FuncId → List AV → M AV) (fx : Fix AV) (a0 : AV) : evBody (pg.cx call Tryd.f11.ntmps ann11) fx Tryd.f11 (own 11) [a0] = S11 call fx a0 := by kernel_rfl
theorem C11 (a0 : AV) : callW pg 11 [a0] = isoP (S11 (callW pg) fixW (cl noHs a0)) := (callW_iso hOther rfl rfl rfl _).trans (congrArg isoP (E11 _ _ (cl noHs a0)))
/-- lading.version.Compare -/
noncomputable def S12 (call : FuncId → List AV → M AV) (fx : Fix AV) (a0 a1 : AV) : M AV :=
  bnd (lft (fieldAddrA T 23 (AV.ip (acells a0)) 0)) (fun v0 =>
  bnd (lft (loadA T 3 v0)) (fun v1 =>
  bnd (lft (fieldAddrA T 23 (AV.ip (acells a1)) 0)) (fun v2 =>
  bnd (lft (loadA T 3 v2)) (fun v3 =>
  bnd (noPan (call 28 [v1, v3])) (fun v4 =>
  bnd (lft (fieldAddrA T 23 (AV.ip (acells a0)) 1)) (fun v5 =>
  bnd (lft (loadA T 3 v5)) (fun v6 =>
  bnd (lft (fieldAddrA T 23 (AV.ip (acells a1)) 1)) (fun v7 =>
  bnd (lft (loadA T 3 v7)) (fun v8 =>
  bnd (noPan (call 28 [v6, v8])) (fun v9 =>
  bnd (lft (fieldAddrA T 23 (AV.ip (acells a0)) 2)) (fun v10 =>
  bnd (lft (loadA T 3 v10)) (fun v11 =>
  bnd (lft (fieldAddrA T 23 (AV.ip (acells a1)) 2)) (fun v12 =>
  bnd (lft (loadA T 3 v12)) (fun v13 =>
  bnd (noPan (call 28 [v11, v13])) (fun v14 =>
  bnd (lft (buildSliceA T 67 3 [(0, v4), (1, v9), (2, v14)])) (fun v15 =>
  bnd (noPan (call 27 [v15])) (fun v16 =>
  M.pure v16)))))))))))))))))
theorem E12 (call : FuncId → List AV → M AV) (fx : Fix AV) (a0 a1 : AV) : evBody (pg.cx call Tryd.f12.ntmps ann12) fx Tryd.f12 (own 12) [a0, a1] = S12 call fx a0 a1 := by kernel_rfl
theorem C12 (a0 a1 : AV) : callW pg 12 [a0, a1] = isoP (S12 (callW pg) fixW (cl noHs a0) (cl noHs a1)) := (callW_iso hOther rfl rfl rfl _).trans (congrArg isoP (E12 _ _ (cl noHs a0) (cl noHs a1)))
/-- lading.version.Norm -/
noncomputable def L14_0 (call : FuncId → List AV → M AV) (fx : Fix AV) (v4 : List AV → M AV) (v5 : List AV) : M AV :=
  bnd (lft (binA T BinOp.lss 3 (nth v5 3) (nth v5 2))) (fun v6 =>
  condM v6 (bnd (lft (indexAddrA T 32 (nth v5 1) (nth v5 3))) (fun v7 =>
  bnd (loadH T 38 v7) (fun v8 =>
  bnd (cellsM 6 v8) (fun v9 =>
  bnd (lft (lenA T 32 (nth v5 0))) (fun v10 =>
  bnd (lft (binA T BinOp.sub 3 v10 (AV.int IntKind.i64 1))) (fun v11 =>
  bnd (lft (binA T BinOp.geq 3 v11 (AV.int IntKind.i64 0))) (fun v12 =>
  bnd (guardM v12 true 1 (bnd (lft (fieldAddrA T 38 (AV.ip (acells v9)) 0)) (fun v13 =>
  bnd (lft (loadA T 23 v13)) (fun v14 =>
  bnd (lft (indexAddrA T 32 (nth v5 0) v11)) (fun v15 =>
  bnd (lft (fieldAddrA T 38 v15 1)) (fun v16 =>
  bnd (loadH T 23 v16) (fun v17 =>
  bnd (noPan (call 12 [v14, v17])) (fun v18 =>
  bnd (lft (binA T BinOp.leq 3 v18 (AV.int IntKind.i64 0))) (fun v19 =>
  M.pure [v19]))))))))) (fun v20 =>
  bnd (lft (pickA v12 (nth v20 0) (AV.bool false))) (fun v21 =>
  condM v21 (bnd (lft (indexAddrA T 32 (nth v5 0) v11)) (fun v22 =>
  bnd (lft (fieldAddrA T 38 v22 1)) (fun v23 =>
  bnd (loadH T 23 v23) (fun v24 =>
  bnd (lft (fieldAddrA T 38 (AV.ip (acells v9)) 1)) (fun v25 =>
  bnd (lft (loadA T 23 v25)) (fun v26 =>
  bnd (noPan (call 12 [v24, v26])) (fun v27 =>
  bnd (lft (binA T BinOp.lss 3 v27 (AV.int IntKind.i64 0))) (fun v28 =>
  condM v28 (bnd (lft (fieldAddrA T 38 (AV.ip (acells v9)) 1)) (fun v29 =>
  bnd (lft (loadA T 23 v29)) (fun v30 =>
  bnd (lft (indexAddrA T 32 (nth v5 0) v11)) (fun v31 =>
  bnd (lft (fieldAddrA T 38 v31 1)) (fun v32 =>
  bnd (storeH T 23 v32 v30) (fun v33 =>
  bnd (lft (binA T BinOp.add 3 (nth v5 3) (AV.int IntKind.i64 1))) (fun v34 =>
  v4 [nth v5 0, nth v5 1, nth v5 2, v34]))))))) (bnd (lft (binA T BinOp.add 3 (nth v5 3) (AV.int IntKind.i64 1))) (fun v35 =>
  v4 [nth v5 0, nth v5 1, nth v5 2, v35])))))))))) (bnd (lft (loadA T 38 (AV.ip (acells v9)))) (fun v36 =>
  bnd (lft (buildSliceA T 32 1 [(0, v36)])) (fun v37 =>
  bnd (appH T 32 false (nth v5 0) v37) (fun v38 =>
  bnd (lft (binA T BinOp.add 3 (nth v5 3) (AV.int IntKind.i64 1))) (fun v39 =>
  v4 [v38, nth v5 1, nth v5 2, v39])))))))))))))) (M.pure (nth v5 0)))
theorem XL14_0 {call : FuncId → List AV → M AV} : Cont1 (L14_0 call fixW ) fun _n => L14_0 call fixW  := by
  intro v4 v4s hself v5
  unfold L14_0
  exact (LimM.bnd (LimM.const _) fun _ => (condM_lim (LimM.bnd (LimM.const _) fun _ => (LimM.bnd (LimM.const _) fun _ => (LimM.bnd (LimM.const _) fun _ => (LimM.bnd (LimM.const _) fun _ => (LimM.bnd (LimM.const _) fun _ => (LimM.bnd (LimM.const _) fun _ => (LimM.bnd (LimM.const _) fun _ => (LimM.bnd (LimM.const _) fun _ => (condM_lim (LimM.bnd (LimM.const _) fun _ => (LimM.bnd (LimM.const _) fun _ => (LimM.bnd (LimM.const _) fun _ => (LimM.bnd (LimM.const _) fun _ => (LimM.bnd (LimM.const _) fun _ => (LimM.bnd (LimM.const _) fun _ => (LimM.bnd (LimM.const _) fun _ => (condM_lim (LimM.bnd (LimM.const _) fun _ => (LimM.bnd (LimM.const _) fun _ => (LimM.bnd (LimM.const _) fun _ => (LimM.bnd (LimM.const _) fun _ => (LimM.bnd (LimM.const _) fun _ => (LimM.bnd (LimM.const _) fun _ => (hself _))))))) (LimM.bnd (LimM.const _) fun _ => (hself _)))))))))) (LimM.bnd (LimM.const _) fun _ => (LimM.bnd (LimM.const _) fun _ => (LimM.bnd (LimM.const _) fun _ => (LimM.bnd (LimM.const _) fun _ => (hself _)))))))))))))) (LimM.const _)))
theorem FL14_0 (call : FuncId → List AV → M AV) (vs : List AV) : fixW (L14_0 call fixW ) vs = L14_0 call fixW  (fixW (L14_0 call fixW )) vs := fixW_eq (XL14_0 ) vs
noncomputable def S14 (call : FuncId → List AV → M AV) (fx : Fix AV) (a0 : AV) : M AV :=
  bnd (call 30 [a0]) (fun v0 =>
  bnd (call 29 [v0, AV.fn (Fn.func 31) [] []]) (fun v1 =>
  bnd (call 32 [v1, AV.fn (Fn.func 33) [] []]) (fun v2 =>
  bnd (lft (lenA T 32 v1)) (fun v3 =>
  fx (L14_0 call fx) [AV.hn, v1, v3, AV.int IntKind.i64 0]))))
theorem E14 (call : FuncId → List AV → M AV) (fx : Fix AV) (a0 : AV) : evBody (pg.cx call Tryd.f14.ntmps ann14) fx Tryd.f14 (own 14) [a0] = S14 call fx a0 := by kernel_rfl
theorem C14 (a0 : AV) : callW pg 14 [a0] = isoP (S14 (callW pg) fixW (cl noHs a0)) := (callW_iso hOther rfl rfl rfl _).trans (congrArg isoP (E14 _ _ (cl noHs a0)))
/-- lading.version.Common -/
noncomputable def L16_0 (call : FuncId → List AV → M AV) (fx : Fix AV) (v1 : List AV → M AV) (v8 : List AV → M AV) (v9 : List AV) : M AV :=
  bnd (lft (binA T BinOp.lss 3 (nth v9 8) (nth v9 7))) (fun v10 =>
  condM v10 (bnd (lft (indexAddrA T 32 (nth v9 6) (nth v9 8))) (fun v11 =>
  bnd (lft (loadA T 38 v11)) (fun v12 =>
  bnd (cellsM 6 v12) (fun v13 =>
  bnd (lft (fieldAddrA T 38 (nth v9 2) 0)) (fun v14 =>
  bnd (lft (loadA T 23 v14)) (fun v15 =>
  bnd (lft (fieldAddrA T 38 (AV.ip (acells v13)) 0)) (fun v16 =>
  bnd (lft (loadA T 23 v16)) (fun v17 =>
  bnd (noPan (call 35 [v15, v17])) (fun v18 =>
  bnd (lft (fieldAddrA T 38 (nth v9 2) 1)) (fun v19 =>
  bnd (lft (loadA T 23 v19)) (fun v20 =>
  bnd (lft (fieldAddrA T 38 (AV.ip (acells v13)) 1)) (fun v21 =>
  bnd (lft (loadA T 23 v21)) (fun v22 =>
  bnd (noPan (call 36 [v20, v22])) (fun v23 =>
  bnd (lft (buildA T false 38 [(0, v18), (1, v23)])) (fun v24 =>
  bnd (lft (buildSliceA T 32 1 [(0, v24)])) (fun v25 =>
  bnd (lft (appA T 32 (nth v9 1) v25)) (fun v26 =>
  bnd (lft (binA T BinOp.add 3 (nth v9 8) (AV.int IntKind.i64 1))) (fun v27 =>
  v8 [nth v9 0, v26, nth v9 2, nth v9 3, nth v9 4, nth v9 5, nth v9 6, nth v9 7, v27])))))))))))))))))) (bnd (lft (binA T BinOp.add 3 (nth v9 5) (AV.int IntKind.i64 1))) (fun v28 =>
  v1 [nth v9 0, nth v9 1, nth v9 3, nth v9 4, v28])))
noncomputable def L16_1 (call : FuncId → List AV → M AV) (fx : Fix AV) (v1 : List AV → M AV) (v2 : List AV) : M AV :=
  bnd (lft (binA T BinOp.lss 3 (nth v2 4) (nth v2 3))) (fun v3 =>
  condM v3 (bnd (lft (indexAddrA T 32 (nth v2 2) (nth v2 4))) (fun v4 =>
  bnd (lft (loadA T 38 v4)) (fun v5 =>
  bnd (cellsM 6 v5) (fun v6 =>
  bnd (lft (lenA T 32 (nth v2 0))) (fun v7 =>
  fx (L16_0 call fx v1) [nth v2 0, nth v2 1, AV.ip (acells v6), nth v2 2, nth v2 3, nth v2 4, nth v2 0, v7, AV.int IntKind.i64 0]))))) (bnd (call 14 [nth v2 1]) (fun v29 =>
  M.pure v29)))
theorem XL16_0 {call : FuncId → List AV → M AV} {v1 : List AV → M AV} {v1s : Nat → List AV → M AV} (hv1 : LimF v1 fun n => v1s n) : Cont1 (L16_0 call fixW v1) fun n => L16_0 call fixW (v1s n) := by
  intro v8 v8s hself v9
  unfold L16_0
  exact (LimM.bnd (LimM.const _) fun _ => (condM_lim (LimM.bnd (LimM.const _) fun _ => (LimM.bnd (LimM.const _) fun _ => (LimM.bnd (LimM.const _) fun _ => (LimM.bnd (LimM.const _) fun _ => (LimM.bnd (LimM.const _) fun _ => (LimM.bnd (LimM.const _) fun _ => (LimM.bnd (LimM.const _) fun _ => (LimM.bnd (LimM.const _) fun _ => (LimM.bnd (LimM.const _) fun _ => (LimM.bnd (LimM.const _) fun _ => (LimM.bnd (LimM.const _) fun _ => (LimM.bnd (LimM.const _) fun _ => (LimM.bnd (LimM.const _) fun _ => (LimM.bnd (LimM.const _) fun _ => (LimM.bnd (LimM.const _) fun _ => (LimM.bnd (LimM.const _) fun _ => (LimM.bnd (LimM.const _) fun _ => (hself _)))))))))))))))))) (LimM.bnd (LimM.const _) fun _ => (hv1 _))))
theorem YL16_0 {call : FuncId → List AV → M AV} {v1 : List AV → M AV} {v1s : Nat → List AV → M AV} (hv1 : LimF v1 fun n => v1s n) : LimF (fixW (L16_0 call fixW v1)) fun n => fixW (L16_0 call fixW (v1s n)) := fixW_limF (XL16_0 hv1) (XL16_0 (LimF.const _)) fun _ => XL16_0 (LimF.const _)
theorem FL16_0 (call : FuncId → List AV → M AV) (v1 : List AV → M AV) (vs : List AV) : fixW (L16_0 call fixW v1) vs = L16_0 call fixW v1 (fixW (L16_0 call fixW v1)) vs := fixW_eq (XL16_0 (LimF.const _)) vs
theorem XL16_1 {call : FuncId → List AV → M AV} : Cont1 (L16_1 call fixW ) fun _n => L16_1 call fixW  := by
  intro v1 v1s hself v2
  unfold L16_1
  exact (LimM.bnd (LimM.const _) fun _ => (condM_lim (LimM.bnd (LimM.const _) fun _ => (LimM.bnd (LimM.const _) fun _ => (LimM.bnd (LimM.const _) fun _ => (LimM.bnd (LimM.const _) fun _ => ((YL16_0 hself) _))))) (LimM.const _)))
theorem FL16_1 (call : FuncId → List AV → M AV) (vs : List AV) : fixW (L16_1 call fixW ) vs = L16_1 call fixW  (fixW (L16_1 call fixW )) vs := fixW_eq (XL16_1 ) vs
noncomputable def S16 (call : FuncId → List AV → M AV) (fx : Fix AV) (a0 a1 : AV) : M AV :=
  bnd (lft (lenA T 32 a0)) (fun v0 =>
  fx (L16_1 call fx) [a1, AV.sl [], a0, v0, AV.int IntKind.i64 0])
theorem E16 (call : FuncId → List AV → M AV) (fx : Fix AV) (a0 a1 : AV) : evBody (pg.cx call Tryd.f16.ntmps ann16) fx Tryd.f16 (own 16) [a0, a1] = S16 call fx a0 a1 := by kernel_rfl
theorem C16 (a0 a1 : AV) : callW pg 16 [a0, a1] = isoP (S16 (callW pg) fixW (cl noHs a0) (cl noHs a1)) := (callW_iso hOther rfl rfl rfl _).trans (congrArg isoP (E16 _ _ (cl noHs a0) (cl noHs a1)))
/-- lading.version.Minus -/
noncomputable def L17_0 (call : FuncId → List AV → M AV) (fx : Fix AV) (v3 : List AV → M AV) (v10 : List AV → M AV) (v11 : List AV) : M AV :=
  bnd (lft (binA T BinOp.lss 3 (nth v11 7) (nth v11 6))) (fun v12 =>
  condM v12 (bnd (lft (indexAddrA T 32 (nth v11 5) (nth v11 7))) (fun v13 =>
  bnd (lft (loadA T 38 v13)) (fun v14 =>
  bnd (cellsM 6 v14) (fun v15 =>
  bnd (lft (fieldAddrA T 38 (AV.ip (acells v15)) 0)) (fun v16 =>
  bnd (lft (loadA T 23 v16)) (fun v17 =>
  bnd (lft (fieldAddrA T 38 (AV.ip (acells v15)) 1)) (fun v18 =>
  bnd (lft (loadA T 23 v18)) (fun v19 =>
  bnd (lft (fieldAddrA T 38 (nth v11 0) 0)) (fun v20 =>
  bnd (lft (loadA T 23 v20)) (fun v21 =>
  bnd (noPan (call 36 [v19, v21])) (fun v22 =>
  bnd (lft (buildA T false 38 [(0, v17), (1, v22)])) (fun v23 =>
  bnd (lft (fieldAddrA T 38 (AV.ip (acells v15)) 0)) (fun v24 =>
  bnd (lft (loadA T 23 v24)) (fun v25 =>
  bnd (lft (fieldAddrA T 38 (nth v11 0) 1)) (fun v26 =>
  bnd (lft (loadA T 23 v26)) (fun v27 =>
  bnd (noPan (call 35 [v25, v27])) (fun v28 =>
  bnd (lft (fieldAddrA T 38 (AV.ip (acells v15)) 1)) (fun v29 =>
  bnd (lft (loadA T 23 v29)) (fun v30 =>
  bnd (lft (buildA T false 38 [(0, v28), (1, v30)])) (fun v31 =>
  bnd (lft (buildSliceA T 32 2 [(0, v23), (1, v31)])) (fun v32 =>
  bnd (lft (appA T 32 (nth v11 1) v32)) (fun v33 =>
  bnd (lft (binA T BinOp.add 3 (nth v11 7) (AV.int IntKind.i64 1))) (fun v34 =>
  v10 [nth v11 0, v33, nth v11 2, nth v11 3, nth v11 4, nth v11 5, nth v11 6, v34]))))))))))))))))))))))) (bnd (call 14 [nth v11 1]) (fun v35 =>
  bnd (lft (binA T BinOp.add 3 (nth v11 4) (AV.int IntKind.i64 1))) (fun v36 =>
  v3 [v35, nth v11 2, nth v11 3, v36]))))
noncomputable def L17_1 (call : FuncId → List AV → M AV) (fx : Fix AV) (v3 : List AV → M AV) (v4 : List AV) : M AV :=
  bnd (lft (binA T BinOp.lss 3 (nth v4 3) (nth v4 2))) (fun v5 =>
  condM v5 (bnd (lft (indexAddrA T 32 (nth v4 1) (nth v4 3))) (fun v6 =>
  bnd (lft (loadA T 38 v6)) (fun v7 =>
  bnd (cellsM 6 v7) (fun v8 =>
  bnd (lft (lenA T 32 (nth v4 0))) (fun v9 =>
  fx (L17_0 call fx v3) [AV.ip (acells v8), AV.sl [], nth v4 1, nth v4 2, nth v4 3, nth v4 0, v9, AV.int IntKind.i64 0]))))) (M.pure (nth v4 0)))
theorem XL17_0 {call : FuncId → List AV → M AV} {v3 : List AV → M AV} {v3s : Nat → List AV → M AV} (hv3 : LimF v3 fun n => v3s n) : Cont1 (L17_0 call fixW v3) fun n => L17_0 call fixW (v3s n) := by
  intro v10 v10s hself v11
  unfold L17_0
  exact (LimM.bnd (LimM.const _) fun _ => (condM_lim (LimM.bnd (LimM.const _) fun _ => (LimM.bnd (LimM.const _) fun _ => (LimM.bnd (LimM.const _) fun _ => (LimM.bnd (LimM.const _) fun _ => (LimM.bnd (LimM.const _) fun _ => (LimM.bnd (LimM.const _) fun _ => (LimM.bnd (LimM.const _) fun _ => (LimM.bnd (LimM.const _) fun _ => (LimM.bnd (LimM.const _) fun _ => (LimM.bnd (LimM.const _) fun _ => (LimM.bnd (LimM.const _) fun _ => (LimM.bnd (LimM.const _) fun _ => (LimM.bnd (LimM.const _) fun _ => (LimM.bnd (LimM.const _) fun _ => (LimM.bnd (LimM.const _) fun _ => (LimM.bnd (LimM.const _) fun _ => (LimM.bnd (LimM.const _) fun _ => (LimM.bnd (LimM.const _) fun _ => (LimM.bnd (LimM.const _) fun _ => (LimM.bnd (LimM.const _) fun _ => (LimM.bnd (LimM.const _) fun _ => (LimM.bnd (LimM.const _) fun _ => (hself _))))))))))))))))))))))) (LimM.bnd (LimM.const _) fun _ => (LimM.bnd (LimM.const _) fun _ => (hv3 _)))))
theorem YL17_0 {call : FuncId → List AV → M AV} {v3 : List AV → M AV} {v3s : Nat → List AV → M AV} (hv3 : LimF v3 fun n => v3s n) : LimF (fixW (L17_0 call fixW v3)) fun n => fixW (L17_0 call fixW (v3s n)) := fixW_limF (XL17_0 hv3) (XL17_0 (LimF.const _)) fun _ => XL17_0 (LimF.const _)
theorem FL17_0 (call : FuncId → List AV → M AV) (v3 : List AV → M AV) (vs : List AV) : fixW (L17_0 call fixW v3) vs = L17_0 call fixW v3 (fixW (L17_0 call fixW v3)) vs := fixW_eq (XL17_0 (LimF.const _)) vs
theorem XL17_1 {call : FuncId → List AV → M AV} : Cont1 (L17_1 call fixW ) fun _n => L17_1 call fixW  := by
  intro v3 v3s hself v4
  unfold L17_1
  exact (LimM.bnd (LimM.const _) fun _ => (condM_lim (LimM.bnd (LimM.const _) fun _ => (LimM.bnd (LimM.const _) fun _ => (LimM.bnd (LimM.const _) fun _ => (LimM.bnd (LimM.const _) fun _ => ((YL17_0 hself) _))))) (LimM.const _)))
theorem FL17_1 (call : FuncId → List AV → M AV) (vs : List AV) : fixW (L17_1 call fixW ) vs = L17_1 call fixW  (fixW (L17_1 call fixW )) vs := fixW_eq (XL17_1 ) vs
noncomputable def S17 (call : FuncId → List AV → M AV) (fx : Fix AV) (a0 a1 : AV) : M AV :=
  bnd (call 14 [a0]) (fun v0 =>
  bnd (call 14 [a1]) (fun v1 =>
  bnd (lft (lenA T 32 v1)) (fun v2 =>
  fx (L17_1 call fx) [v0, v1, v2, AV.int IntKind.i64 0])))
theorem E17 (call : FuncId → List AV → M AV) (fx : Fix AV) (a0 a1 : AV) : evBody (pg.cx call Tryd.f17.ntmps ann17) fx Tryd.f17 (own 17) [a0, a1] = S17 call fx a0 a1 := by kernel_rfl
theorem C17 (a0 a1 : AV) : callW pg 17 [a0, a1] = isoP (S17 (callW pg) fixW (cl noHs a0) (cl noHs a1)) := (callW_iso hOther rfl rfl rfl _).trans (congrArg isoP (E17 _ _ (cl noHs a0) (cl noHs a1)))
/-- lading.version.Has -/
noncomputable def S18 (call : FuncId → List AV → M AV) (fx : Fix AV) (a0 a1 : AV) : M AV :=
  bnd (call 37 [a0, AV.fn (Fn.func 38) [] [AV.ip (acells a1)]]) (fun v0 =>
  M.pure v0)
theorem E18 (call : FuncId → List AV → M AV) (fx : Fix AV) (a0 a1 : AV) : evBody (pg.cx call Tryd.f18.ntmps ann18) fx Tryd.f18 (own 18) [a0, a1] = S18 call fx a0 a1 := by kernel_rfl
theorem C18 (a0 a1 : AV) : callW pg 18 [a0, a1] = isoP (S18 (callW pg) fixW (cl noHs a0) (cl noHs a1)) := (callW_iso hOther rfl rfl rfl _).trans (congrArg isoP (E18 _ _ (cl noHs a0) (cl noHs a1)))
/-- lading.ladinglaw12.normal -/
noncomputable def L19_0 (call : FuncId → List AV → M AV) (fx : Fix AV) (v0 : List AV → M AV) (v1 : List AV) : M AV :=
  bnd (lft (lenA T 32 (nth v1 0))) (fun v2 =>
  bnd (lft (binA T BinOp.lss 3 (nth v1 1) v2)) (fun v3 =>
  condM v3 (bnd (lft (indexAddrA T 32 (nth v1 0) (nth v1 1))) (fun v4 =>
  bnd (lft (fieldAddrA T 38 v4 0)) (fun v5 =>
  bnd (lft (loadA T 23 v5)) (fun v6 =>
  bnd (lft (indexAddrA T 32 (nth v1 0) (nth v1 1))) (fun v7 =>
  bnd (lft (fieldAddrA T 38 v7 1)) (fun v8 =>
  bnd (lft (loadA T 23 v8)) (fun v9 =>
  bnd (noPan (call 12 [v6, v9])) (fun v10 =>
  bnd (lft (binA T BinOp.geq 3 v10 (AV.int IntKind.i64 0))) (fun v11 =>
  bnd (guardM v11 false 1 (bnd (lft (binA T BinOp.gtr 3 (nth v1 1) (AV.int IntKind.i64 0))) (fun v12 =>
  M.pure [v12]))) (fun v13 =>
  bnd (guardM (nth v13 0) true 1 (bnd (lft (binA T BinOp.sub 3 (nth v1 1) (AV.int IntKind.i64 1))) (fun v14 =>
  bnd (lft (indexAddrA T 32 (nth v1 0) v14)) (fun v15 =>
  bnd (lft (fieldAddrA T 38 v15 1)) (fun v16 =>
  bnd (lft (loadA T 23 v16)) (fun v17 =>
  bnd (lft (indexAddrA T 32 (nth v1 0) (nth v1 1))) (fun v18 =>
  bnd (lft (fieldAddrA T 38 v18 0)) (fun v19 =>
  bnd (lft (loadA T 23 v19)) (fun v20 =>
  bnd (noPan (call 12 [v17, v20])) (fun v21 =>
  bnd (lft (binA T BinOp.geq 3 v21 (AV.int IntKind.i64 0))) (fun v22 =>
  M.pure [v22]))))))))))) (fun v23 =>
  bnd (guardM v11 false 1 (bnd (lft (pickA (nth v13 0) (nth v23 0) (AV.bool false))) (fun v24 =>
  M.pure [v24]))) (fun v25 =>
  bnd (lft (pickA v11 (AV.bool true) (nth v25 0))) (fun v26 =>
  condM v26 (M.pure (AV.bool false)) (bnd (lft (binA T BinOp.add 3 (nth v1 1) (AV.int IntKind.i64 1))) (fun v27 =>
  v0 [nth v1 0, v27]))))))))))))))) (M.pure (AV.bool true))))
theorem XL19_0 {call : FuncId → List AV → M AV} : Cont1 (L19_0 call fixW ) fun _n => L19_0 call fixW  := by
  intro v0 v0s hself v1
  unfold L19_0
  exact (LimM.bnd (LimM.const _) fun _ => (LimM.bnd (LimM.const _) fun _ => (condM_lim (LimM.bnd (LimM.const _) fun _ => (LimM.bnd (LimM.const _) fun _ => (LimM.bnd (LimM.const _) fun _ => (LimM.bnd (LimM.const _) fun _ => (LimM.bnd (LimM.const _) fun _ => (LimM.bnd (LimM.const _) fun _ => (LimM.bnd (LimM.const _) fun _ => (LimM.bnd (LimM.const _) fun _ => (LimM.bnd (LimM.const _) fun _ => (LimM.bnd (LimM.const _) fun _ => (LimM.bnd (LimM.const _) fun _ => (LimM.bnd (LimM.const _) fun _ => (condM_lim (LimM.const _) (LimM.bnd (LimM.const _) fun _ => (hself _))))))))))))))) (LimM.const _))))
theorem FL19_0 (call : FuncId → List AV → M AV) (vs : List AV) : fixW (L19_0 call fixW ) vs = L19_0 call fixW  (fixW (L19_0 call fixW )) vs := fixW_eq (XL19_0 ) vs
noncomputable def S19 (call : FuncId → List AV → M AV) (fx : Fix AV) (a0 : AV) : M AV :=
  fx (L19_0 call fx) [a0, AV.int IntKind.i64 0]
theorem E19 (call : FuncId → List AV → M AV) (fx : Fix AV) (a0 : AV) : evBody (pg.cx call Tryd.f19.ntmps ann19) fx Tryd.f19 (own 19) [a0] = S19 call fx a0 := by kernel_rfl
theorem C19 (a0 : AV) : callW pg 19 [a0] = isoP (S19 (callW pg) fixW (cl noHs a0)) := (callW_iso hOther rfl rfl rfl _).trans (congrArg isoP (E19 _ _ (cl noHs a0)))
/-- lading.ladingref12.Same -/
noncomputable def L20_0 (call : FuncId → List AV → M AV) (fx : Fix AV) (v3 : List AV → M AV) (v4 : List AV) : M AV :=
  bnd (lft (lenA T 32 (nth v4 0))) (fun v5 =>
  bnd (lft (binA T BinOp.lss 3 (nth v4 2) v5)) (fun v6 =>
  condM v6 (bnd (lft (indexAddrA T 32 (nth v4 0) (nth v4 2))) (fun v7 =>
  bnd (lft (loadA T 38 v7)) (fun v8 =>
  bnd (lft (indexAddrA T 32 (nth v4 1) (nth v4 2))) (fun v9 =>
  bnd (lft (loadA T 38 v9)) (fun v10 =>
  bnd (lft (binA T BinOp.neq 38 v8 v10)) (fun v11 =>
  condM v11 (M.pure (AV.bool false)) (bnd (lft (binA T BinOp.add 3 (nth v4 2) (AV.int IntKind.i64 1))) (fun v12 =>
  v3 [nth v4 0, nth v4 1, v12])))))))) (M.pure (AV.bool true))))
theorem XL20_0 {call : FuncId → List AV → M AV} : Cont1 (L20_0 call fixW ) fun _n => L20_0 call fixW  := by
  intro v3 v3s hself v4
  unfold L20_0
  exact (LimM.bnd (LimM.const _) fun _ => (LimM.bnd (LimM.const _) fun _ => (condM_lim (LimM.bnd (LimM.const _) fun _ => (LimM.bnd (LimM.const _) fun _ => (LimM.bnd (LimM.const _) fun _ => (LimM.bnd (LimM.const _) fun _ => (LimM.bnd (LimM.const _) fun _ => (condM_lim (LimM.const _) (LimM.bnd (LimM.const _) fun _ => (hself _)))))))) (LimM.const _))))
theorem FL20_0 (call : FuncId → List AV → M AV) (vs : List AV) : fixW (L20_0 call fixW ) vs = L20_0 call fixW  (fixW (L20_0 call fixW )) vs := fixW_eq (XL20_0 ) vs
noncomputable def S20 (call : FuncId → List AV → M AV) (fx : Fix AV) (a0 a1 : AV) : M AV :=
  bnd (lft (lenA T 32 a0)) (fun v0 =>
  bnd (lft (lenA T 32 a1)) (fun v1 =>
  bnd (lft (binA T BinOp.neq 3 v0 v1)) (fun v2 =>
  condM v2 (M.pure (AV.bool false)) (fx (L20_0 call fx) [a0, a1, AV.int IntKind.i64 0]))))
theorem E20 (call : FuncId → List AV → M AV) (fx : Fix AV) (a0 a1 : AV) : evBody (pg.cx call Tryd.f20.ntmps ann20) fx Tryd.f20 (own 20) [a0, a1] = S20 call fx a0 a1 := by kernel_rfl
theorem C20 (a0 a1 : AV) : callW pg 20 [a0, a1] = isoP (S20 (callW pg) fixW (cl noHs a0) (cl noHs a1)) := (callW_iso hOther rfl rfl rfl _).trans (congrArg isoP (E20 _ _ (cl noHs a0) (cl noHs a1)))
/-- cmp.Compare[int] -/
noncomputable def S28 (call : FuncId → List AV → M AV) (fx : Fix AV) (a0 a1 : AV) : M AV :=
  bnd (call 44 [a0]) (fun v0 =>
  bnd (call 44 [a1]) (fun v1 =>
  condM v0 (condM v1 (M.pure (AV.int IntKind.i64 0)) (M.pure (AV.int IntKind.i64 (-1)))) (condM v1 (M.pure (AV.int IntKind.i64 1)) (bnd (lft (binA T BinOp.lss 3 a0 a1)) (fun v2 =>
  condM v2 (M.pure (AV.int IntKind.i64 (-1))) (bnd (lft (binA T BinOp.gtr 3 a0 a1)) (fun v3 =>
  condM v3 (M.pure (AV.int IntKind.i64 1)) (M.pure (AV.int IntKind.i64 0)))))))))
theorem E28 (call : FuncId → List AV → M AV) (fx : Fix AV) (a0 a1 : AV) : evBody (pg.cx call Tryd.f28.ntmps ann28) fx Tryd.f28 (own 28) [a0, a1] = S28 call fx a0 a1 := by kernel_rfl
theorem C28 (a0 a1 : AV) : callW pg 28 [a0, a1] = isoP (S28 (callW pg) fixW (cl noHs a0) (cl noHs a1)) := (callW_iso hOther rfl rfl rfl _).trans (congrArg isoP (E28 _ _ (cl noHs a0) (cl noHs a1)))
/-- slices.SortFunc[[]lading.api.Range,lading.api.Range] -/
noncomputable def S32 (call : FuncId → List AV → M AV) (fx : Fix AV) (a0 a1 : AV) : M AV :=
  bnd (lft (lenA T 32 a0)) (fun v0 =>
  bnd (lft (convA T 3 72 v0)) (fun v1 =>
  bnd (call 47 [v1]) (fun v2 =>
  bnd (call 46 [a0, AV.int IntKind.i64 0, v0, v2, a1]) (fun v3 =>
  M.pure (AV.tup [])))))
theorem E32 (call : FuncId → List AV → M AV) (fx : Fix AV) (a0 a1 : AV) : evBody (pg.cx call Tryd.f32.ntmps ann32) fx Tryd.f32 (own 32) [a0, a1] = S32 call fx a0 a1 := by kernel_rfl
theorem C32 (a0 a1 : AV) : callW pg 32 [a0, a1] = S32 (callW pg) fixW a0 a1 := (callW_heap hOther rfl rfl rfl _).trans (E32 _ _ a0 a1)
/-- lading.version.Norm$2 -/
noncomputable def S33 (call : FuncId → List AV → M AV) (fx : Fix AV) (a0 a1 : AV) : M AV :=
  bnd (lft (fieldAddrA T 38 (AV.ip (acells a0)) 0)) (fun v0 =>
  bnd (lft (loadA T 23 v0)) (fun v1 =>
  bnd (lft (fieldAddrA T 38 (AV.ip (acells a1)) 0)) (fun v2 =>
  bnd (lft (loadA T 23 v2)) (fun v3 =>
  bnd (call 12 [v1, v3]) (fun v4 =>
  M.pure v4)))))
theorem E33 (call : FuncId → List AV → M AV) (fx : Fix AV) (a0 a1 : AV) : evBody (pg.cx call Tryd.f33.ntmps ann33) fx Tryd.f33 (own 33) [a0, a1] = S33 call fx a0 a1 := by kernel_rfl
theorem C33 (a0 a1 : AV) : callW pg 33 [a0, a1] = isoP (S33 (callW pg) fixW (cl noHs a0) (cl noHs a1)) := (callW_iso hOther rfl rfl rfl _).trans (congrArg isoP (E33 _ _ (cl noHs a0) (cl noHs a1)))
/-- slices.Concat[[]lading.api.Range,lading.api.Range] -/
noncomputable def L34_0 (call : FuncId → List AV → M AV) (fx : Fix AV) (v15 : List AV → M AV) (v16 : List AV) : M AV :=
  bnd (lft (binA T BinOp.lss 3 (nth v16 3) (nth v16 2))) (fun v17 =>
  condM v17 (bnd (lft (indexAddrA T 73 (nth v16 1) (nth v16 3))) (fun v18 =>
  bnd (lft (loadA T 32 v18)) (fun v19 =>
  bnd (lft (appA T 32 (nth v16 0) v19)) (fun v20 =>
  bnd (lft (binA T BinOp.add 3 (nth v16 3) (AV.int IntKind.i64 1))) (fun v21 =>
  v15 [v20, nth v16 1, nth v16 2, v21]))))) (M.pure (nth v16 0)))
noncomputable def L34_1 (call : FuncId → List AV → M AV) (fx : Fix AV) (v1 : List AV → M AV) (v2 : List AV) : M AV :=
  bnd (lft (binA T BinOp.lss 3 (nth v2 4) (nth v2 3))) (fun v3 =>
  condM v3 (bnd (lft (indexAddrA T 73 (nth v2 2) (nth v2 4))) (fun v4 =>
  bnd (lft (loadA T 32 v4)) (fun v5 =>
  bnd (lft (lenA T 32 v5)) (fun v6 =>
  bnd (lft (binA T BinOp.add 3 (nth v2 1) v6)) (fun v7 =>
  bnd (lft (binA T BinOp.lss 3 v7 (AV.int IntKind.i64 0))) (fun v8 =>
  condM v8 (bnd (lft (mkIfaceA T 9 (AV.str [108, 101, 110, 32, 111, 117, 116, 32, 111, 102, 32, 114, 97, 110, 103, 101]))) (fun v9 =>
  bnd (panM v9) (fun v10 =>
  bnd (lft (binA T BinOp.add 3 (nth v2 4) (AV.int IntKind.i64 1))) (fun v11 =>
  v1 [nth v2 0, v7, nth v2 2, nth v2 3, v11])))) (bnd (lft (binA T BinOp.add 3 (nth v2 4) (AV.int IntKind.i64 1))) (fun v12 =>
  v1 [nth v2 0, v7, nth v2 2, nth v2 3, v12])))))))) (bnd (call 48 [AV.hn, nth v2 1]) (fun v13 =>
  bnd (lft (lenA T 73 (nth v2 0))) (fun v14 =>
  fx (L34_0 call fx) [v13, nth v2 0, v14, AV.int IntKind.i64 0]))))
theorem XL34_0 {call : FuncId → List AV → M AV} : Cont1 (L34_0 call fixW ) fun _n => L34_0 call fixW  := by
  intro v15 v15s hself v16
  unfold L34_0
  exact (LimM.bnd (LimM.const _) fun _ => (condM_lim (LimM.bnd (LimM.const _) fun _ => (LimM.bnd (LimM.const _) fun _ => (LimM.bnd (LimM.const _) fun _ => (LimM.bnd (LimM.const _) fun _ => (hself _))))) (LimM.const _)))
theorem FL34_0 (call : FuncId → List AV → M AV) (vs : List AV) : fixW (L34_0 call fixW ) vs = L34_0 call fixW  (fixW (L34_0 call fixW )) vs := fixW_eq (XL34_0 ) vs
theorem XL34_1 {call : FuncId → List AV → M AV} : Cont1 (L34_1 call fixW ) fun _n => L34_1 call fixW  := by
  intro v1 v1s hself v2
  unfold L34_1
  exact (LimM.bnd (LimM.const _) fun _ => (condM_lim (LimM.bnd (LimM.const _) fun _ => (LimM.bnd (LimM.const _) fun _ => (LimM.bnd (LimM.const _) fun _ => (LimM.bnd (LimM.const _) fun _ => (LimM.bnd (LimM.const _) fun _ => (condM_lim (LimM.bnd (LimM.const _) fun _ => (LimM.bnd (LimM.const _) fun _ => (LimM.bnd (LimM.const _) fun _ => (hself _)))) (LimM.bnd (LimM.const _) fun _ => (hself _)))))))) (LimM.const _)))
theorem FL34_1 (call : FuncId → List AV → M AV) (vs : List AV) : fixW (L34_1 call fixW ) vs = L34_1 call fixW  (fixW (L34_1 call fixW )) vs := fixW_eq (XL34_1 ) vs
noncomputable def S34 (call : FuncId → List AV → M AV) (fx : Fix AV) (a0 : AV) : M AV :=
  bnd (lft (lenA T 73 a0)) (fun v0 =>
  fx (L34_1 call fx) [a0, AV.int IntKind.i64 0, a0, v0, AV.int IntKind.i64 0])
theorem E34 (call : FuncId → List AV → M AV) (fx : Fix AV) (a0 : AV) : evBody (pg.cx call Tryd.f34.ntmps ann34) fx Tryd.f34 (own 34) [a0] = S34 call fx a0 := by kernel_rfl
theorem C34 (a0 : AV) : callW pg 34 [a0] = isoP (S34 (callW pg) fixW (cl noHs a0)) := (callW_iso hOther rfl rfl rfl _).trans (congrArg isoP (E34 _ _ (cl noHs a0)))
/-- lading.version.greater -/
noncomputable def S35 (call : FuncId → List AV → M AV) (fx : Fix AV) (a0 a1 : AV) : M AV :=
  bnd (lft (loadA T 23 (AV.ip (acells a0)))) (fun v0 =>
  bnd (lft (loadA T 23 (AV.ip (acells a1)))) (fun v1 =>
  bnd (call 12 [v0, v1]) (fun v2 =>
  bnd (lft (binA T BinOp.lss 3 v2 (AV.int IntKind.i64 0))) (fun v3 =>
  condM v3 (bnd (lft (loadA T 23 (AV.ip (acells a1)))) (fun v4 =>
  bnd (cellsNil 3 [] v4) (fun v5 =>
  M.pure (AV.agg [nth (acells v5) 0, nth (acells v5) 1, nth (acells v5) 2])))) (bnd (lft (loadA T 23 (AV.ip (acells a0)))) (fun v6 =>
  bnd (cellsNil 3 [] v6) (fun v7 =>
  M.pure (AV.agg [nth (acells v7) 0, nth (acells v7) 1, nth (acells v7) 2]))))))))
theorem E35 (call : FuncId → List AV → M AV) (fx : Fix AV) (a0 a1 : AV) : evBody (pg.cx call Tryd.f35.ntmps ann35) fx Tryd.f35 (own 35) [a0, a1] = S35 call fx a0 a1 := by kernel_rfl
theorem C35 (a0 a1 : AV) : callW pg 35 [a0, a1] = isoP (S35 (callW pg) fixW (cl noHs a0) (cl noHs a1)) := (callW_iso hOther rfl rfl rfl _).trans (congrArg isoP (E35 _ _ (cl noHs a0) (cl noHs a1)))
/-- slices.ContainsFunc[[]lading.api.Range,lading.api.Range] -/
noncomputable def S37 (call : FuncId → List AV → M AV) (fx : Fix AV) (a0 a1 : AV) : M AV :=
  bnd (call 45 [a0, a1]) (fun v0 =>
  bnd (lft (binA T BinOp.geq 3 v0 (AV.int IntKind.i64 0))) (fun v1 =>
  M.pure v1))
theorem E37 (call : FuncId → List AV → M AV) (fx : Fix AV) (a0 a1 : AV) : evBody (pg.cx call Tryd.f37.ntmps ann37) fx Tryd.f37 (own 37) [a0, a1] = S37 call fx a0 a1 := by kernel_rfl
theorem C37 (a0 a1 : AV) : callW pg 37 [a0, a1] = isoP (S37 (callW pg) fixW (cl noHs a0) (cl noHs a1)) := (callW_iso hOther rfl rfl rfl _).trans (congrArg isoP (E37 _ _ (cl noHs a0) (cl noHs a1)))
/-- slices.IndexFunc[[]lading.api.Range,lading.api.Range] -/
noncomputable def L45_0 (call : FuncId → List AV → M AV) (fx : Fix AV) (v1 : List AV → M AV) (v2 : List AV) : M AV :=
  bnd (lft (binA T BinOp.lss 3 (nth v2 3) (nth v2 2))) (fun v3 =>
  condM v3 (bnd (lft (indexAddrA T 32 (nth v2 0) (nth v2 3))) (fun v4 =>
  bnd (loadH T 38 v4) (fun v5 =>
  bnd (callV call (nth v2 1) [v5]) (fun v6 =>
  condM v6 (M.pure (nth v2 3)) (bnd (lft (binA T BinOp.add 3 (nth v2 3) (AV.int IntKind.i64 1))) (fun v7 =>
  v1 [nth v2 0, nth v2 1, nth v2 2, v7])))))) (M.pure (AV.int IntKind.i64 (-1))))
theorem XL45_0 {call : FuncId → List AV → M AV} : Cont1 (L45_0 call fixW ) fun _n => L45_0 call fixW  := by
  intro v1 v1s hself v2
  unfold L45_0
  exact (LimM.bnd (LimM.const _) fun _ => (condM_lim (LimM.bnd (LimM.const _) fun _ => (LimM.bnd (LimM.const _) fun _ => (LimM.bnd (LimM.const _) fun _ => (condM_lim (LimM.const _) (LimM.bnd (LimM.const _) fun _ => (hself _)))))) (LimM.const _)))
theorem FL45_0 (call : FuncId → List AV → M AV) (vs : List AV) : fixW (L45_0 call fixW ) vs = L45_0 call fixW  (fixW (L45_0 call fixW )) vs := fixW_eq (XL45_0 ) vs
noncomputable def S45 (call : FuncId → List AV → M AV) (fx : Fix AV) (a0 a1 : AV) : M AV :=
  bnd (lft (lenA T 32 a0)) (fun v0 =>
  fx (L45_0 call fx) [a0, a1, v0, AV.int IntKind.i64 0])
theorem E45 (call : FuncId → List AV → M AV) (fx : Fix AV) (a0 a1 : AV) : evBody (pg.cx call Tryd.f45.ntmps ann45) fx Tryd.f45 (own 45) [a0, a1] = S45 call fx a0 a1 := by kernel_rfl
theorem C45 (a0 a1 : AV) : callW pg 45 [a0, a1] = S45 (callW pg) fixW a0 a1 := (callW_heap hOther rfl rfl rfl _).trans (E45 _ _ a0 a1)
/-- math.bits.Len -/
noncomputable def S47 (call : FuncId → List AV → M AV) (fx : Fix AV) (a0 : AV) : M AV :=
  condM (AV.bool false) (bnd (lft (convA T 72 94 a0)) (fun v0 =>
  bnd (call 66 [v0]) (fun v1 =>
  M.pure v1))) (bnd (call 67 [a0]) (fun v2 =>
  M.pure v2))
theorem E47 (call : FuncId → List AV → M AV) (fx : Fix AV) (a0 : AV) : evBody (pg.cx call Tryd.f47.ntmps ann47) fx Tryd.f47 (own 47) [a0] = S47 call fx a0 := by kernel_rfl
theorem C47 (a0 : AV) : callW pg 47 [a0] = isoP (S47 (callW pg) fixW (cl noHs a0)) := (callW_iso hOther rfl rfl rfl _).trans (congrArg isoP (E47 _ _ (cl noHs a0)))
end Go.Proofs.YtllapohmppeceaaDoor
