/- Shallow programs of the functions, part 1: written by a program. No condition. -/
import Derived.Test.YtllapohmppeceaaDoorAnn
namespace Go.Proofs.YtllapohmppeceaaDoor
open Go Go.Av
set_option maxRecDepth 100000
/-- lading.ladinglaw12.VersionBack -/
noncomputable def S3 (call : FuncId → List AV → M AV) (fx : Fix AV) (a0 a1 : AV) : M AV :=
  bnd (call 8 []) (fun v0 =>
  bnd (lft (lenA T 9 a1)) (fun v1 =>
  bnd (lft (binA T BinOp.gtr 3 v1 (AV.int IntKind.i64 100))) (fun v2 =>
  condM v2 (M.pure v0) (bnd (lft (loadA T 23 (AV.ip (acells a0)))) (fun v3 =>
  bnd (call 9 [v3]) (fun v4 =>
  bnd (call 10 [v4]) (fun v5 =>
  bnd (lft (extractA v5 0)) (fun v6 =>
  bnd (lft (extractA v5 1)) (fun v7 =>
  bnd (cellsM 3 v6) (fun v8 =>
  bnd (call 10 [a1]) (fun v9 =>
  bnd (lft (extractA v9 0)) (fun v10 =>
  bnd (lft (extractA v9 1)) (fun v11 =>
  bnd (cellsM 3 v10) (fun v12 =>
  bnd (lft (loadA T 23 (AV.ip (acells a0)))) (fun v13 =>
  bnd (call 11 [v13]) (fun v14 =>
  bnd (lft (binA T BinOp.neq 4 v14 v7)) (fun v15 =>
  bnd (guardM v15 false 1 (bnd (lft (binA T BinOp.neq 9 v4 (AV.str []))) (fun v16 =>
  bnd (lft (binA T BinOp.neq 4 v7 v16)) (fun v17 =>
  M.pure [v17])))) (fun v18 =>
  bnd (lft (pickA v15 (AV.bool true) (nth v18 0))) (fun v19 =>
  bnd (guardM v19 false 1 (M.pure [v7])) (fun v20 =>
  bnd (guardM (nth v20 0) true 1 (bnd (lft (loadA T 23 (AV.ip (acells v8)))) (fun v21 =>
  bnd (lft (loadA T 23 (AV.ip (acells a0)))) (fun v22 =>
  bnd (lft (binA T BinOp.neq 23 v21 v22)) (fun v23 =>
  M.pure [v23]))))) (fun v24 =>
  bnd (guardM v19 false 1 (bnd (lft (pickA (nth v20 0) (nth v24 0) (AV.bool false))) (fun v25 =>
  M.pure [v25]))) (fun v26 =>
  bnd (lft (pickA v19 (AV.bool true) (nth v26 0))) (fun v27 =>
  bnd (guardM v27 false 1 (M.pure [v11])) (fun v28 =>
  bnd (guardM (nth v28 0) true 1 (bnd (lft (loadA T 23 (AV.ip (acells v12)))) (fun v29 =>
  bnd (call 11 [v29]) (fun v30 =>
  bnd (lft (unA UnOp.not v30)) (fun v31 =>
  M.pure [v31]))))) (fun v32 =>
  bnd (guardM (nth v32 0) false 1 (bnd (lft (loadA T 23 (AV.ip (acells v12)))) (fun v33 =>
  bnd (call 9 [v33]) (fun v34 =>
  bnd (lft (binA T BinOp.neq 9 v34 a1)) (fun v35 =>
  M.pure [v35]))))) (fun v36 =>
  bnd (guardM (nth v28 0) true 1 (bnd (lft (pickA (nth v32 0) (AV.bool true) (nth v36 0))) (fun v37 =>
  M.pure [v37]))) (fun v38 =>
  bnd (guardM v27 false 1 (bnd (lft (pickA (nth v28 0) (nth v38 0) (AV.bool false))) (fun v39 =>
  M.pure [v39]))) (fun v40 =>
  bnd (lft (pickA v27 (AV.bool true) (nth v40 0))) (fun v41 =>
  bnd (guardM v41 false 1 (bnd (lft (unA UnOp.not v11)) (fun v42 =>
  M.pure [v42]))) (fun v43 =>
  bnd (guardM (nth v43 0) true 1 (bnd (lft (loadA T 23 (AV.ip (acells v12)))) (fun v44 =>
  bnd (lft (buildA T false 23 [])) (fun v45 =>
  bnd (lft (binA T BinOp.neq 23 v44 v45)) (fun v46 =>
  M.pure [v46]))))) (fun v47 =>
  bnd (guardM v41 false 1 (bnd (lft (pickA (nth v43 0) (nth v47 0) (AV.bool false))) (fun v48 =>
  M.pure [v48]))) (fun v49 =>
  bnd (lft (pickA v41 (AV.bool true) (nth v49 0))) (fun v50 =>
  condM v50 (M.pure (AV.bool false)) (M.pure v0))))))))))))))))))))))))))))))))))
theorem E3 (call : FuncId → List AV → M AV) (fx : Fix AV) (a0 a1 : AV) : evBody (pg.cx call Tryd.f3.ntmps ann3) fx Tryd.f3 (own 3) [a0, a1] = S3 call fx a0 a1 := by kernel_rfl
theorem C3 (a0 a1 : AV) : callW pg 3 [a0, a1] = isoP (S3 (callW pg) fixW (cl noHs a0) (cl noHs a1)) := (callW_iso hOther rfl rfl rfl _).trans (congrArg isoP (E3 _ _ (cl noHs a0) (cl noHs a1)))
/-- lading.ladinglaw12.VersionSets -/
noncomputable def L5_0 (call : FuncId → List AV → M AV) (fx : Fix AV) (v60 : List AV → M AV) (v61 : List AV) : M AV :=
  bnd (lft (lenA T 32 (nth v61 0))) (fun v62 =>
  bnd (lft (binA T BinOp.lss 3 (nth v61 6) v62)) (fun v63 =>
  condM v63 (bnd (lft (indexAddrA T 32 (nth v61 0) (nth v61 6))) (fun v64 =>
  bnd (lft (fieldAddrA T 38 v64 0)) (fun v65 =>
  bnd (lft (loadA T 23 v65)) (fun v66 =>
  bnd (noPan (call 18 [nth v61 3, v66])) (fun v67 =>
  bnd (lft (indexAddrA T 32 (nth v61 0) (nth v61 6))) (fun v68 =>
  bnd (lft (fieldAddrA T 38 v68 0)) (fun v69 =>
  bnd (lft (loadA T 23 v69)) (fun v70 =>
  bnd (noPan (call 18 [nth v61 0, v70])) (fun v71 =>
  bnd (lft (binA T BinOp.neq 4 v67 v71)) (fun v72 =>
  bnd (guardM v72 false 1 (bnd (lft (indexAddrA T 32 (nth v61 0) (nth v61 6))) (fun v73 =>
  bnd (lft (fieldAddrA T 38 v73 1)) (fun v74 =>
  bnd (lft (loadA T 23 v74)) (fun v75 =>
  bnd (noPan (call 18 [nth v61 3, v75])) (fun v76 =>
  bnd (lft (indexAddrA T 32 (nth v61 0) (nth v61 6))) (fun v77 =>
  bnd (lft (fieldAddrA T 38 v77 1)) (fun v78 =>
  bnd (lft (loadA T 23 v78)) (fun v79 =>
  bnd (noPan (call 18 [nth v61 0, v79])) (fun v80 =>
  bnd (lft (binA T BinOp.neq 4 v76 v80)) (fun v81 =>
  M.pure [v81]))))))))))) (fun v82 =>
  bnd (lft (pickA v72 (AV.bool true) (nth v82 0))) (fun v83 =>
  bnd (guardM v83 false 2 (bnd (lft (indexAddrA T 32 (nth v61 0) (nth v61 6))) (fun v84 =>
  bnd (lft (fieldAddrA T 38 v84 0)) (fun v85 =>
  bnd (lft (loadA T 23 v85)) (fun v86 =>
  bnd (noPan (call 18 [nth v61 4, v86])) (fun v87 =>
  bnd (lft (indexAddrA T 32 (nth v61 0) (nth v61 6))) (fun v88 =>
  bnd (lft (fieldAddrA T 38 v88 0)) (fun v89 =>
  bnd (lft (loadA T 23 v89)) (fun v90 =>
  bnd (noPan (call 18 [nth v61 0, v90])) (fun v91 =>
  M.pure [v87, v91])))))))))) (fun v92 =>
  bnd (guardM (nth v92 1) true 1 (bnd (lft (indexAddrA T 32 (nth v61 0) (nth v61 6))) (fun v93 =>
  bnd (lft (fieldAddrA T 38 v93 0)) (fun v94 =>
  bnd (lft (loadA T 23 v94)) (fun v95 =>
  bnd (noPan (call 18 [nth v61 1, v95])) (fun v96 =>
  bnd (lft (unA UnOp.not v96)) (fun v97 =>
  M.pure [v97]))))))) (fun v98 =>
  bnd (guardM v83 false 1 (bnd (lft (pickA (nth v92 1) (nth v98 0) (AV.bool false))) (fun v99 =>
  bnd (lft (binA T BinOp.neq 4 (nth v92 0) v99)) (fun v100 =>
  M.pure [v100])))) (fun v101 =>
  bnd (lft (pickA v83 (AV.bool true) (nth v101 0))) (fun v102 =>
  condM v102 (M.pure (AV.bool false)) (bnd (lft (binA T BinOp.add 3 (nth v61 6) (AV.int IntKind.i64 1))) (fun v103 =>
  v60 [nth v61 0, nth v61 1, nth v61 2, nth v61 3, nth v61 4, nth v61 5, v103])))))))))))))))))) (bnd (guardM (nth v61 2) true 1 (bnd (call 14 [nth v61 1]) (fun v104 =>
  bnd (call 20 [nth v61 3, v104]) (fun v105 =>
  bnd (lft (lenA T 32 (nth v61 4))) (fun v106 =>
  bnd (lft (lenA T 32 (nth v61 5))) (fun v107 =>
  bnd (lft (binA T BinOp.add 3 v106 v107)) (fun v108 =>
  bnd (lft (binA T BinOp.eql 3 v108 (AV.int IntKind.i64 0))) (fun v109 =>
  bnd (lft (binA T BinOp.eql 4 v105 v109)) (fun v110 =>
  M.pure [v110]))))))))) (fun v111 =>
  bnd (lft (pickA (nth v61 2) (nth v111 0) (AV.bool false))) (fun v112 =>
  M.pure v112)))))
theorem XL5_0 {call : FuncId → List AV → M AV} : Cont1 (L5_0 call fixW ) fun _n => L5_0 call fixW  := by
  intro v60 v60s hself v61
  unfold L5_0
  exact (LimM.bnd (LimM.const _) fun _ => (LimM.bnd (LimM.const _) fun _ => (condM_lim (LimM.bnd (LimM.const _) fun _ => (LimM.bnd (LimM.const _) fun _ => (LimM.bnd (LimM.const _) fun _ => (LimM.bnd (LimM.const _) fun _ => (LimM.bnd (LimM.const _) fun _ => (LimM.bnd (LimM.const _) fun _ => (LimM.bnd (LimM.const _) fun _ => (LimM.bnd (LimM.const _) fun _ => (LimM.bnd (LimM.const _) fun _ => (LimM.bnd (LimM.const _) fun _ => (LimM.bnd (LimM.const _) fun _ => (LimM.bnd (LimM.const _) fun _ => (LimM.bnd (LimM.const _) fun _ => (LimM.bnd (LimM.const _) fun _ => (LimM.bnd (LimM.const _) fun _ => (condM_lim (LimM.const _) (LimM.bnd (LimM.const _) fun _ => (hself _)))))))))))))))))) (LimM.const _))))
theorem FL5_0 (call : FuncId → List AV → M AV) (vs : List AV) : fixW (L5_0 call fixW ) vs = L5_0 call fixW  (fixW (L5_0 call fixW )) vs := fixW_eq (XL5_0 ) vs
noncomputable def S5 (call : FuncId → List AV → M AV) (fx : Fix AV) (a0 a1 a2 : AV) : M AV :=
  bnd (call 8 []) (fun v0 =>
  bnd (lft (lenA T 32 a0)) (fun v1 =>
  bnd (lft (binA T BinOp.gtr 3 v1 (AV.int IntKind.i64 12))) (fun v2 =>
  bnd (guardM v2 false 1 (bnd (lft (lenA T 32 a1)) (fun v3 =>
  bnd (lft (binA T BinOp.gtr 3 v3 (AV.int IntKind.i64 12))) (fun v4 =>
  M.pure [v4])))) (fun v5 =>
  bnd (lft (pickA v2 (AV.bool true) (nth v5 0))) (fun v6 =>
  condM v6 (M.pure v0) (bnd (call 14 [a0]) (fun v7 =>
  bnd (call 15 [a0, a1]) (fun v8 =>
  bnd (call 16 [a0, a1]) (fun v9 =>
  bnd (call 17 [a0, a1]) (fun v10 =>
  bnd (call 17 [a1, a0]) (fun v11 =>
  bnd (lft (loadA T 23 (AV.ip (acells a2)))) (fun v12 =>
  bnd (call 18 [a0, v12]) (fun v13 =>
  bnd (lft (loadA T 23 (AV.ip (acells a2)))) (fun v14 =>
  bnd (call 18 [a1, v14]) (fun v15 =>
  bnd (call 19 [v7]) (fun v16 =>
  bnd (lft (unA UnOp.not v16)) (fun v17 =>
  bnd (guardM v17 false 1 (bnd (call 19 [v8]) (fun v18 =>
  bnd (lft (unA UnOp.not v18)) (fun v19 =>
  M.pure [v19])))) (fun v20 =>
  bnd (lft (pickA v17 (AV.bool true) (nth v20 0))) (fun v21 =>
  bnd (guardM v21 false 1 (bnd (call 19 [v9]) (fun v22 =>
  bnd (lft (unA UnOp.not v22)) (fun v23 =>
  M.pure [v23])))) (fun v24 =>
  bnd (lft (pickA v21 (AV.bool true) (nth v24 0))) (fun v25 =>
  bnd (guardM v25 false 1 (bnd (call 19 [v10]) (fun v26 =>
  bnd (lft (unA UnOp.not v26)) (fun v27 =>
  M.pure [v27])))) (fun v28 =>
  bnd (lft (pickA v25 (AV.bool true) (nth v28 0))) (fun v29 =>
  bnd (guardM v29 false 1 (bnd (lft (loadA T 23 (AV.ip (acells a2)))) (fun v30 =>
  bnd (call 18 [v7, v30]) (fun v31 =>
  bnd (lft (binA T BinOp.neq 4 v31 v13)) (fun v32 =>
  M.pure [v32]))))) (fun v33 =>
  bnd (lft (pickA v29 (AV.bool true) (nth v33 0))) (fun v34 =>
  bnd (guardM v34 false 2 (bnd (lft (loadA T 23 (AV.ip (acells a2)))) (fun v35 =>
  bnd (call 18 [v8, v35]) (fun v36 =>
  M.pure [v36, v13])))) (fun v37 =>
  bnd (guardM (nth v37 1) false 1 (M.pure [v15])) (fun v38 =>
  bnd (guardM v34 false 1 (bnd (lft (pickA (nth v37 1) (AV.bool true) (nth v38 0))) (fun v39 =>
  bnd (lft (binA T BinOp.neq 4 (nth v37 0) v39)) (fun v40 =>
  M.pure [v40])))) (fun v41 =>
  bnd (lft (pickA v34 (AV.bool true) (nth v41 0))) (fun v42 =>
  bnd (guardM v42 false 2 (bnd (lft (loadA T 23 (AV.ip (acells a2)))) (fun v43 =>
  bnd (call 18 [v9, v43]) (fun v44 =>
  M.pure [v44, v13])))) (fun v45 =>
  bnd (guardM (nth v45 1) true 1 (M.pure [v15])) (fun v46 =>
  bnd (guardM v42 false 1 (bnd (lft (pickA (nth v45 1) (nth v46 0) (AV.bool false))) (fun v47 =>
  bnd (lft (binA T BinOp.neq 4 (nth v45 0) v47)) (fun v48 =>
  M.pure [v48])))) (fun v49 =>
  bnd (lft (pickA v42 (AV.bool true) (nth v49 0))) (fun v50 =>
  bnd (guardM v50 false 2 (bnd (lft (loadA T 23 (AV.ip (acells a2)))) (fun v51 =>
  bnd (call 18 [v10, v51]) (fun v52 =>
  M.pure [v52, v13])))) (fun v53 =>
  bnd (guardM (nth v53 1) true 1 (bnd (lft (unA UnOp.not v15)) (fun v54 =>
  M.pure [v54]))) (fun v55 =>
  bnd (guardM v50 false 1 (bnd (lft (pickA (nth v53 1) (nth v55 0) (AV.bool false))) (fun v56 =>
  bnd (lft (binA T BinOp.neq 4 (nth v53 0) v56)) (fun v57 =>
  M.pure [v57])))) (fun v58 =>
  bnd (lft (pickA v50 (AV.bool true) (nth v58 0))) (fun v59 =>
  condM v59 (M.pure (AV.bool false)) (fx (L5_0 call fx) [a0, a1, v0, v7, v10, v11, AV.int IntKind.i64 0]))))))))))))))))))))))))))))))))))))))
theorem E5 (call : FuncId → List AV → M AV) (fx : Fix AV) (a0 a1 a2 : AV) : evBody (pg.cx call Tryd.f5.ntmps ann5) fx Tryd.f5 (own 5) [a0, a1, a2] = S5 call fx a0 a1 a2 := by kernel_rfl
theorem C5 (a0 a1 a2 : AV) : callW pg 5 [a0, a1, a2] = isoP (S5 (callW pg) fixW (cl noHs a0) (cl noHs a1) (cl noHs a2)) := (callW_iso hOther rfl rfl rfl _).trans (congrArg isoP (E5 _ _ (cl noHs a0) (cl noHs a1) (cl noHs a2)))
/-- lading.ladinglaw12.VersionLaws -/
noncomputable def S6 (call : FuncId → List AV → M AV) (fx : Fix AV) (a0 a1 a2 : AV) : M AV :=
  bnd (call 8 []) (fun v0 =>
  bnd (lft (lenA T 32 a0)) (fun v1 =>
  bnd (lft (binA T BinOp.gtr 3 v1 (AV.int IntKind.i64 8))) (fun v2 =>
  bnd (guardM v2 false 1 (bnd (lft (lenA T 32 a1)) (fun v3 =>
  bnd (lft (binA T BinOp.gtr 3 v3 (AV.int IntKind.i64 8))) (fun v4 =>
  M.pure [v4])))) (fun v5 =>
  bnd (lft (pickA v2 (AV.bool true) (nth v5 0))) (fun v6 =>
  bnd (guardM v6 false 1 (bnd (lft (lenA T 32 a2)) (fun v7 =>
  bnd (lft (binA T BinOp.gtr 3 v7 (AV.int IntKind.i64 8))) (fun v8 =>
  M.pure [v8])))) (fun v9 =>
  bnd (lft (pickA v6 (AV.bool true) (nth v9 0))) (fun v10 =>
  condM v10 (M.pure v0) (bnd (call 15 [a0, a1]) (fun v11 =>
  bnd (call 16 [a0, a1]) (fun v12 =>
  bnd (call 15 [a1, a0]) (fun v13 =>
  bnd (call 20 [v11, v13]) (fun v14 =>
  bnd (guardM v14 true 1 (bnd (call 16 [a1, a0]) (fun v15 =>
  bnd (call 20 [v12, v15]) (fun v16 =>
  M.pure [v16])))) (fun v17 =>
  bnd (lft (pickA v14 (nth v17 0) (AV.bool false))) (fun v18 =>
  bnd (guardM v18 true 1 (bnd (call 15 [v11, a2]) (fun v19 =>
  bnd (call 15 [a1, a2]) (fun v20 =>
  bnd (call 15 [a0, v20]) (fun v21 =>
  bnd (call 20 [v19, v21]) (fun v22 =>
  M.pure [v22])))))) (fun v23 =>
  bnd (lft (pickA v18 (nth v23 0) (AV.bool false))) (fun v24 =>
  bnd (guardM v24 true 1 (bnd (call 16 [v12, a2]) (fun v25 =>
  bnd (call 16 [a1, a2]) (fun v26 =>
  bnd (call 16 [a0, v26]) (fun v27 =>
  bnd (call 20 [v25, v27]) (fun v28 =>
  M.pure [v28])))))) (fun v29 =>
  bnd (lft (pickA v24 (nth v29 0) (AV.bool false))) (fun v30 =>
  bnd (call 16 [v11, a2]) (fun v31 =>
  bnd (call 16 [a0, a2]) (fun v32 =>
  bnd (call 16 [a1, a2]) (fun v33 =>
  bnd (call 15 [v32, v33]) (fun v34 =>
  bnd (call 20 [v31, v34]) (fun v35 =>
  bnd (guardM v35 true 1 (bnd (call 17 [a0, a1]) (fun v36 =>
  bnd (call 17 [a0, v36]) (fun v37 =>
  bnd (call 20 [v37, v12]) (fun v38 =>
  M.pure [v38]))))) (fun v39 =>
  bnd (lft (pickA v35 (nth v39 0) (AV.bool false))) (fun v40 =>
  bnd (call 17 [a0, a1]) (fun v41 =>
  bnd (call 17 [a1, a0]) (fun v42 =>
  bnd (call 15 [v41, v42]) (fun v43 =>
  bnd (guardM v0 true 1 (M.pure [v30])) (fun v44 =>
  bnd (lft (pickA v0 (nth v44 0) (AV.bool false))) (fun v45 =>
  bnd (guardM v45 true 1 (M.pure [v40])) (fun v46 =>
  bnd (lft (pickA v45 (nth v46 0) (AV.bool false))) (fun v47 =>
  bnd (guardM v47 true 1 (bnd (call 15 [v43, v12]) (fun v48 =>
  bnd (call 20 [v48, v11]) (fun v49 =>
  M.pure [v49])))) (fun v50 =>
  bnd (lft (pickA v47 (nth v50 0) (AV.bool false))) (fun v51 =>
  bnd (guardM v51 true 1 (bnd (call 16 [v43, v12]) (fun v52 =>
  bnd (lft (lenA T 32 v52)) (fun v53 =>
  bnd (lft (binA T BinOp.eql 3 v53 (AV.int IntKind.i64 0))) (fun v54 =>
  M.pure [v54]))))) (fun v55 =>
  bnd (lft (pickA v51 (nth v55 0) (AV.bool false))) (fun v56 =>
  bnd (guardM v56 true 1 (bnd (call 17 [v12, a0]) (fun v57 =>
  bnd (lft (lenA T 32 v57)) (fun v58 =>
  bnd (lft (binA T BinOp.eql 3 v58 (AV.int IntKind.i64 0))) (fun v59 =>
  M.pure [v59]))))) (fun v60 =>
  bnd (lft (pickA v56 (nth v60 0) (AV.bool false))) (fun v61 =>
  M.pure v61))))))))))))))))))))))))))))))))))))))
theorem E6 (call : FuncId → List AV → M AV) (fx : Fix AV) (a0 a1 a2 : AV) : evBody (pg.cx call Tryd.f6.ntmps ann6) fx Tryd.f6 (own 6) [a0, a1, a2] = S6 call fx a0 a1 a2 := by kernel_rfl
theorem C6 (a0 a1 a2 : AV) : callW pg 6 [a0, a1, a2] = isoP (S6 (callW pg) fixW (cl noHs a0) (cl noHs a1) (cl noHs a2)) := (callW_iso hOther rfl rfl rfl _).trans (congrArg isoP (E6 _ _ (cl noHs a0) (cl noHs a1) (cl noHs a2)))
/-- lading.ladinglaw12.VersionNewest -/
noncomputable def L7_0 (call : FuncId → List AV → M AV) (fx : Fix AV) (v20 : List AV → M AV) (v21 : List AV) : M AV :=
  bnd (lft (lenA T 42 (nth v21 0))) (fun v22 =>
  bnd (lft (binA T BinOp.lss 3 (nth v21 9) v22)) (fun v23 =>
  condM v23 (bnd (lft (lenA T 42 (nth v21 0))) (fun v24 =>
  bnd (lft (binA T BinOp.sub 3 v24 (AV.int IntKind.i64 1))) (fun v25 =>
  bnd (lft (binA T BinOp.sub 3 v25 (nth v21 9))) (fun v26 =>
  bnd (lft (indexAddrA T 42 (nth v21 0) v26)) (fun v27 =>
  bnd (lft (loadA T 23 v27)) (fun v28 =>
  bnd (lft (buildSliceA T 42 1 [(0, v28)])) (fun v29 =>
  bnd (lft (appA T 42 (nth v21 7) v29)) (fun v30 =>
  bnd (lft (indexAddrA T 42 (nth v21 0) (nth v21 9))) (fun v31 =>
  bnd (lft (loadA T 23 v31)) (fun v32 =>
  bnd (call 18 [nth v21 1, v32]) (fun v33 =>
  bnd (guardM (nth v21 8) false 1 (M.pure [v33])) (fun v34 =>
  bnd (guardM (nth v34 0) true 1 (M.pure [nth v21 4])) (fun v35 =>
  bnd (guardM (nth v21 8) false 1 (bnd (lft (pickA (nth v34 0) (nth v35 0) (AV.bool false))) (fun v36 =>
  M.pure [v36]))) (fun v37 =>
  bnd (guardM (nth v37 0) true 1 (bnd (lft (indexAddrA T 42 (nth v21 0) (nth v21 9))) (fun v38 =>
  bnd (lft (loadA T 23 v38)) (fun v39 =>
  bnd (lft (loadA T 23 (nth v21 3))) (fun v40 =>
  bnd (lft (binA T BinOp.eql 23 v39 v40)) (fun v41 =>
  M.pure [v41])))))) (fun v42 =>
  bnd (guardM (nth v21 8) false 1 (bnd (lft (pickA (nth v37 0) (nth v42 0) (AV.bool false))) (fun v43 =>
  M.pure [v43]))) (fun v44 =>
  bnd (lft (pickA (nth v21 8) (AV.bool true) (nth v44 0))) (fun v45 =>
  bnd (guardM v33 true 1 (bnd (lft (unA UnOp.not (nth v21 4))) (fun v46 =>
  M.pure [v46]))) (fun v47 =>
  bnd (guardM (nth v47 0) false 1 (bnd (lft (indexAddrA T 42 (nth v21 0) (nth v21 9))) (fun v48 =>
  bnd (lft (loadA T 23 v48)) (fun v49 =>
  bnd (lft (loadA T 23 (nth v21 3))) (fun v50 =>
  bnd (noPan (call 12 [v49, v50])) (fun v51 =>
  bnd (lft (binA T BinOp.gtr 3 v51 (AV.int IntKind.i64 0))) (fun v52 =>
  M.pure [v52]))))))) (fun v53 =>
  bnd (guardM v33 true 1 (bnd (lft (pickA (nth v47 0) (AV.bool true) (nth v53 0))) (fun v54 =>
  M.pure [v54]))) (fun v55 =>
  bnd (lft (pickA v33 (nth v55 0) (AV.bool false))) (fun v56 =>
  condM v56 (M.pure (AV.bool false)) (bnd (lft (binA T BinOp.add 3 (nth v21 9) (AV.int IntKind.i64 1))) (fun v57 =>
  v20 [nth v21 0, nth v21 1, nth v21 2, nth v21 3, nth v21 4, nth v21 5, nth v21 6, v30, v45, v57]))))))))))))))))))))))) (bnd (call 21 [nth v21 7, nth v21 1]) (fun v58 =>
  bnd (lft (extractA v58 0)) (fun v59 =>
  bnd (lft (extractA v58 1)) (fun v60 =>
  bnd (cellsM 3 v59) (fun v61 =>
  bnd (lft (binA T BinOp.neq 4 (nth v21 4) (nth v21 8))) (fun v62 =>
  bnd (guardM v62 false 1 (bnd (lft (unA UnOp.not (nth v21 4))) (fun v63 =>
  M.pure [v63]))) (fun v64 =>
  bnd (guardM (nth v64 0) true 1 (bnd (lft (loadA T 23 (nth v21 3))) (fun v65 =>
  bnd (lft (buildA T false 23 [])) (fun v66 =>
  bnd (lft (binA T BinOp.neq 23 v65 v66)) (fun v67 =>
  M.pure [v67]))))) (fun v68 =>
  bnd (guardM v62 false 1 (bnd (lft (pickA (nth v64 0) (nth v68 0) (AV.bool false))) (fun v69 =>
  M.pure [v69]))) (fun v70 =>
  bnd (lft (pickA v62 (AV.bool true) (nth v70 0))) (fun v71 =>
  bnd (guardM v71 false 1 (bnd (lft (loadA T 23 (AV.ip (acells v61)))) (fun v72 =>
  bnd (lft (loadA T 23 (nth v21 3))) (fun v73 =>
  bnd (lft (binA T BinOp.neq 23 v72 v73)) (fun v74 =>
  M.pure [v74]))))) (fun v75 =>
  bnd (lft (pickA v71 (AV.bool true) (nth v75 0))) (fun v76 =>
  bnd (guardM v76 false 1 (bnd (lft (binA T BinOp.neq 4 v60 (nth v21 4))) (fun v77 =>
  M.pure [v77]))) (fun v78 =>
  bnd (lft (pickA v76 (AV.bool true) (nth v78 0))) (fun v79 =>
  condM v79 (M.pure (AV.bool false)) (bnd (guardM (nth v21 2) true 1 (bnd (lft (unA UnOp.not (nth v21 4))) (fun v80 =>
  M.pure [v80]))) (fun v81 =>
  bnd (guardM (nth v81 0) false 1 (M.pure [nth v21 6])) (fun v82 =>
  bnd (guardM (nth v82 0) true 1 (bnd (lft (loadA T 23 (nth v21 3))) (fun v83 =>
  bnd (lft (loadA T 23 (nth v21 5))) (fun v84 =>
  bnd (call 12 [v83, v84]) (fun v85 =>
  bnd (lft (binA T BinOp.leq 3 v85 (AV.int IntKind.i64 0))) (fun v86 =>
  M.pure [v86])))))) (fun v87 =>
  bnd (guardM (nth v81 0) false 1 (bnd (lft (pickA (nth v82 0) (nth v87 0) (AV.bool false))) (fun v88 =>
  M.pure [v88]))) (fun v89 =>
  bnd (guardM (nth v21 2) true 1 (bnd (lft (pickA (nth v81 0) (AV.bool true) (nth v89 0))) (fun v90 =>
  M.pure [v90]))) (fun v91 =>
  bnd (lft (pickA (nth v21 2) (nth v91 0) (AV.bool false))) (fun v92 =>
  M.pure v92)))))))))))))))))))))))
theorem XL7_0 {call : FuncId → List AV → M AV} : Cont1 (L7_0 call fixW ) fun _n => L7_0 call fixW  := by
  intro v20 v20s hself v21
  unfold L7_0
  exact (LimM.bnd (LimM.const _) fun _ => (LimM.bnd (LimM.const _) fun _ => (condM_lim (LimM.bnd (LimM.const _) fun _ => (LimM.bnd (LimM.const _) fun _ => (LimM.bnd (LimM.const _) fun _ => (LimM.bnd (LimM.const _) fun _ => (LimM.bnd (LimM.const _) fun _ => (LimM.bnd (LimM.const _) fun _ => (LimM.bnd (LimM.const _) fun _ => (LimM.bnd (LimM.const _) fun _ => (LimM.bnd (LimM.const _) fun _ => (LimM.bnd (LimM.const _) fun _ => (LimM.bnd (LimM.const _) fun _ => (LimM.bnd (LimM.const _) fun _ => (LimM.bnd (LimM.const _) fun _ => (LimM.bnd (LimM.const _) fun _ => (LimM.bnd (LimM.const _) fun _ => (LimM.bnd (LimM.const _) fun _ => (LimM.bnd (LimM.const _) fun _ => (LimM.bnd (LimM.const _) fun _ => (LimM.bnd (LimM.const _) fun _ => (LimM.bnd (LimM.const _) fun _ => (condM_lim (LimM.const _) (LimM.bnd (LimM.const _) fun _ => (hself _))))))))))))))))))))))) (LimM.const _))))
theorem FL7_0 (call : FuncId → List AV → M AV) (vs : List AV) : fixW (L7_0 call fixW ) vs = L7_0 call fixW  (fixW (L7_0 call fixW )) vs := fixW_eq (XL7_0 ) vs
noncomputable def S7 (call : FuncId → List AV → M AV) (fx : Fix AV) (a0 a1 a2 : AV) : M AV :=
  bnd (call 8 []) (fun v0 =>
  bnd (lft (lenA T 42 a0)) (fun v1 =>
  bnd (lft (binA T BinOp.gtr 3 v1 (AV.int IntKind.i64 20))) (fun v2 =>
  bnd (guardM v2 false 1 (bnd (lft (lenA T 32 a1)) (fun v3 =>
  bnd (lft (binA T BinOp.gtr 3 v3 (AV.int IntKind.i64 8))) (fun v4 =>
  M.pure [v4])))) (fun v5 =>
  bnd (lft (pickA v2 (AV.bool true) (nth v5 0))) (fun v6 =>
  bnd (guardM v6 false 1 (bnd (lft (lenA T 32 a2)) (fun v7 =>
  bnd (lft (binA T BinOp.gtr 3 v7 (AV.int IntKind.i64 8))) (fun v8 =>
  M.pure [v8])))) (fun v9 =>
  bnd (lft (pickA v6 (AV.bool true) (nth v9 0))) (fun v10 =>
  condM v10 (M.pure v0) (bnd (call 21 [a0, a1]) (fun v11 =>
  bnd (lft (extractA v11 0)) (fun v12 =>
  bnd (lft (extractA v11 1)) (fun v13 =>
  bnd (cellsM 3 v12) (fun v14 =>
  bnd (call 15 [a1, a2]) (fun v15 =>
  bnd (call 21 [a0, v15]) (fun v16 =>
  bnd (lft (extractA v16 0)) (fun v17 =>
  bnd (lft (extractA v16 1)) (fun v18 =>
  bnd (cellsM 3 v17) (fun v19 =>
  fx (L7_0 call fx) [a0, a1, v0, AV.ip (acells v14), v13, AV.ip (acells v19), v18, AV.sl [], AV.bool false, AV.int IntKind.i64 0])))))))))))))))))
theorem E7 (call : FuncId → List AV → M AV) (fx : Fix AV) (a0 a1 a2 : AV) : evBody (pg.cx call Tryd.f7.ntmps ann7) fx Tryd.f7 (own 7) [a0, a1, a2] = S7 call fx a0 a1 a2 := by kernel_rfl
theorem C7 (a0 a1 a2 : AV) : callW pg 7 [a0, a1, a2] = isoP (S7 (callW pg) fixW (cl noHs a0) (cl noHs a1) (cl noHs a2)) := (callW_iso hOther rfl rfl rfl _).trans (congrArg isoP (E7 _ _ (cl noHs a0) (cl noHs a1) (cl noHs a2)))
/-- lading.version.Print -/
noncomputable def S9 (call : FuncId → List AV → M AV) (fx : Fix AV) (a0 : AV) : M AV :=
  bnd (lft (loadA T 23 (AV.ip (acells a0)))) (fun v0 =>
  bnd (call 11 [v0]) (fun v1 =>
  bnd (lft (unA UnOp.not v1)) (fun v2 =>
  condM v2 (M.pure (AV.str [])) (bnd (lft (fieldAddrA T 23 (AV.ip (acells a0)) 0)) (fun v3 =>
  bnd (lft (loadA T 3 v3)) (fun v4 =>
  bnd (lft (fieldAddrA T 23 (AV.ip (acells a0)) 1)) (fun v5 =>
  bnd (lft (loadA T 3 v5)) (fun v6 =>
  bnd (lft (fieldAddrA T 23 (AV.ip (acells a0)) 2)) (fun v7 =>
  bnd (lft (loadA T 3 v7)) (fun v8 =>
  bnd (call 24 [v4]) (fun v9 =>
  bnd (lft (binA T BinOp.add 9 v9 (AV.str [46]))) (fun v10 =>
  bnd (call 24 [v6]) (fun v11 =>
  bnd (lft (binA T BinOp.add 9 v10 v11)) (fun v12 =>
  bnd (lft (binA T BinOp.add 9 v12 (AV.str [46]))) (fun v13 =>
  bnd (call 24 [v8]) (fun v14 =>
  bnd (lft (binA T BinOp.add 9 v13 v14)) (fun v15 =>
  M.pure v15)))))))))))))))))
theorem E9 (call : FuncId → List AV → M AV) (fx : Fix AV) (a0 : AV) : evBody (pg.cx call Tryd.f9.ntmps ann9) fx Tryd.f9 (own 9) [a0] = S9 call fx a0 := by kernel_rfl
theorem C9 (a0 : AV) : callW pg 9 [a0] = isoP (S9 (callW pg) fixW (cl noHs a0)) := (callW_iso hOther rfl rfl rfl _).trans (congrArg isoP (E9 _ _ (cl noHs a0)))
/-- lading.version.Bump -/
noncomputable def S13 (call : FuncId → List AV → M AV) (fx : Fix AV) (a0 a1 : AV) : M AV :=
  bnd (lft (loadA T 23 (AV.ip (acells a0)))) (fun v0 =>
  bnd (call 11 [v0]) (fun v1 =>
  bnd (lft (unA UnOp.not v1)) (fun v2 =>
  bnd (guardM v2 false 1 (bnd (lft (loadA T 23 (AV.ip (acells a1)))) (fun v3 =>
  bnd (call 11 [v3]) (fun v4 =>
  bnd (lft (unA UnOp.not v4)) (fun v5 =>
  M.pure [v5]))))) (fun v6 =>
  bnd (lft (pickA v2 (AV.bool true) (nth v6 0))) (fun v7 =>
  bnd (guardM v7 false 1 (bnd (lft (loadA T 23 (AV.ip (acells a0)))) (fun v8 =>
  bnd (lft (loadA T 23 (AV.ip (acells a1)))) (fun v9 =>
  bnd (call 12 [v8, v9]) (fun v10 =>
  bnd (lft (binA T BinOp.geq 3 v10 (AV.int IntKind.i64 0))) (fun v11 =>
  M.pure [v11])))))) (fun v12 =>
  bnd (lft (pickA v7 (AV.bool true) (nth v12 0))) (fun v13 =>
  condM v13 (M.pure (AV.int IntKind.i64 0)) (bnd (lft (fieldAddrA T 23 (AV.ip (acells a0)) 0)) (fun v14 =>
  bnd (lft (loadA T 3 v14)) (fun v15 =>
  bnd (lft (fieldAddrA T 23 (AV.ip (acells a1)) 0)) (fun v16 =>
  bnd (lft (loadA T 3 v16)) (fun v17 =>
  bnd (lft (binA T BinOp.lss 3 v15 v17)) (fun v18 =>
  condM v18 (M.pure (AV.int IntKind.i64 3)) (bnd (lft (fieldAddrA T 23 (AV.ip (acells a0)) 1)) (fun v19 =>
  bnd (lft (loadA T 3 v19)) (fun v20 =>
  bnd (lft (fieldAddrA T 23 (AV.ip (acells a1)) 1)) (fun v21 =>
  bnd (lft (loadA T 3 v21)) (fun v22 =>
  bnd (lft (binA T BinOp.lss 3 v20 v22)) (fun v23 =>
  condM v23 (M.pure (AV.int IntKind.i64 2)) (M.pure (AV.int IntKind.i64 1)))))))))))))))))))))
theorem E13 (call : FuncId → List AV → M AV) (fx : Fix AV) (a0 a1 : AV) : evBody (pg.cx call Tryd.f13.ntmps ann13) fx Tryd.f13 (own 13) [a0, a1] = S13 call fx a0 a1 := by kernel_rfl
theorem C13 (a0 a1 : AV) : callW pg 13 [a0, a1] = isoP (S13 (callW pg) fixW (cl noHs a0) (cl noHs a1)) := (callW_iso hOther rfl rfl rfl _).trans (congrArg isoP (E13 _ _ (cl noHs a0) (cl noHs a1)))
/-- lading.version.Union -/
noncomputable def S15 (call : FuncId → List AV → M AV) (fx : Fix AV) (a0 a1 : AV) : M AV :=
  bnd (lft (buildSliceA T 73 2 [(0, a0), (1, a1)])) (fun v0 =>
  bnd (call 34 [v0]) (fun v1 =>
  bnd (call 14 [v1]) (fun v2 =>
  M.pure v2)))
theorem E15 (call : FuncId → List AV → M AV) (fx : Fix AV) (a0 a1 : AV) : evBody (pg.cx call Tryd.f15.ntmps ann15) fx Tryd.f15 (own 15) [a0, a1] = S15 call fx a0 a1 := by kernel_rfl
theorem C15 (a0 a1 : AV) : callW pg 15 [a0, a1] = isoP (S15 (callW pg) fixW (cl noHs a0) (cl noHs a1)) := (callW_iso hOther rfl rfl rfl _).trans (congrArg isoP (E15 _ _ (cl noHs a0) (cl noHs a1)))
/-- lading.version.Newest -/
noncomputable def L21_0 (call : FuncId → List AV → M AV) (fx : Fix AV) (v1 : List AV → M AV) (v2 : List AV) : M AV :=
  bnd (lft (binA T BinOp.lss 3 (nth v2 4) (nth v2 3))) (fun v3 =>
  condM v3 (bnd (lft (indexAddrA T 42 (nth v2 2) (nth v2 4))) (fun v4 =>
  bnd (lft (loadA T 23 v4)) (fun v5 =>
  bnd (cellsM 3 v5) (fun v6 =>
  bnd (lft (loadA T 23 (AV.ip (acells v6)))) (fun v7 =>
  bnd (call 18 [nth v2 0, v7]) (fun v8 =>
  bnd (guardM v8 true 1 (bnd (lft (unA UnOp.not (nth v2 1))) (fun v9 =>
  M.pure [v9]))) (fun v10 =>
  bnd (guardM (nth v10 0) false 1 (bnd (lft (loadA T 23 (AV.ip (acells v6)))) (fun v11 =>
  bnd (call 12 [v11, AV.agg [nth v2 8, nth v2 9, nth v2 10]]) (fun v12 =>
  bnd (lft (binA T BinOp.gtr 3 v12 (AV.int IntKind.i64 0))) (fun v13 =>
  M.pure [v13]))))) (fun v14 =>
  bnd (guardM v8 true 1 (bnd (lft (pickA (nth v10 0) (AV.bool true) (nth v14 0))) (fun v15 =>
  M.pure [v15]))) (fun v16 =>
  bnd (lft (pickA v8 (nth v16 0) (AV.bool false))) (fun v17 =>
  condM v17 (bnd (lft (loadA T 23 (AV.ip (acells v6)))) (fun v18 =>
  bnd (cellsNil 3 [] v18) (fun v19 =>
  bnd (lft (binA T BinOp.add 3 (nth v2 4) (AV.int IntKind.i64 1))) (fun v20 =>
  v1 [nth v2 0, AV.bool true, nth v2 2, nth v2 3, v20, nth v2 5, nth v2 6, nth v2 7, nth (acells v19) 0, nth (acells v19) 1, nth (acells v19) 2])))) (bnd (lft (binA T BinOp.add 3 (nth v2 4) (AV.int IntKind.i64 1))) (fun v21 =>
  v1 [nth v2 0, nth v2 1, nth v2 2, nth v2 3, v21, nth v2 5, nth v2 6, nth v2 7, nth v2 8, nth v2 9, nth v2 10])))))))))))) (bnd (cellsNil 3 [] (AV.agg [nth v2 8, nth v2 9, nth v2 10])) (fun v22 =>
  M.pure (AV.tup [AV.agg [nth (acells v22) 0, nth (acells v22) 1, nth (acells v22) 2], nth v2 1]))))
theorem XL21_0 {call : FuncId → List AV → M AV} : Cont1 (L21_0 call fixW ) fun _n => L21_0 call fixW  := by
  intro v1 v1s hself v2
  unfold L21_0
  exact (LimM.bnd (LimM.const _) fun _ => (condM_lim (LimM.bnd (LimM.const _) fun _ => (LimM.bnd (LimM.const _) fun _ => (LimM.bnd (LimM.const _) fun _ => (LimM.bnd (LimM.const _) fun _ => (LimM.bnd (LimM.const _) fun _ => (LimM.bnd (LimM.const _) fun _ => (LimM.bnd (LimM.const _) fun _ => (LimM.bnd (LimM.const _) fun _ => (LimM.bnd (LimM.const _) fun _ => (condM_lim (LimM.bnd (LimM.const _) fun _ => (LimM.bnd (LimM.const _) fun _ => (LimM.bnd (LimM.const _) fun _ => (hself _)))) (LimM.bnd (LimM.const _) fun _ => (hself _)))))))))))) (LimM.const _)))
theorem FL21_0 (call : FuncId → List AV → M AV) (vs : List AV) : fixW (L21_0 call fixW ) vs = L21_0 call fixW  (fixW (L21_0 call fixW )) vs := fixW_eq (XL21_0 ) vs
noncomputable def S21 (call : FuncId → List AV → M AV) (fx : Fix AV) (a0 a1 : AV) : M AV :=
  bnd (lft (lenA T 42 a0)) (fun v0 =>
  fx (L21_0 call fx) [a1, AV.bool false, a0, v0, AV.int IntKind.i64 0, AV.int IntKind.i64 0, AV.int IntKind.i64 0, AV.int IntKind.i64 0, AV.int IntKind.i64 0, AV.int IntKind.i64 0, AV.int IntKind.i64 0])
theorem E21 (call : FuncId → List AV → M AV) (fx : Fix AV) (a0 a1 : AV) : evBody (pg.cx call Tryd.f21.ntmps ann21) fx Tryd.f21 (own 21) [a0, a1] = S21 call fx a0 a1 := by kernel_rfl
theorem C21 (a0 a1 : AV) : callW pg 21 [a0, a1] = isoP (S21 (callW pg) fixW (cl noHs a0) (cl noHs a1)) := (callW_iso hOther rfl rfl rfl _).trans (congrArg isoP (E21 _ _ (cl noHs a0) (cl noHs a1)))
/-- lading.ladinglaw12.to -/
noncomputable def S22 (call : FuncId → List AV → M AV) (fx : Fix AV) (a0 a1 : AV) : M AV :=
  bnd (lft (loadA T 23 (AV.ip (acells a0)))) (fun v0 =>
  bnd (lft (loadA T 23 (AV.ip (acells a1)))) (fun v1 =>
  bnd (lft (buildA T false 38 [(0, v0), (1, v1)])) (fun v2 =>
  bnd (cellsNil 6 [] v2) (fun v3 =>
  M.pure (AV.agg [nth (acells v3) 0, nth (acells v3) 1, nth (acells v3) 2, nth (acells v3) 3, nth (acells v3) 4, nth (acells v3) 5])))))
theorem E22 (call : FuncId → List AV → M AV) (fx : Fix AV) (a0 a1 : AV) : evBody (pg.cx call Tryd.f22.ntmps ann22) fx Tryd.f22 (own 22) [a0, a1] = S22 call fx a0 a1 := by kernel_rfl
theorem C22 (a0 a1 : AV) : callW pg 22 [a0, a1] = isoP (S22 (callW pg) fixW (cl noHs a0) (cl noHs a1)) := (callW_iso hOther rfl rfl rfl _).trans (congrArg isoP (E22 _ _ (cl noHs a0) (cl noHs a1)))
/-- lading.ladinglaw12.v -/
noncomputable def S23 (call : FuncId → List AV → M AV) (fx : Fix AV) (a0 a1 a2 : AV) : M AV :=
  bnd (lft (buildA T false 23 [(0, a0), (1, a1), (2, a2)])) (fun v0 =>
  bnd (cellsNil 3 [] v0) (fun v1 =>
  M.pure (AV.agg [nth (acells v1) 0, nth (acells v1) 1, nth (acells v1) 2])))
theorem E23 (call : FuncId → List AV → M AV) (fx : Fix AV) (a0 a1 a2 : AV) : evBody (pg.cx call Tryd.f23.ntmps ann23) fx Tryd.f23 (own 23) [a0, a1, a2] = S23 call fx a0 a1 a2 := by kernel_rfl
theorem C23 (a0 a1 a2 : AV) : callW pg 23 [a0, a1, a2] = isoP (S23 (callW pg) fixW (cl noHs a0) (cl noHs a1) (cl noHs a2)) := (callW_iso hOther rfl rfl rfl _).trans (congrArg isoP (E23 _ _ (cl noHs a0) (cl noHs a1) (cl noHs a2)))
/-- cmp.Or[int] -/
noncomputable def L27_0 (call : FuncId → List AV → M AV) (fx : Fix AV) (v1 : List AV → M AV) (v2 : List AV) : M AV :=
  bnd (lft (binA T BinOp.lss 3 (nth v2 3) (nth v2 2))) (fun v3 =>
  condM v3 (bnd (lft (indexAddrA T 67 (nth v2 1) (nth v2 3))) (fun v4 =>
  bnd (lft (loadA T 3 v4)) (fun v5 =>
  bnd (lft (binA T BinOp.neq 3 v5 (nth v2 0))) (fun v6 =>
  condM v6 (M.pure v5) (bnd (lft (binA T BinOp.add 3 (nth v2 3) (AV.int IntKind.i64 1))) (fun v7 =>
  v1 [nth v2 0, nth v2 1, nth v2 2, v7])))))) (M.pure (nth v2 0)))
theorem XL27_0 {call : FuncId → List AV → M AV} : Cont1 (L27_0 call fixW ) fun _n => L27_0 call fixW  := by
  intro v1 v1s hself v2
  unfold L27_0
  exact (LimM.bnd (LimM.const _) fun _ => (condM_lim (LimM.bnd (LimM.const _) fun _ => (LimM.bnd (LimM.const _) fun _ => (LimM.bnd (LimM.const _) fun _ => (condM_lim (LimM.const _) (LimM.bnd (LimM.const _) fun _ => (hself _)))))) (LimM.const _)))
theorem FL27_0 (call : FuncId → List AV → M AV) (vs : List AV) : fixW (L27_0 call fixW ) vs = L27_0 call fixW  (fixW (L27_0 call fixW )) vs := fixW_eq (XL27_0 ) vs
noncomputable def S27 (call : FuncId → List AV → M AV) (fx : Fix AV) (a0 : AV) : M AV :=
  bnd (lft (lenA T 67 a0)) (fun v0 =>
  fx (L27_0 call fx) [AV.int IntKind.i64 0, a0, v0, AV.int IntKind.i64 0])
theorem E27 (call : FuncId → List AV → M AV) (fx : Fix AV) (a0 : AV) : evBody (pg.cx call Tryd.f27.ntmps ann27) fx Tryd.f27 (own 27) [a0] = S27 call fx a0 := by kernel_rfl
theorem C27 (a0 : AV) : callW pg 27 [a0] = isoP (S27 (callW pg) fixW (cl noHs a0)) := (callW_iso hOther rfl rfl rfl _).trans (congrArg isoP (E27 _ _ (cl noHs a0)))
/-- slices.DeleteFunc[[]lading.api.Range,lading.api.Range] -/
noncomputable def K29_0 (call : FuncId → List AV → M AV) (fx : Fix AV) (v3 : List AV → M AV) (v7 : List AV) : M AV :=
  bnd (lft (binA T BinOp.add 3 (nth v7 3) (AV.int IntKind.i64 1))) (fun v8 =>
  v3 [nth v7 0, nth v7 1, nth v7 2, v8])
noncomputable def L29_0 (call : FuncId → List AV → M AV) (fx : Fix AV) (v3 : List AV → M AV) (v4 : List AV) : M AV :=
  bnd (lft (lenA T 32 (nth v4 0))) (fun v5 =>
  bnd (lft (binA T BinOp.lss 3 (nth v4 3) v5)) (fun v6 =>
  condM v6 (jn (K29_0 call fx v3) (fun v9 =>
  bnd (lft (indexAddrA T 32 (nth v4 0) (nth v4 3))) (fun v10 =>
  bnd (loadH T 38 v10) (fun v11 =>
  bnd (cellsM 6 v11) (fun v12 =>
  bnd (lft (loadA T 38 (AV.ip (acells v12)))) (fun v13 =>
  bnd (callV call (nth v4 1) [v13]) (fun v14 =>
  bnd (lft (unA UnOp.not v14)) (fun v15 =>
  condM v15 (bnd (lft (loadA T 38 (AV.ip (acells v12)))) (fun v16 =>
  bnd (lft (indexAddrA T 32 (nth v4 0) (nth v4 2))) (fun v17 =>
  bnd (storeH T 38 v17 v16) (fun v18 =>
  bnd (lft (binA T BinOp.add 3 (nth v4 2) (AV.int IntKind.i64 1))) (fun v19 =>
  v9 [nth v4 0, nth v4 1, v19, nth v4 3]))))) (v9 [nth v4 0, nth v4 1, nth v4 2, nth v4 3]))))))))) (bnd (lft (sliceA T 32 (nth v4 0) (some (nth v4 2)) none none)) (fun v20 =>
  bnd (clearH T 32 v20) (fun v21 =>
  bnd (lft (sliceA T 32 (nth v4 0) none (some (nth v4 2)) none)) (fun v22 =>
  M.pure v22))))))
theorem XK29_0 {call : FuncId → List AV → M AV} {v3 : List AV → M AV} {v3s : Nat → List AV → M AV} (hv3 : LimF v3 fun n => v3s n) : LimF (K29_0 call fixW v3) fun n => K29_0 call fixW (v3s n) := by
  intro v7
  unfold K29_0
  exact (LimM.bnd (LimM.const _) fun _ => (hv3 _))
theorem XL29_0 {call : FuncId → List AV → M AV} : Cont1 (L29_0 call fixW ) fun _n => L29_0 call fixW  := by
  intro v3 v3s hself v4
  unfold L29_0
  exact (LimM.bnd (LimM.const _) fun _ => (LimM.bnd (LimM.const _) fun _ => (condM_lim (jn_lim (XK29_0 hself) fun _ _ hv9 => (LimM.bnd (LimM.const _) fun _ => (LimM.bnd (LimM.const _) fun _ => (LimM.bnd (LimM.const _) fun _ => (LimM.bnd (LimM.const _) fun _ => (LimM.bnd (LimM.const _) fun _ => (LimM.bnd (LimM.const _) fun _ => (condM_lim (LimM.bnd (LimM.const _) fun _ => (LimM.bnd (LimM.const _) fun _ => (LimM.bnd (LimM.const _) fun _ => (LimM.bnd (LimM.const _) fun _ => (hv9 _))))) (hv9 _))))))))) (LimM.const _))))
theorem FL29_0 (call : FuncId → List AV → M AV) (vs : List AV) : fixW (L29_0 call fixW ) vs = L29_0 call fixW  (fixW (L29_0 call fixW )) vs := fixW_eq (XL29_0 ) vs
noncomputable def S29 (call : FuncId → List AV → M AV) (fx : Fix AV) (a0 a1 : AV) : M AV :=
  bnd (call 45 [a0, a1]) (fun v0 =>
  bnd (lft (binA T BinOp.eql 3 v0 (AV.int IntKind.i64 (-1)))) (fun v1 =>
  condM v1 (M.pure a0) (bnd (lft (binA T BinOp.add 3 v0 (AV.int IntKind.i64 1))) (fun v2 =>
  fx (L29_0 call fx) [a0, a1, v0, v2]))))
theorem E29 (call : FuncId → List AV → M AV) (fx : Fix AV) (a0 a1 : AV) : evBody (pg.cx call Tryd.f29.ntmps ann29) fx Tryd.f29 (own 29) [a0, a1] = S29 call fx a0 a1 := by kernel_rfl
theorem C29 (a0 a1 : AV) : callW pg 29 [a0, a1] = S29 (callW pg) fixW a0 a1 := (callW_heap hOther rfl rfl rfl _).trans (E29 _ _ a0 a1)
/-- lading.version.Norm$1 -/
noncomputable def S31 (call : FuncId → List AV → M AV) (fx : Fix AV) (a0 : AV) : M AV :=
  bnd (lft (fieldAddrA T 38 (AV.ip (acells a0)) 0)) (fun v0 =>
  bnd (lft (loadA T 23 v0)) (fun v1 =>
  bnd (lft (fieldAddrA T 38 (AV.ip (acells a0)) 1)) (fun v2 =>
  bnd (lft (loadA T 23 v2)) (fun v3 =>
  bnd (call 12 [v1, v3]) (fun v4 =>
  bnd (lft (binA T BinOp.geq 3 v4 (AV.int IntKind.i64 0))) (fun v5 =>
  M.pure v5))))))
theorem E31 (call : FuncId → List AV → M AV) (fx : Fix AV) (a0 : AV) : evBody (pg.cx call Tryd.f31.ntmps ann31) fx Tryd.f31 (own 31) [a0] = S31 call fx a0 := by kernel_rfl
theorem C31 (a0 : AV) : callW pg 31 [a0] = isoP (S31 (callW pg) fixW (cl noHs a0)) := (callW_iso hOther rfl rfl rfl _).trans (congrArg isoP (E31 _ _ (cl noHs a0)))
/-- lading.version.less -/
noncomputable def S36 (call : FuncId → List AV → M AV) (fx : Fix AV) (a0 a1 : AV) : M AV :=
  bnd (lft (loadA T 23 (AV.ip (acells a0)))) (fun v0 =>
  bnd (lft (loadA T 23 (AV.ip (acells a1)))) (fun v1 =>
  bnd (call 12 [v0, v1]) (fun v2 =>
  bnd (lft (binA T BinOp.lss 3 v2 (AV.int IntKind.i64 0))) (fun v3 =>
  condM v3 (bnd (lft (loadA T 23 (AV.ip (acells a0)))) (fun v4 =>
  bnd (cellsNil 3 [] v4) (fun v5 =>
  M.pure (AV.agg [nth (acells v5) 0, nth (acells v5) 1, nth (acells v5) 2])))) (bnd (lft (loadA T 23 (AV.ip (acells a1)))) (fun v6 =>
  bnd (cellsNil 3 [] v6) (fun v7 =>
  M.pure (AV.agg [nth (acells v7) 0, nth (acells v7) 1, nth (acells v7) 2]))))))))
theorem E36 (call : FuncId → List AV → M AV) (fx : Fix AV) (a0 a1 : AV) : evBody (pg.cx call Tryd.f36.ntmps ann36) fx Tryd.f36 (own 36) [a0, a1] = S36 call fx a0 a1 := by kernel_rfl
theorem C36 (a0 a1 : AV) : callW pg 36 [a0, a1] = isoP (S36 (callW pg) fixW (cl noHs a0) (cl noHs a1)) := (callW_iso hOther rfl rfl rfl _).trans (congrArg isoP (E36 _ _ (cl noHs a0) (cl noHs a1)))
/-- lading.version.Has$1 -/
noncomputable def S38 (call : FuncId → List AV → M AV) (fx : Fix AV) (a0 a1 : AV) : M AV :=
  bnd (lft (loadA T 38 (AV.ip (acells a0)))) (fun v0 =>
  bnd (lft (loadA T 23 a1)) (fun v1 =>
  bnd (call 39 [v0, v1]) (fun v2 =>
  M.pure v2)))
theorem E38 (call : FuncId → List AV → M AV) (fx : Fix AV) (a0 a1 : AV) : evBody (pg.cx call Tryd.f38.ntmps ann38) fx Tryd.f38 (own 38) [a0, a1] = S38 call fx a0 a1 := by kernel_rfl
theorem C38 (a0 a1 : AV) : callW pg 38 [a0, a1] = isoP (S38 (callW pg) fixW (cl noHs a0) (cl noHs a1)) := (callW_iso hOther rfl rfl rfl _).trans (congrArg isoP (E38 _ _ (cl noHs a0) (cl noHs a1)))
/-- lading.version.in -/
noncomputable def S39 (call : FuncId → List AV → M AV) (fx : Fix AV) (a0 a1 : AV) : M AV :=
  bnd (lft (fieldAddrA T 38 (AV.ip (acells a0)) 0)) (fun v0 =>
  bnd (lft (loadA T 23 v0)) (fun v1 =>
  bnd (lft (loadA T 23 (AV.ip (acells a1)))) (fun v2 =>
  bnd (call 12 [v1, v2]) (fun v3 =>
  bnd (lft (binA T BinOp.leq 3 v3 (AV.int IntKind.i64 0))) (fun v4 =>
  bnd (guardM v4 true 1 (bnd (lft (loadA T 23 (AV.ip (acells a1)))) (fun v5 =>
  bnd (lft (fieldAddrA T 38 (AV.ip (acells a0)) 1)) (fun v6 =>
  bnd (lft (loadA T 23 v6)) (fun v7 =>
  bnd (call 12 [v5, v7]) (fun v8 =>
  bnd (lft (binA T BinOp.lss 3 v8 (AV.int IntKind.i64 0))) (fun v9 =>
  M.pure [v9]))))))) (fun v10 =>
  bnd (lft (pickA v4 (nth v10 0) (AV.bool false))) (fun v11 =>
  M.pure v11)))))))
theorem E39 (call : FuncId → List AV → M AV) (fx : Fix AV) (a0 a1 : AV) : evBody (pg.cx call Tryd.f39.ntmps ann39) fx Tryd.f39 (own 39) [a0, a1] = S39 call fx a0 a1 := by kernel_rfl
theorem C39 (a0 a1 : AV) : callW pg 39 [a0, a1] = isoP (S39 (callW pg) fixW (cl noHs a0) (cl noHs a1)) := (callW_iso hOther rfl rfl rfl _).trans (congrArg isoP (E39 _ _ (cl noHs a0) (cl noHs a1)))
/-- cmp.isNaN[int] -/
noncomputable def S44 (call : FuncId → List AV → M AV) (fx : Fix AV) (a0 : AV) : M AV :=
  bnd (lft (binA T BinOp.neq 3 a0 a0)) (fun v0 =>
  M.pure v0)
theorem E44 (call : FuncId → List AV → M AV) (fx : Fix AV) (a0 : AV) : evBody (pg.cx call Tryd.f44.ntmps ann44) fx Tryd.f44 (own 44) [a0] = S44 call fx a0 := by kernel_rfl
theorem C44 (a0 : AV) : callW pg 44 [a0] = isoP (S44 (callW pg) fixW (cl noHs a0)) := (callW_iso hOther rfl rfl rfl _).trans (congrArg isoP (E44 _ _ (cl noHs a0)))
/-- math.bits.Len32 -/
noncomputable def K66_0 (call : FuncId → List AV → M AV) (fx : Fix AV) (v1 : List AV) : M AV :=
  bnd (lft (convA T 94 5 (nth v1 0))) (fun v2 =>
  bnd (lft (indexStrA T 9 (AV.str [0, 1, 2, 2, 3, 3, 3, 3, 4, 4, 4, 4, 4, 4, 4, 4, 5, 5, 5, 5, 5, 5, 5, 5, 5, 5, 5, 5, 5, 5, 5, 5, 6, 6, 6, 6, 6, 6, 6, 6, 6, 6, 6, 6, 6, 6, 6, 6, 6, 6, 6, 6, 6, 6, 6, 6, 6, 6, 6, 6, 6, 6, 6, 6, 7, 7, 7, 7, 7, 7, 7, 7, 7, 7, 7, 7, 7, 7, 7, 7, 7, 7, 7, 7, 7, 7, 7, 7, 7, 7, 7, 7, 7, 7, 7, 7, 7, 7, 7, 7, 7, 7, 7, 7, 7, 7, 7, 7, 7, 7, 7, 7, 7, 7, 7, 7, 7, 7, 7, 7, 7, 7, 7, 7, 7, 7, 7, 7, 8, 8, 8, 8, 8, 8, 8, 8, 8, 8, 8, 8, 8, 8, 8, 8, 8, 8, 8, 8, 8, 8, 8, 8, 8, 8, 8, 8, 8, 8, 8, 8, 8, 8, 8, 8, 8, 8, 8, 8, 8, 8, 8, 8, 8, 8, 8, 8, 8, 8, 8, 8, 8, 8, 8, 8, 8, 8, 8, 8, 8, 8, 8, 8, 8, 8, 8, 8, 8, 8, 8, 8, 8, 8, 8, 8, 8, 8, 8, 8, 8, 8, 8, 8, 8, 8, 8, 8, 8, 8, 8, 8, 8, 8, 8, 8, 8, 8, 8, 8, 8, 8, 8, 8, 8, 8, 8, 8, 8, 8, 8, 8, 8, 8, 8, 8, 8, 8, 8, 8, 8, 8, 8, 8, 8, 8, 8, 8]) v2)) (fun v3 =>
  bnd (lft (convA T 5 3 v3)) (fun v4 =>
  bnd (lft (binA T BinOp.add 3 (nth v1 1) v4)) (fun v5 =>
  M.pure v5))))
noncomputable def K66_1 (call : FuncId → List AV → M AV) (fx : Fix AV) (v0 : List AV) : M AV :=
  jn (K66_0 call fx) (fun v6 =>
  bnd (lft (binA T BinOp.geq 94 (nth v0 0) (AV.int IntKind.u32 256))) (fun v7 =>
  condM v7 (bnd (lft (binA T BinOp.shr 94 (nth v0 0) (AV.int IntKind.u64 8))) (fun v8 =>
  bnd (lft (binA T BinOp.add 3 (nth v0 1) (AV.int IntKind.i64 8))) (fun v9 =>
  v6 [v8, v9]))) (v6 [nth v0 0, nth v0 1])))
noncomputable def S66 (call : FuncId → List AV → M AV) (fx : Fix AV) (a0 : AV) : M AV :=
  jn (K66_1 call fx) (fun v10 =>
  bnd (lft (binA T BinOp.geq 94 a0 (AV.int IntKind.u32 65536))) (fun v11 =>
  condM v11 (bnd (lft (binA T BinOp.shr 94 a0 (AV.int IntKind.u64 16))) (fun v12 =>
  v10 [v12, AV.int IntKind.i64 16])) (v10 [a0, AV.int IntKind.i64 0])))
theorem E66 (call : FuncId → List AV → M AV) (fx : Fix AV) (a0 : AV) : evBody (pg.cx call Tryd.f66.ntmps ann66) fx Tryd.f66 (own 66) [a0] = S66 call fx a0 := by kernel_rfl
theorem C66 (a0 : AV) : callW pg 66 [a0] = isoP (S66 (callW pg) fixW (cl noHs a0)) := (callW_iso hOther rfl rfl rfl _).trans (congrArg isoP (E66 _ _ (cl noHs a0)))
/-- math.bits.Len64 -/
noncomputable def K67_0 (call : FuncId → List AV → M AV) (fx : Fix AV) (v2 : List AV) : M AV :=
  bnd (lft (convA T 96 5 (nth v2 0))) (fun v3 =>
  bnd (lft (indexStrA T 9 (AV.str [0, 1, 2, 2, 3, 3, 3, 3, 4, 4, 4, 4, 4, 4, 4, 4, 5, 5, 5, 5, 5, 5, 5, 5, 5, 5, 5, 5, 5, 5, 5, 5, 6, 6, 6, 6, 6, 6, 6, 6, 6, 6, 6, 6, 6, 6, 6, 6, 6, 6, 6, 6, 6, 6, 6, 6, 6, 6, 6, 6, 6, 6, 6, 6, 7, 7, 7, 7, 7, 7, 7, 7, 7, 7, 7, 7, 7, 7, 7, 7, 7, 7, 7, 7, 7, 7, 7, 7, 7, 7, 7, 7, 7, 7, 7, 7, 7, 7, 7, 7, 7, 7, 7, 7, 7, 7, 7, 7, 7, 7, 7, 7, 7, 7, 7, 7, 7, 7, 7, 7, 7, 7, 7, 7, 7, 7, 7, 7, 8, 8, 8, 8, 8, 8, 8, 8, 8, 8, 8, 8, 8, 8, 8, 8, 8, 8, 8, 8, 8, 8, 8, 8, 8, 8, 8, 8, 8, 8, 8, 8, 8, 8, 8, 8, 8, 8, 8, 8, 8, 8, 8, 8, 8, 8, 8, 8, 8, 8, 8, 8, 8, 8, 8, 8, 8, 8, 8, 8, 8, 8, 8, 8, 8, 8, 8, 8, 8, 8, 8, 8, 8, 8, 8, 8, 8, 8, 8, 8, 8, 8, 8, 8, 8, 8, 8, 8, 8, 8, 8, 8, 8, 8, 8, 8, 8, 8, 8, 8, 8, 8, 8, 8, 8, 8, 8, 8, 8, 8, 8, 8, 8, 8, 8, 8, 8, 8, 8, 8, 8, 8, 8, 8, 8, 8, 8, 8]) v3)) (fun v4 =>
  bnd (lft (convA T 5 3 v4)) (fun v5 =>
  bnd (lft (binA T BinOp.add 3 (nth v2 1) v5)) (fun v6 =>
  M.pure v6))))
noncomputable def K67_1 (call : FuncId → List AV → M AV) (fx : Fix AV) (v1 : List AV) : M AV :=
  jn (K67_0 call fx) (fun v7 =>
  bnd (lft (binA T BinOp.geq 96 (nth v1 0) (AV.int IntKind.u64 256))) (fun v8 =>
  condM v8 (bnd (lft (binA T BinOp.shr 96 (nth v1 0) (AV.int IntKind.u64 8))) (fun v9 =>
  bnd (lft (binA T BinOp.add 3 (nth v1 1) (AV.int IntKind.i64 8))) (fun v10 =>
  v7 [v9, v10]))) (v7 [nth v1 0, nth v1 1])))
noncomputable def K67_2 (call : FuncId → List AV → M AV) (fx : Fix AV) (v0 : List AV) : M AV :=
  jn (K67_1 call fx) (fun v11 =>
  bnd (lft (binA T BinOp.geq 96 (nth v0 0) (AV.int IntKind.u64 65536))) (fun v12 =>
  condM v12 (bnd (lft (binA T BinOp.shr 96 (nth v0 0) (AV.int IntKind.u64 16))) (fun v13 =>
  bnd (lft (binA T BinOp.add 3 (nth v0 1) (AV.int IntKind.i64 16))) (fun v14 =>
  v11 [v13, v14]))) (v11 [nth v0 0, nth v0 1])))
noncomputable def S67 (call : FuncId → List AV → M AV) (fx : Fix AV) (a0 : AV) : M AV :=
  jn (K67_2 call fx) (fun v15 =>
  bnd (lft (binA T BinOp.geq 96 a0 (AV.int IntKind.u64 4294967296))) (fun v16 =>
  condM v16 (bnd (lft (binA T BinOp.shr 96 a0 (AV.int IntKind.u64 32))) (fun v17 =>
  v15 [v17, AV.int IntKind.i64 32])) (v15 [a0, AV.int IntKind.i64 0])))
theorem E67 (call : FuncId → List AV → M AV) (fx : Fix AV) (a0 : AV) : evBody (pg.cx call Tryd.f67.ntmps ann67) fx Tryd.f67 (own 67) [a0] = S67 call fx a0 := by kernel_rfl
theorem C67 (a0 : AV) : callW pg 67 [a0] = isoP (S67 (callW pg) fixW (cl noHs a0)) := (callW_iso hOther rfl rfl rfl _).trans (congrArg isoP (E67 _ _ (cl noHs a0)))
end Go.Proofs.YtllapohmppeceaaDoor
