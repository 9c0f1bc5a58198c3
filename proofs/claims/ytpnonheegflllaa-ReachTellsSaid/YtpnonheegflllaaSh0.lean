/- Shallow programs of the functions, part 0: written by a program. No condition. -/
import Derived.Test.YtpnonheegflllaaAnn
namespace Go.Proofs.Ytpnonheegflllaa
open Go Go.Av Go.Av.Ap
set_option maxRecDepth 100000
noncomputable def S3 (call : CC) (fx : Fix AV) (a0 a1 a2 : AV) : M AV :=
  bnd (call 6 []) (fun v0 =>
  bnd (call 7 [a0]) (fun v1 =>
  bnd (lft (unA UnOp.not v1)) (fun v2 =>
  condM v2 (M.pure v0) (bnd (lft (loadA T 24 (AV.ip (acells a1)))) (fun v3 =>
  bnd (lft (loadA T 24 (AV.ip (acells a2)))) (fun v4 =>
  bnd (call 8 [a0, v3, v4]) (fun v5 =>
  bnd (lft (extractA v5 0)) (fun v6 =>
  bnd (lft (extractA v5 1)) (fun v7 =>
  bnd (lft (loadA T 24 (AV.ip (acells a1)))) (fun v8 =>
  bnd (lft (loadA T 24 (AV.ip (acells a2)))) (fun v9 =>
  bnd (call 9 [a0, v8, v9]) (fun v10 =>
  bnd (lft (extractA v10 0)) (fun v11 =>
  bnd (lft (extractA v10 1)) (fun v12 =>
  bnd (lft (loadA T 24 (AV.ip (acells a1)))) (fun v13 =>
  bnd (noPan (call 11 [a0, v13])) (fun v14 =>
  bnd (lft (loadA T 24 (AV.ip (acells a1)))) (fun v15 =>
  bnd (noPan (call 12 [a0, v15])) (fun v16 =>
  bnd (noPan (call 10 [v14, v16])) (fun v17 =>
  bnd (guardM v17 true 1 (bnd (lft (loadA T 24 (AV.ip (acells a1)))) (fun v18 =>
  bnd (noPan (call 13 [a0, v18])) (fun v19 =>
  bnd (lft (loadA T 24 (AV.ip (acells a1)))) (fun v20 =>
  bnd (noPan (call 14 [a0, v20])) (fun v21 =>
  bnd (noPan (call 10 [v19, v21])) (fun v22 =>
  M.pure [v22]))))))) (fun v23 =>
  bnd (lft (pickA v17 (nth v23 0) (AV.bool false))) (fun v24 =>
  bnd (guardM v24 true 1 (bnd (lft (loadA T 24 (AV.ip (acells a1)))) (fun v25 =>
  bnd (noPan (call 15 [a0, v25])) (fun v26 =>
  bnd (lft (loadA T 24 (AV.ip (acells a1)))) (fun v27 =>
  bnd (noPan (call 16 [a0, v27])) (fun v28 =>
  bnd (lft (binA T .eql 3 v26 v28)) (fun v29 =>
  M.pure [v29]))))))) (fun v30 =>
  bnd (lft (pickA v24 (nth v30 0) (AV.bool false))) (fun v31 =>
  bnd (guardM v0 true 1 (M.pure [v31])) (fun v32 =>
  bnd (lft (pickA v0 (nth v32 0) (AV.bool false))) (fun v33 =>
  bnd (guardM v33 true 1 (bnd (lft (binA T .eql 4 v7 v12)) (fun v34 =>
  M.pure [v34]))) (fun v35 =>
  bnd (lft (pickA v33 (nth v35 0) (AV.bool false))) (fun v36 =>
  bnd (guardM v36 true 1 (bnd (noPan (call 10 [v6, v11])) (fun v37 =>
  M.pure [v37]))) (fun v38 =>
  bnd (lft (pickA v36 (nth v38 0) (AV.bool false))) (fun v39 =>
  bnd (guardM v39 true 1 (bnd (lft (loadA T 24 (AV.ip (acells a1)))) (fun v40 =>
  bnd (noPan (call 17 [a0, v40])) (fun v41 =>
  bnd (lft (loadA T 24 (AV.ip (acells a1)))) (fun v42 =>
  bnd (noPan (call 18 [a0, v42])) (fun v43 =>
  bnd (noPan (call 10 [v41, v43])) (fun v44 =>
  M.pure [v44]))))))) (fun v45 =>
  bnd (lft (pickA v39 (nth v45 0) (AV.bool false))) (fun v46 =>
  M.pure v46)))))))))))))))))))))))))))))))
theorem E3 (call : CC) (fx : Fix AV) (a0 a1 a2 : AV) : evBody (pg.cx call Try.f3.ntmps ann3) fx Try.f3 (own 3) [a0, a1, a2] = S3 call fx a0 a1 a2 := by kernel_rfl
theorem C3 (a0 a1 a2 : AV) : callW pg 3 [a0, a1, a2] = isoP (S3 (callW pg) fixW (cl noHs a0) (cl noHs a1) (cl noHs a2)) := (callW_iso hOther rfl rfl rfl _).trans (congrArg isoP (E3 _ _ (cl noHs a0) (cl noHs a1) (cl noHs a2)))
noncomputable def L4_0 (call : CC) (fx : Fix AV) (v74 : List AV → M AV) (v81 : List AV → M AV) (v82 : List AV) : M AV :=
  bnd (lft (lenA T 27 (nth v82 4))) (fun v83 =>
  bnd (lft (binA T .lss 3 (nth v82 5) v83)) (fun v84 =>
  condM v84 (bnd (lft (indexAddrA T 27 (nth v82 4) (nth v82 5))) (fun v85 =>
  bnd (lft (loadA T 24 v85)) (fun v86 =>
  bnd (call 19 [nth v82 2, v86]) (fun v87 =>
  bnd (lft (unA UnOp.not v87)) (fun v88 =>
  condM v88 (M.pure (AV.bool false)) (bnd (lft (binA T .add 3 (nth v82 5) (AV.int .i64 1))) (fun v89 =>
  v81 [nth v82 0, nth v82 1, nth v82 2, nth v82 3, nth v82 4, v89]))))))) (bnd (lft (binA T .gtr 3 (nth v82 3) (AV.int .i64 0))) (fun v90 =>
  bnd (guardM v90 true 1 (bnd (lft (indexAddrA T 27 (nth v82 2) (nth v82 3))) (fun v91 =>
  bnd (lft (fieldAddrA T 24 v91 0)) (fun v92 =>
  bnd (lft (loadA T 9 v92)) (fun v93 =>
  bnd (lft (binA T .sub 3 (nth v82 3) (AV.int .i64 1))) (fun v94 =>
  bnd (lft (indexAddrA T 27 (nth v82 2) v94)) (fun v95 =>
  bnd (lft (fieldAddrA T 24 v95 0)) (fun v96 =>
  bnd (lft (loadA T 9 v96)) (fun v97 =>
  bnd (lft (binA T .lss 9 v93 v97)) (fun v98 =>
  M.pure [v98])))))))))) (fun v99 =>
  bnd (guardM (nth v99 0) false 1 (bnd (lft (indexAddrA T 27 (nth v82 2) (nth v82 3))) (fun v100 =>
  bnd (lft (fieldAddrA T 24 v100 0)) (fun v101 =>
  bnd (lft (loadA T 9 v101)) (fun v102 =>
  bnd (lft (binA T .sub 3 (nth v82 3) (AV.int .i64 1))) (fun v103 =>
  bnd (lft (indexAddrA T 27 (nth v82 2) v103)) (fun v104 =>
  bnd (lft (fieldAddrA T 24 v104 0)) (fun v105 =>
  bnd (lft (loadA T 9 v105)) (fun v106 =>
  bnd (lft (binA T .eql 9 v102 v106)) (fun v107 =>
  M.pure [v107])))))))))) (fun v108 =>
  bnd (guardM (nth v108 0) true 1 (bnd (lft (indexAddrA T 27 (nth v82 2) (nth v82 3))) (fun v109 =>
  bnd (lft (fieldAddrA T 24 v109 1)) (fun v110 =>
  bnd (lft (loadA T 9 v110)) (fun v111 =>
  bnd (lft (binA T .sub 3 (nth v82 3) (AV.int .i64 1))) (fun v112 =>
  bnd (lft (indexAddrA T 27 (nth v82 2) v112)) (fun v113 =>
  bnd (lft (fieldAddrA T 24 v113 1)) (fun v114 =>
  bnd (lft (loadA T 9 v114)) (fun v115 =>
  bnd (lft (binA T .leq 9 v111 v115)) (fun v116 =>
  M.pure [v116])))))))))) (fun v117 =>
  bnd (guardM (nth v99 0) false 1 (bnd (lft (pickA (nth v108 0) (nth v117 0) (AV.bool false))) (fun v118 =>
  M.pure [v118]))) (fun v119 =>
  bnd (guardM v90 true 1 (bnd (lft (pickA (nth v99 0) (AV.bool true) (nth v119 0))) (fun v120 =>
  M.pure [v120]))) (fun v121 =>
  bnd (lft (pickA v90 (nth v121 0) (AV.bool false))) (fun v122 =>
  condM v122 (M.pure (AV.bool false)) (bnd (lft (binA T .add 3 (nth v82 3) (AV.int .i64 1))) (fun v123 =>
  v74 [nth v82 0, nth v82 1, nth v82 2, v123]))))))))))))
noncomputable def L4_1 (call : CC) (fx : Fix AV) (v74 : List AV → M AV) (v75 : List AV) : M AV :=
  bnd (lft (lenA T 27 (nth v75 2))) (fun v76 =>
  bnd (lft (binA T .lss 3 (nth v75 3) v76)) (fun v77 =>
  condM v77 (bnd (lft (indexAddrA T 27 (nth v75 2) (nth v75 3))) (fun v78 =>
  bnd (lft (loadA T 24 v78)) (fun v79 =>
  bnd (call 13 [nth v75 0, v79]) (fun v80 =>
  fx (L4_0 call fx v74) [nth v75 0, nth v75 1, nth v75 2, nth v75 3, v80, AV.int .i64 0])))) (M.pure (nth v75 1))))
noncomputable def L4_2 (call : CC) (fx : Fix AV) (v38 : List AV → M AV) (v39 : List AV) : M AV :=
  bnd (lft (lenA T 27 (nth v39 5))) (fun v40 =>
  bnd (lft (binA T .lss 3 (nth v39 6) v40)) (fun v41 =>
  condM v41 (bnd (lft (binA T .gtr 3 (nth v39 6) (AV.int .i64 0))) (fun v42 =>
  bnd (guardM v42 true 1 (bnd (lft (binA T .sub 3 (nth v39 6) (AV.int .i64 1))) (fun v43 =>
  bnd (lft (indexAddrA T 27 (nth v39 5) v43)) (fun v44 =>
  bnd (lft (loadA T 24 v44)) (fun v45 =>
  bnd (noPan (call 11 [nth v39 0, v45])) (fun v46 =>
  bnd (lft (indexAddrA T 27 (nth v39 5) (nth v39 6))) (fun v47 =>
  bnd (lft (loadA T 24 v47)) (fun v48 =>
  bnd (noPan (call 19 [v46, v48])) (fun v49 =>
  bnd (lft (unA UnOp.not v49)) (fun v50 =>
  M.pure [v50])))))))))) (fun v51 =>
  bnd (lft (pickA v42 (nth v51 0) (AV.bool false))) (fun v52 =>
  condM v52 (M.pure (AV.bool false)) (bnd (lft (loadA T 24 (nth v39 1))) (fun v53 =>
  bnd (lft (indexAddrA T 27 (nth v39 5) (nth v39 6))) (fun v54 =>
  bnd (lft (loadA T 24 v54)) (fun v55 =>
  bnd (noPan (call 8 [nth v39 0, v53, v55])) (fun v56 =>
  bnd (lft (extractA v56 0)) (fun v57 =>
  bnd (lft (extractA v56 1)) (fun v58 =>
  bnd (lft (unA UnOp.not v58)) (fun v59 =>
  bnd (guardM v59 false 1 (bnd (lft (lenA T 27 v57)) (fun v60 =>
  bnd (lft (binA T .add 3 (nth v39 6) (AV.int .i64 1))) (fun v61 =>
  bnd (lft (binA T .neq 3 v60 v61)) (fun v62 =>
  M.pure [v62]))))) (fun v63 =>
  bnd (lft (pickA v59 (AV.bool true) (nth v63 0))) (fun v64 =>
  bnd (guardM v64 false 1 (bnd (lft (indexAddrA T 27 (nth v39 5) (nth v39 6))) (fun v65 =>
  bnd (lft (loadA T 24 v65)) (fun v66 =>
  bnd (noPan (call 13 [nth v39 0, v66])) (fun v67 =>
  bnd (lft (loadA T 24 (nth v39 2))) (fun v68 =>
  bnd (noPan (call 19 [v67, v68])) (fun v69 =>
  bnd (lft (unA UnOp.not v69)) (fun v70 =>
  M.pure [v70])))))))) (fun v71 =>
  bnd (lft (pickA v64 (AV.bool true) (nth v71 0))) (fun v72 =>
  condM v72 (M.pure (AV.bool false)) (bnd (lft (binA T .add 3 (nth v39 6) (AV.int .i64 1))) (fun v73 =>
  v38 [nth v39 0, nth v39 1, nth v39 2, nth v39 3, nth v39 4, nth v39 5, v73])))))))))))))))))) (fx (L4_1 call fx) [nth v39 0, nth v39 3, nth v39 4, AV.int .i64 0])))
theorem XL4_0 {call : CC} {v74 : List AV → M AV} {v74s : Nat → List AV → M AV} (hv74 : LimF v74 fun n => v74s n) : Cont1 (L4_0 call fixW v74) fun n => L4_0 call fixW (v74s n) := by
  intro v81 v81s hself v82
  unfold L4_0
  exact (lb fun _ => (lb fun _ => (condM_lim (lb fun _ => (lb fun _ => (lb fun _ => (lb fun _ => (condM_lim (LimM.const _) (lb fun _ => (hself _))))))) (lb fun _ => (lb fun _ => (lb fun _ => (lb fun _ => (lb fun _ => (lb fun _ => (lb fun _ => (condM_lim (LimM.const _) (lb fun _ => (hv74 _)))))))))))))
theorem YL4_0 {call : CC} {v74 : List AV → M AV} {v74s : Nat → List AV → M AV} (hv74 : LimF v74 fun n => v74s n) : LimF (fixW (L4_0 call fixW v74)) fun n => fixW (L4_0 call fixW (v74s n)) := fixW_limF (XL4_0 hv74) (XL4_0 (LimF.const _)) fun _ => XL4_0 (LimF.const _)
theorem FL4_0 (call : CC) (v74 : List AV → M AV) (vs : List AV) : fixW (L4_0 call fixW v74) vs = L4_0 call fixW v74 (fixW (L4_0 call fixW v74)) vs := fixW_eq (XL4_0 (LimF.const _)) vs
theorem XL4_1 {call : CC} : Cont1 (L4_1 call fixW ) fun _n => L4_1 call fixW  := by
  intro v74 v74s hself v75
  unfold L4_1
  exact (lb fun _ => (lb fun _ => (condM_lim (lb fun _ => (lb fun _ => (lb fun _ => ((YL4_0 hself) _)))) (LimM.const _))))
theorem FL4_1 (call : CC) (vs : List AV) : fixW (L4_1 call fixW ) vs = L4_1 call fixW  (fixW (L4_1 call fixW )) vs := fixW_eq (XL4_1 ) vs
theorem XL4_2 {call : CC} : Cont1 (L4_2 call fixW ) fun _n => L4_2 call fixW  := by
  intro v38 v38s hself v39
  unfold L4_2
  exact (lb fun _ => (lb fun _ => (condM_lim (lb fun _ => (lb fun _ => (lb fun _ => (condM_lim (LimM.const _) (lb fun _ => (lb fun _ => (lb fun _ => (lb fun _ => (lb fun _ => (lb fun _ => (lb fun _ => (lb fun _ => (lb fun _ => (lb fun _ => (lb fun _ => (condM_lim (LimM.const _) (lb fun _ => (hself _)))))))))))))))))) (LimM.const _))))
theorem FL4_2 (call : CC) (vs : List AV) : fixW (L4_2 call fixW ) vs = L4_2 call fixW  (fixW (L4_2 call fixW )) vs := fixW_eq (XL4_2 ) vs
noncomputable def S4 (call : CC) (fx : Fix AV) (a0 a1 a2 : AV) : M AV :=
  bnd (call 6 []) (fun v0 =>
  bnd (call 7 [a0]) (fun v1 =>
  bnd (lft (unA UnOp.not v1)) (fun v2 =>
  condM v2 (M.pure v0) (bnd (lft (loadA T 24 (AV.ip (acells a1)))) (fun v3 =>
  bnd (call 13 [a0, v3]) (fun v4 =>
  bnd (lft (loadA T 24 (AV.ip (acells a1)))) (fun v5 =>
  bnd (lft (loadA T 24 (AV.ip (acells a2)))) (fun v6 =>
  bnd (call 8 [a0, v5, v6]) (fun v7 =>
  bnd (lft (extractA v7 0)) (fun v8 =>
  bnd (lft (extractA v7 1)) (fun v9 =>
  bnd (lft (loadA T 24 (AV.ip (acells a2)))) (fun v10 =>
  bnd (call 19 [v4, v10]) (fun v11 =>
  bnd (lft (binA T .neq 4 v9 v11)) (fun v12 =>
  bnd (guardM v12 false 1 (bnd (lft (unA UnOp.not v9)) (fun v13 =>
  M.pure [v13]))) (fun v14 =>
  bnd (guardM (nth v14 0) true 1 (bnd (lft (lenA T 27 v8)) (fun v15 =>
  bnd (lft (binA T .gtr 3 v15 (AV.int .i64 0))) (fun v16 =>
  M.pure [v16])))) (fun v17 =>
  bnd (guardM v12 false 1 (bnd (lft (pickA (nth v14 0) (nth v17 0) (AV.bool false))) (fun v18 =>
  M.pure [v18]))) (fun v19 =>
  bnd (lft (pickA v12 (AV.bool true) (nth v19 0))) (fun v20 =>
  condM v20 (M.pure (AV.bool false)) (bnd (lft (unA UnOp.not v9)) (fun v21 =>
  condM v21 (M.pure v0) (bnd (lft (lenA T 27 v8)) (fun v22 =>
  bnd (lft (binA T .eql 3 v22 (AV.int .i64 0))) (fun v23 =>
  bnd (guardM v23 false 1 (bnd (lft (indexAddrA T 27 v8 (AV.int .i64 0))) (fun v24 =>
  bnd (lft (loadA T 24 v24)) (fun v25 =>
  bnd (lft (loadA T 24 (AV.ip (acells a1)))) (fun v26 =>
  bnd (lft (binA T .neq 24 v25 v26)) (fun v27 =>
  M.pure [v27])))))) (fun v28 =>
  bnd (lft (pickA v23 (AV.bool true) (nth v28 0))) (fun v29 =>
  bnd (guardM v29 false 1 (bnd (lft (lenA T 27 v8)) (fun v30 =>
  bnd (lft (binA T .sub 3 v30 (AV.int .i64 1))) (fun v31 =>
  bnd (lft (indexAddrA T 27 v8 v31)) (fun v32 =>
  bnd (lft (loadA T 24 v32)) (fun v33 =>
  bnd (lft (loadA T 24 (AV.ip (acells a2)))) (fun v34 =>
  bnd (lft (binA T .neq 24 v33 v34)) (fun v35 =>
  M.pure [v35])))))))) (fun v36 =>
  bnd (lft (pickA v29 (AV.bool true) (nth v36 0))) (fun v37 =>
  condM v37 (M.pure (AV.bool false)) (fx (L4_2 call fx) [a0, AV.ip (acells a1), AV.ip (acells a2), v0, v4, v8, AV.int .i64 0]))))))))))))))))))))))))))))
theorem E4 (call : CC) (fx : Fix AV) (a0 a1 a2 : AV) : evBody (pg.cx call Try.f4.ntmps ann4) fx Try.f4 (own 4) [a0, a1, a2] = S4 call fx a0 a1 a2 := by kernel_rfl
theorem C4 (a0 a1 a2 : AV) : callW pg 4 [a0, a1, a2] = isoP (S4 (callW pg) fixW (cl noHs a0) (cl noHs a1) (cl noHs a2)) := (callW_iso hOther rfl rfl rfl _).trans (congrArg isoP (E4 _ _ (cl noHs a0) (cl noHs a1) (cl noHs a2)))
noncomputable def K5_0 (call : CC) (fx : Fix AV) (v35 : List AV → M AV) (v44 : List AV) : M AV :=
  bnd (lft (binA T .add 3 (nth v44 9) (AV.int .i64 1))) (fun v45 =>
  v35 [nth v44 0, nth v44 1, nth v44 2, nth v44 3, nth v44 4, nth v44 5, nth v44 6, nth v44 7, nth v44 8, v45])
noncomputable def K5_1 (call : CC) (fx : Fix AV) (v46 : List AV → M AV) (v83 : List AV) : M AV :=
  bnd (lft (loadA T 24 (nth v83 10))) (fun v84 =>
  bnd (call 19 [nth v83 4, v84]) (fun v85 =>
  bnd (lft (binA T .neq 4 (nth v83 11) v85)) (fun v86 =>
  condM v86 (M.pure (AV.bool false)) (v46 [nth v83 0, nth v83 1, nth v83 2, nth v83 3, nth v83 4, nth v83 5, nth v83 6, nth v83 7, nth v83 8, nth v83 9]))))
noncomputable def L5_0 (call : CC) (fx : Fix AV) (v46 : List AV → M AV) (v60 : List AV → M AV) (v61 : List AV) : M AV :=
  bnd (lft (binA T .lss 3 (nth v61 13) (nth v61 9))) (fun v62 =>
  condM v62 (bnd (guardM (nth v61 12) false 1 (bnd (lft (indexAddrA T 22 (nth v61 0) (nth v61 7))) (fun v63 =>
  bnd (lft (fieldAddrA T 42 v63 4)) (fun v64 =>
  bnd (lft (loadA T 38 v64)) (fun v65 =>
  bnd (lft (indexAddrA T 38 v65 (nth v61 13))) (fun v66 =>
  bnd (lft (fieldAddrA T 48 v66 0)) (fun v67 =>
  bnd (lft (loadA T 9 v67)) (fun v68 =>
  bnd (lft (fieldAddrA T 48 (nth v61 10) 0)) (fun v69 =>
  bnd (lft (loadA T 9 v69)) (fun v70 =>
  bnd (lft (binA T .eql 9 v68 v70)) (fun v71 =>
  M.pure [v71]))))))))))) (fun v72 =>
  bnd (lft (pickA (nth v61 12) (AV.bool true) (nth v72 0))) (fun v73 =>
  bnd (lft (binA T .add 3 (nth v61 13) (AV.int .i64 1))) (fun v74 =>
  v60 [nth v61 0, nth v61 1, nth v61 2, nth v61 3, nth v61 4, nth v61 5, nth v61 6, nth v61 7, nth v61 8, nth v61 9, nth v61 10, nth v61 11, v73, v74])))) (condM (nth v61 12) (v46 [nth v61 0, nth v61 1, nth v61 2, nth v61 3, nth v61 4, nth v61 5, nth v61 6, nth v61 7, nth v61 8, nth v61 9]) (bnd (lft (fieldAddrA T 48 (nth v61 10) 1)) (fun v75 =>
  bnd (lft (loadA T 4 v75)) (fun v76 =>
  bnd (guardM v76 true 1 (bnd (lft (loadA T 24 (nth v61 11))) (fun v77 =>
  bnd (noPan (call 13 [nth v61 0, v77])) (fun v78 =>
  bnd (lft (loadA T 24 (nth v61 1))) (fun v79 =>
  bnd (noPan (call 19 [v78, v79])) (fun v80 =>
  M.pure [v80])))))) (fun v81 =>
  bnd (lft (pickA v76 (nth v81 0) (AV.bool false))) (fun v82 =>
  jn (K5_1 call fx v46) (fun v87 =>
  condM v82 (bnd (lft (binA T .add 3 (nth v61 5) (AV.int .i64 1))) (fun v88 =>
  v87 [nth v61 0, nth v61 1, nth v61 2, nth v61 3, nth v61 4, v88, nth v61 6, nth v61 7, nth v61 8, nth v61 9, nth v61 11, v82])) (v87 [nth v61 0, nth v61 1, nth v61 2, nth v61 3, nth v61 4, nth v61 5, nth v61 6, nth v61 7, nth v61 8, nth v61 9, nth v61 11, v82])))))))))
noncomputable def L5_1 (call : CC) (fx : Fix AV) (v10 : List AV → M AV) (v35 : List AV → M AV) (v36 : List AV) : M AV :=
  bnd (guardM (nth v36 8) true 1 (bnd (lft (indexAddrA T 22 (nth v36 0) (nth v36 7))) (fun v37 =>
  bnd (lft (fieldAddrA T 42 v37 4)) (fun v38 =>
  bnd (lft (loadA T 38 v38)) (fun v39 =>
  bnd (lft (lenA T 38 v39)) (fun v40 =>
  bnd (lft (binA T .lss 3 (nth v36 9) v40)) (fun v41 =>
  M.pure [v41]))))))) (fun v42 =>
  bnd (lft (pickA (nth v36 8) (nth v42 0) (AV.bool false))) (fun v43 =>
  condM v43 (jn (K5_0 call fx v35) (fun v46 =>
  bnd (lft (indexAddrA T 22 (nth v36 0) (nth v36 7))) (fun v47 =>
  bnd (lft (fieldAddrA T 42 v47 4)) (fun v48 =>
  bnd (lft (loadA T 38 v48)) (fun v49 =>
  bnd (lft (indexAddrA T 38 v49 (nth v36 9))) (fun v50 =>
  bnd (lft (loadA T 48 v50)) (fun v51 =>
  bnd (cellsM 12 v51) (fun v52 =>
  bnd (lft (indexAddrA T 22 (nth v36 0) (nth v36 7))) (fun v53 =>
  bnd (lft (fieldAddrA T 42 v53 0)) (fun v54 =>
  bnd (lft (loadA T 9 v54)) (fun v55 =>
  bnd (lft (fieldAddrA T 48 (AV.ip (acells v52)) 0)) (fun v56 =>
  bnd (lft (loadA T 9 v56)) (fun v57 =>
  bnd (lft (buildA T false 24 [(0, v55), (1, v57)])) (fun v58 =>
  bnd (cellsM 2 v58) (fun v59 =>
  fx (L5_0 call fx v46) [nth v36 0, nth v36 1, nth v36 2, nth v36 3, nth v36 4, nth v36 5, nth v36 6, nth v36 7, nth v36 8, nth v36 9, AV.ip (acells v52), AV.ip (acells v59), AV.bool false, AV.int .i64 0]))))))))))))))) (bnd (lft (binA T .add 3 (nth v36 7) (AV.int .i64 1))) (fun v89 =>
  v10 [nth v36 0, nth v36 1, nth v36 2, nth v36 3, nth v36 4, nth v36 5, nth v36 6, v89]))))
noncomputable def L5_2 (call : CC) (fx : Fix AV) (v10 : List AV → M AV) (v14 : List AV → M AV) (v15 : List AV) : M AV :=
  bnd (lft (binA T .lss 3 (nth v15 9) (nth v15 7))) (fun v16 =>
  condM v16 (bnd (guardM (nth v15 8) true 1 (bnd (lft (indexAddrA T 22 (nth v15 0) (nth v15 9))) (fun v17 =>
  bnd (lft (fieldAddrA T 42 v17 0)) (fun v18 =>
  bnd (lft (loadA T 9 v18)) (fun v19 =>
  bnd (lft (indexAddrA T 22 (nth v15 0) (nth v15 7))) (fun v20 =>
  bnd (lft (fieldAddrA T 42 v20 0)) (fun v21 =>
  bnd (lft (loadA T 9 v21)) (fun v22 =>
  bnd (lft (binA T .neq 9 v19 v22)) (fun v23 =>
  M.pure [v23]))))))))) (fun v24 =>
  bnd (lft (pickA (nth v15 8) (nth v24 0) (AV.bool false))) (fun v25 =>
  bnd (lft (binA T .add 3 (nth v15 9) (AV.int .i64 1))) (fun v26 =>
  v14 [nth v15 0, nth v15 1, nth v15 2, nth v15 3, nth v15 4, nth v15 5, nth v15 6, nth v15 7, v25, v26])))) (bnd (guardM (nth v15 6) true 1 (bnd (lft (indexAddrA T 22 (nth v15 0) (nth v15 7))) (fun v27 =>
  bnd (lft (fieldAddrA T 42 v27 0)) (fun v28 =>
  bnd (lft (loadA T 9 v28)) (fun v29 =>
  bnd (lft (fieldAddrA T 42 (nth v15 2) 0)) (fun v30 =>
  bnd (lft (loadA T 9 v30)) (fun v31 =>
  bnd (lft (binA T .neq 9 v29 v31)) (fun v32 =>
  M.pure [v32])))))))) (fun v33 =>
  bnd (lft (pickA (nth v15 6) (nth v33 0) (AV.bool false))) (fun v34 =>
  fx (L5_1 call fx v10) [nth v15 0, nth v15 1, nth v15 2, nth v15 3, nth v15 4, nth v15 5, v34, nth v15 7, nth v15 8, AV.int .i64 0]))))
noncomputable def L5_3 (call : CC) (fx : Fix AV) (v99 : List AV → M AV) (v100 : List AV) : M AV :=
  bnd (guardM (nth v100 3) true 1 (bnd (lft (lenA T 27 (nth v100 4))) (fun v101 =>
  bnd (lft (binA T .lss 3 (nth v100 6) v101)) (fun v102 =>
  M.pure [v102])))) (fun v103 =>
  bnd (lft (pickA (nth v100 3) (nth v103 0) (AV.bool false))) (fun v104 =>
  condM v104 (bnd (lft (indexAddrA T 27 (nth v100 4) (nth v100 6))) (fun v105 =>
  bnd (lft (loadA T 24 v105)) (fun v106 =>
  bnd (call 19 [nth v100 5, v106]) (fun v107 =>
  bnd (lft (unA UnOp.not v107)) (fun v108 =>
  condM v108 (M.pure (AV.bool false)) (bnd (lft (binA T .add 3 (nth v100 6) (AV.int .i64 1))) (fun v109 =>
  v99 [nth v100 0, nth v100 1, nth v100 2, nth v100 3, nth v100 4, nth v100 5, v109]))))))) (bnd (guardM (nth v100 0) true 1 (bnd (lft (lenA T 27 (nth v100 1))) (fun v110 =>
  bnd (lft (binA T .eql 3 (nth v100 2) v110)) (fun v111 =>
  M.pure [v111])))) (fun v112 =>
  bnd (lft (pickA (nth v100 0) (nth v112 0) (AV.bool false))) (fun v113 =>
  M.pure v113)))))
noncomputable def L5_4 (call : CC) (fx : Fix AV) (v10 : List AV → M AV) (v11 : List AV) : M AV :=
  bnd (lft (lenA T 22 (nth v11 0))) (fun v12 =>
  bnd (lft (binA T .lss 3 (nth v11 7) v12)) (fun v13 =>
  condM v13 (fx (L5_2 call fx v10) [nth v11 0, nth v11 1, nth v11 2, nth v11 3, nth v11 4, nth v11 5, nth v11 6, nth v11 7, AV.bool true, AV.int .i64 0]) (bnd (lft (loadA T 24 (nth v11 1))) (fun v90 =>
  bnd (call 13 [nth v11 0, v90]) (fun v91 =>
  bnd (lft (buildSliceA T 22 0 [])) (fun v92 =>
  bnd (lft (appA T 22 v92 (nth v11 0))) (fun v93 =>
  bnd (lft (loadA T 42 (nth v11 2))) (fun v94 =>
  bnd (lft (buildSliceA T 22 1 [(0, v94)])) (fun v95 =>
  bnd (lft (appA T 22 v93 v95)) (fun v96 =>
  bnd (lft (loadA T 24 (nth v11 1))) (fun v97 =>
  bnd (noPan (call 13 [v96, v97])) (fun v98 =>
  fx (L5_3 call fx) [nth v11 3, nth v11 4, nth v11 5, nth v11 6, v91, v98, AV.int .i64 0]))))))))))))
theorem XK5_0 {call : CC} {v35 : List AV → M AV} {v35s : Nat → List AV → M AV} (hv35 : LimF v35 fun n => v35s n) : LimF (K5_0 call fixW v35) fun n => K5_0 call fixW (v35s n) := by
  intro v44
  unfold K5_0
  exact (lb fun _ => (hv35 _))
theorem XK5_1 {call : CC} {v46 : List AV → M AV} {v46s : Nat → List AV → M AV} (hv46 : LimF v46 fun n => v46s n) : LimF (K5_1 call fixW v46) fun n => K5_1 call fixW (v46s n) := by
  intro v83
  unfold K5_1
  exact (lb fun _ => (lb fun _ => (lb fun _ => (condM_lim (LimM.const _) (hv46 _)))))
theorem XL5_0 {call : CC} {v46 : List AV → M AV} {v46s : Nat → List AV → M AV} (hv46 : LimF v46 fun n => v46s n) : Cont1 (L5_0 call fixW v46) fun n => L5_0 call fixW (v46s n) := by
  intro v60 v60s hself v61
  unfold L5_0
  exact (lb fun _ => (condM_lim (lb fun _ => (lb fun _ => (lb fun _ => (hself _)))) (condM_lim (hv46 _) (lb fun _ => (lb fun _ => (lb fun _ => (lb fun _ => (jn_lim (XK5_1 hv46) fun _ _ hv87 => (condM_lim (lb fun _ => (hv87 _)) (hv87 _))))))))))
theorem YL5_0 {call : CC} {v46 : List AV → M AV} {v46s : Nat → List AV → M AV} (hv46 : LimF v46 fun n => v46s n) : LimF (fixW (L5_0 call fixW v46)) fun n => fixW (L5_0 call fixW (v46s n)) := fixW_limF (XL5_0 hv46) (XL5_0 (LimF.const _)) fun _ => XL5_0 (LimF.const _)
theorem FL5_0 (call : CC) (v46 : List AV → M AV) (vs : List AV) : fixW (L5_0 call fixW v46) vs = L5_0 call fixW v46 (fixW (L5_0 call fixW v46)) vs := fixW_eq (XL5_0 (LimF.const _)) vs
theorem XL5_1 {call : CC} {v10 : List AV → M AV} {v10s : Nat → List AV → M AV} (hv10 : LimF v10 fun n => v10s n) : Cont1 (L5_1 call fixW v10) fun n => L5_1 call fixW (v10s n) := by
  intro v35 v35s hself v36
  unfold L5_1
  exact (lb fun _ => (lb fun _ => (condM_lim (jn_lim (XK5_0 hself) fun _ _ hv46 => (lb fun _ => (lb fun _ => (lb fun _ => (lb fun _ => (lb fun _ => (lb fun _ => (lb fun _ => (lb fun _ => (lb fun _ => (lb fun _ => (lb fun _ => (lb fun _ => (lb fun _ => ((YL5_0 hv46) _))))))))))))))) (lb fun _ => (hv10 _)))))
theorem YL5_1 {call : CC} {v10 : List AV → M AV} {v10s : Nat → List AV → M AV} (hv10 : LimF v10 fun n => v10s n) : LimF (fixW (L5_1 call fixW v10)) fun n => fixW (L5_1 call fixW (v10s n)) := fixW_limF (XL5_1 hv10) (XL5_1 (LimF.const _)) fun _ => XL5_1 (LimF.const _)
theorem FL5_1 (call : CC) (v10 : List AV → M AV) (vs : List AV) : fixW (L5_1 call fixW v10) vs = L5_1 call fixW v10 (fixW (L5_1 call fixW v10)) vs := fixW_eq (XL5_1 (LimF.const _)) vs
theorem XL5_2 {call : CC} {v10 : List AV → M AV} {v10s : Nat → List AV → M AV} (hv10 : LimF v10 fun n => v10s n) : Cont1 (L5_2 call fixW v10) fun n => L5_2 call fixW (v10s n) := by
  intro v14 v14s hself v15
  unfold L5_2
  exact (lb fun _ => (condM_lim (lb fun _ => (lb fun _ => (lb fun _ => (hself _)))) (lb fun _ => (lb fun _ => ((YL5_1 hv10) _)))))
theorem YL5_2 {call : CC} {v10 : List AV → M AV} {v10s : Nat → List AV → M AV} (hv10 : LimF v10 fun n => v10s n) : LimF (fixW (L5_2 call fixW v10)) fun n => fixW (L5_2 call fixW (v10s n)) := fixW_limF (XL5_2 hv10) (XL5_2 (LimF.const _)) fun _ => XL5_2 (LimF.const _)
theorem FL5_2 (call : CC) (v10 : List AV → M AV) (vs : List AV) : fixW (L5_2 call fixW v10) vs = L5_2 call fixW v10 (fixW (L5_2 call fixW v10)) vs := fixW_eq (XL5_2 (LimF.const _)) vs
theorem XL5_3 {call : CC} : Cont1 (L5_3 call fixW ) fun _n => L5_3 call fixW  := by
  intro v99 v99s hself v100
  unfold L5_3
  exact (lb fun _ => (lb fun _ => (condM_lim (lb fun _ => (lb fun _ => (lb fun _ => (lb fun _ => (condM_lim (LimM.const _) (lb fun _ => (hself _))))))) (LimM.const _))))
theorem FL5_3 (call : CC) (vs : List AV) : fixW (L5_3 call fixW ) vs = L5_3 call fixW  (fixW (L5_3 call fixW )) vs := fixW_eq (XL5_3 ) vs
theorem XL5_4 {call : CC} : Cont1 (L5_4 call fixW ) fun _n => L5_4 call fixW  := by
  intro v10 v10s hself v11
  unfold L5_4
  exact (lb fun _ => (lb fun _ => (condM_lim ((YL5_2 hself) _) (LimM.const _))))
theorem FL5_4 (call : CC) (vs : List AV) : fixW (L5_4 call fixW ) vs = L5_4 call fixW  (fixW (L5_4 call fixW )) vs := fixW_eq (XL5_4 ) vs
noncomputable def S5 (call : CC) (fx : Fix AV) (a0 a1 a2 : AV) : M AV :=
  bnd (call 6 []) (fun v0 =>
  bnd (lft (buildSliceA T 22 0 [])) (fun v1 =>
  bnd (lft (appA T 22 v1 a0)) (fun v2 =>
  bnd (lft (loadA T 42 (AV.ip (acells a2)))) (fun v3 =>
  bnd (lft (buildSliceA T 22 1 [(0, v3)])) (fun v4 =>
  bnd (lft (appA T 22 v2 v4)) (fun v5 =>
  bnd (noPan (call 7 [v5])) (fun v6 =>
  bnd (lft (unA UnOp.not v6)) (fun v7 =>
  condM v7 (M.pure v0) (bnd (lft (loadA T 24 (AV.ip (acells a1)))) (fun v8 =>
  bnd (call 17 [a0, v8]) (fun v9 =>
  fx (L5_4 call fx) [a0, AV.ip (acells a1), AV.ip (acells a2), v0, v9, AV.int .i64 0, AV.bool true, AV.int .i64 0])))))))))))
theorem E5 (call : CC) (fx : Fix AV) (a0 a1 a2 : AV) : evBody (pg.cx call Try.f5.ntmps ann5) fx Try.f5 (own 5) [a0, a1, a2] = S5 call fx a0 a1 a2 := by kernel_rfl
theorem C5 (a0 a1 a2 : AV) : callW pg 5 [a0, a1, a2] = isoP (S5 (callW pg) fixW (cl noHs a0) (cl noHs a1) (cl noHs a2)) := (callW_iso hOther rfl rfl rfl _).trans (congrArg isoP (E5 _ _ (cl noHs a0) (cl noHs a1) (cl noHs a2)))
noncomputable def S6 (call : CC) (fx : Fix AV) : M AV :=
  bnd (lft (buildA T false 24 [(0, AV.str [109]), (1, AV.str [102])])) (fun v0 =>
  bnd (cellsM 2 v0) (fun v1 =>
  bnd (lft (buildA T false 24 [(0, AV.str [109]), (1, AV.str [103])])) (fun v2 =>
  bnd (cellsM 2 v2) (fun v3 =>
  bnd (lft (buildA T false 24 [(0, AV.str [110]), (1, AV.str [104])])) (fun v4 =>
  bnd (cellsM 2 v4) (fun v5 =>
  bnd (call 20 [AV.bool true]) (fun v6 =>
  bnd (lft (loadA T 24 (AV.ip (acells v5)))) (fun v7 =>
  bnd (lft (loadA T 24 (AV.ip (acells v3)))) (fun v8 =>
  bnd (call 8 [v6, v7, v8]) (fun v9 =>
  bnd (lft (extractA v9 0)) (fun v10 =>
  bnd (lft (extractA v9 1)) (fun v11 =>
  bnd (lft (loadA T 24 (AV.ip (acells v1)))) (fun v12 =>
  bnd (noPan (call 13 [v6, v12])) (fun v13 =>
  bnd (lft (loadA T 24 (AV.ip (acells v1)))) (fun v14 =>
  bnd (lft (loadA T 24 (AV.ip (acells v3)))) (fun v15 =>
  bnd (lft (buildSliceA T 27 2 [(0, v14), (1, v15)])) (fun v16 =>
  bnd (noPan (call 10 [v13, v16])) (fun v17 =>
  bnd (guardM v17 true 1 (bnd (lft (loadA T 24 (AV.ip (acells v1)))) (fun v18 =>
  bnd (noPan (call 15 [v6, v18])) (fun v19 =>
  bnd (lft (binA T .eql 3 v19 (AV.int .i64 2))) (fun v20 =>
  M.pure [v20]))))) (fun v21 =>
  bnd (lft (pickA v17 (nth v21 0) (AV.bool false))) (fun v22 =>
  bnd (guardM v22 true 1 (bnd (noPan (call 20 [AV.bool false])) (fun v23 =>
  bnd (lft (loadA T 24 (AV.ip (acells v5)))) (fun v24 =>
  bnd (noPan (call 11 [v23, v24])) (fun v25 =>
  bnd (lft (lenA T 27 v25)) (fun v26 =>
  bnd (lft (binA T .eql 3 v26 (AV.int .i64 0))) (fun v27 =>
  M.pure [v27]))))))) (fun v28 =>
  bnd (lft (pickA v22 (nth v28 0) (AV.bool false))) (fun v29 =>
  bnd (guardM v29 true 1 (M.pure [v11])) (fun v30 =>
  bnd (lft (pickA v29 (nth v30 0) (AV.bool false))) (fun v31 =>
  bnd (guardM v31 true 1 (bnd (lft (loadA T 24 (AV.ip (acells v5)))) (fun v32 =>
  bnd (lft (loadA T 24 (AV.ip (acells v1)))) (fun v33 =>
  bnd (lft (loadA T 24 (AV.ip (acells v3)))) (fun v34 =>
  bnd (lft (buildSliceA T 27 3 [(0, v32), (1, v33), (2, v34)])) (fun v35 =>
  bnd (noPan (call 10 [v10, v35])) (fun v36 =>
  M.pure [v36]))))))) (fun v37 =>
  bnd (lft (pickA v31 (nth v37 0) (AV.bool false))) (fun v38 =>
  bnd (guardM v38 true 1 (bnd (lft (loadA T 24 (AV.ip (acells v3)))) (fun v39 =>
  bnd (noPan (call 17 [v6, v39])) (fun v40 =>
  bnd (lft (loadA T 24 (AV.ip (acells v1)))) (fun v41 =>
  bnd (lft (loadA T 24 (AV.ip (acells v5)))) (fun v42 =>
  bnd (lft (buildSliceA T 27 2 [(0, v41), (1, v42)])) (fun v43 =>
  bnd (noPan (call 10 [v40, v43])) (fun v44 =>
  M.pure [v44])))))))) (fun v45 =>
  bnd (lft (pickA v38 (nth v45 0) (AV.bool false))) (fun v46 =>
  bnd (guardM v46 true 1 (bnd (lft (loadA T 24 (AV.ip (acells v5)))) (fun v47 =>
  bnd (noPan (call 11 [v6, v47])) (fun v48 =>
  bnd (lft (loadA T 24 (AV.ip (acells v1)))) (fun v49 =>
  bnd (lft (buildSliceA T 27 1 [(0, v49)])) (fun v50 =>
  bnd (noPan (call 10 [v48, v50])) (fun v51 =>
  M.pure [v51]))))))) (fun v52 =>
  bnd (lft (pickA v46 (nth v52 0) (AV.bool false))) (fun v53 =>
  M.pure v53))))))))))))))))))))))))))))))
theorem E6 (call : CC) (fx : Fix AV) : evBody (pg.cx call Try.f6.ntmps ann6) fx Try.f6 (own 6) [] = S6 call fx  := by kernel_rfl
theorem C6 : callW pg 6 [] = isoP (S6 (callW pg) fixW ) := (callW_iso hOther rfl rfl rfl _).trans (congrArg isoP (E6 _ _ ))
noncomputable def L7_0 (call : CC) (fx : Fix AV) (v0 : List AV → M AV) (v10 : List AV → M AV) (v11 : List AV) : M AV :=
  bnd (lft (fieldAddrA T 42 (nth v11 2) 4)) (fun v12 =>
  bnd (lft (loadA T 38 v12)) (fun v13 =>
  bnd (lft (lenA T 38 v13)) (fun v14 =>
  bnd (lft (binA T .lss 3 (nth v11 3) v14)) (fun v15 =>
  bnd (guardM v15 true 1 (bnd (lft (binA T .lss 3 (nth v11 3) (AV.int .i64 7))) (fun v16 =>
  M.pure [v16]))) (fun v17 =>
  bnd (lft (pickA v15 (nth v17 0) (AV.bool false))) (fun v18 =>
  condM v18 (bnd (lft (fieldAddrA T 42 (nth v11 2) 4)) (fun v19 =>
  bnd (lft (loadA T 38 v19)) (fun v20 =>
  bnd (lft (indexAddrA T 38 v20 (nth v11 3))) (fun v21 =>
  bnd (lft (loadA T 48 v21)) (fun v22 =>
  bnd (cellsM 12 v22) (fun v23 =>
  bnd (lft (fieldAddrA T 48 (AV.ip (acells v23)) 5)) (fun v24 =>
  bnd (lft (loadA T 46 v24)) (fun v25 =>
  bnd (lft (buildSliceA T 37 1 [(0, v25)])) (fun v26 =>
  bnd (call 21 [v26]) (fun v27 =>
  bnd (lft (unA UnOp.not v27)) (fun v28 =>
  bnd (guardM v28 false 1 (bnd (lft (fieldAddrA T 48 (AV.ip (acells v23)) 2)) (fun v29 =>
  bnd (lft (loadA T 36 v29)) (fun v30 =>
  bnd (call 22 [v30]) (fun v31 =>
  bnd (lft (unA UnOp.not v31)) (fun v32 =>
  M.pure [v32])))))) (fun v33 =>
  bnd (lft (pickA v28 (AV.bool true) (nth v33 0))) (fun v34 =>
  bnd (guardM v34 false 1 (bnd (lft (fieldAddrA T 48 (AV.ip (acells v23)) 3)) (fun v35 =>
  bnd (lft (loadA T 44 v35)) (fun v36 =>
  bnd (call 23 [v36, AV.int .i64 30, AV.int .i64 6]) (fun v37 =>
  bnd (lft (binA T .gtr 3 v37 (AV.int .i64 30))) (fun v38 =>
  M.pure [v38])))))) (fun v39 =>
  bnd (lft (pickA v34 (AV.bool true) (nth v39 0))) (fun v40 =>
  condM v40 (M.pure (AV.bool false)) (bnd (lft (binA T .add 3 (nth v11 3) (AV.int .i64 1))) (fun v41 =>
  v10 [nth v11 0, nth v11 1, nth v11 2, v41]))))))))))))))))) (bnd (lft (fieldAddrA T 42 (nth v11 2) 4)) (fun v42 =>
  bnd (lft (loadA T 38 v42)) (fun v43 =>
  bnd (lft (lenA T 38 v43)) (fun v44 =>
  bnd (lft (binA T .gtr 3 v44 (AV.int .i64 6))) (fun v45 =>
  bnd (guardM v45 false 1 (bnd (lft (fieldAddrA T 42 (nth v11 2) 1)) (fun v46 =>
  bnd (lft (loadA T 35 v46)) (fun v47 =>
  bnd (lft (lenA T 35 v47)) (fun v48 =>
  bnd (lft (binA T .gtr 3 v48 (AV.int .i64 8))) (fun v49 =>
  M.pure [v49])))))) (fun v50 =>
  bnd (lft (pickA v45 (AV.bool true) (nth v50 0))) (fun v51 =>
  bnd (guardM v51 false 1 (bnd (lft (fieldAddrA T 42 (nth v11 2) 2)) (fun v52 =>
  bnd (lft (loadA T 36 v52)) (fun v53 =>
  bnd (call 22 [v53]) (fun v54 =>
  bnd (lft (unA UnOp.not v54)) (fun v55 =>
  M.pure [v55])))))) (fun v56 =>
  bnd (lft (pickA v51 (AV.bool true) (nth v56 0))) (fun v57 =>
  bnd (guardM v57 false 1 (bnd (lft (fieldAddrA T 42 (nth v11 2) 3)) (fun v58 =>
  bnd (lft (loadA T 37 v58)) (fun v59 =>
  bnd (call 21 [v59]) (fun v60 =>
  bnd (lft (unA UnOp.not v60)) (fun v61 =>
  M.pure [v61])))))) (fun v62 =>
  bnd (lft (pickA v57 (AV.bool true) (nth v62 0))) (fun v63 =>
  bnd (guardM v63 false 1 (bnd (lft (fieldAddrA T 42 (nth v11 2) 6)) (fun v64 =>
  bnd (lft (fieldAddrA T 40 v64 0)) (fun v65 =>
  bnd (lft (loadA T 36 v65)) (fun v66 =>
  bnd (call 22 [v66]) (fun v67 =>
  bnd (lft (unA UnOp.not v67)) (fun v68 =>
  M.pure [v68]))))))) (fun v69 =>
  bnd (lft (pickA v63 (AV.bool true) (nth v69 0))) (fun v70 =>
  bnd (guardM v70 false 1 (bnd (lft (fieldAddrA T 42 (nth v11 2) 6)) (fun v71 =>
  bnd (lft (fieldAddrA T 40 v71 1)) (fun v72 =>
  bnd (lft (loadA T 37 v72)) (fun v73 =>
  bnd (call 21 [v73]) (fun v74 =>
  bnd (lft (unA UnOp.not v74)) (fun v75 =>
  M.pure [v75]))))))) (fun v76 =>
  bnd (lft (pickA v70 (AV.bool true) (nth v76 0))) (fun v77 =>
  bnd (guardM v77 false 1 (bnd (lft (fieldAddrA T 42 (nth v11 2) 6)) (fun v78 =>
  bnd (lft (fieldAddrA T 40 v78 2)) (fun v79 =>
  bnd (lft (loadA T 37 v79)) (fun v80 =>
  bnd (call 21 [v80]) (fun v81 =>
  bnd (lft (unA UnOp.not v81)) (fun v82 =>
  M.pure [v82]))))))) (fun v83 =>
  bnd (lft (pickA v77 (AV.bool true) (nth v83 0))) (fun v84 =>
  condM v84 (M.pure (AV.bool false)) (bnd (lft (binA T .add 3 (nth v11 1) (AV.int .i64 1))) (fun v85 =>
  v0 [nth v11 0, v85])))))))))))))))))))))))))
noncomputable def L7_1 (call : CC) (fx : Fix AV) (v0 : List AV → M AV) (v1 : List AV) : M AV :=
  bnd (lft (lenA T 22 (nth v1 0))) (fun v2 =>
  bnd (lft (binA T .lss 3 (nth v1 1) v2)) (fun v3 =>
  bnd (guardM v3 true 1 (bnd (lft (binA T .lss 3 (nth v1 1) (AV.int .i64 5))) (fun v4 =>
  M.pure [v4]))) (fun v5 =>
  bnd (lft (pickA v3 (nth v5 0) (AV.bool false))) (fun v6 =>
  condM v6 (bnd (lft (indexAddrA T 22 (nth v1 0) (nth v1 1))) (fun v7 =>
  bnd (lft (loadA T 42 v7)) (fun v8 =>
  bnd (cellsM 9 v8) (fun v9 =>
  fx (L7_0 call fx v0) [nth v1 0, nth v1 1, AV.ip (acells v9), AV.int .i64 0])))) (bnd (lft (lenA T 22 (nth v1 0))) (fun v86 =>
  bnd (lft (binA T .leq 3 v86 (AV.int .i64 4))) (fun v87 =>
  M.pure v87)))))))
theorem XL7_0 {call : CC} {v0 : List AV → M AV} {v0s : Nat → List AV → M AV} (hv0 : LimF v0 fun n => v0s n) : Cont1 (L7_0 call fixW v0) fun n => L7_0 call fixW (v0s n) := by
  intro v10 v10s hself v11
  unfold L7_0
  exact (lb fun _ => (lb fun _ => (lb fun _ => (lb fun _ => (lb fun _ => (lb fun _ => (condM_lim (lb fun _ => (lb fun _ => (lb fun _ => (lb fun _ => (lb fun _ => (lb fun _ => (lb fun _ => (lb fun _ => (lb fun _ => (lb fun _ => (lb fun _ => (lb fun _ => (lb fun _ => (lb fun _ => (condM_lim (LimM.const _) (lb fun _ => (hself _))))))))))))))))) (lb fun _ => (lb fun _ => (lb fun _ => (lb fun _ => (lb fun _ => (lb fun _ => (lb fun _ => (lb fun _ => (lb fun _ => (lb fun _ => (lb fun _ => (lb fun _ => (lb fun _ => (lb fun _ => (lb fun _ => (lb fun _ => (condM_lim (LimM.const _) (lb fun _ => (hv0 _))))))))))))))))))))))))))
theorem YL7_0 {call : CC} {v0 : List AV → M AV} {v0s : Nat → List AV → M AV} (hv0 : LimF v0 fun n => v0s n) : LimF (fixW (L7_0 call fixW v0)) fun n => fixW (L7_0 call fixW (v0s n)) := fixW_limF (XL7_0 hv0) (XL7_0 (LimF.const _)) fun _ => XL7_0 (LimF.const _)
theorem FL7_0 (call : CC) (v0 : List AV → M AV) (vs : List AV) : fixW (L7_0 call fixW v0) vs = L7_0 call fixW v0 (fixW (L7_0 call fixW v0)) vs := fixW_eq (XL7_0 (LimF.const _)) vs
theorem XL7_1 {call : CC} : Cont1 (L7_1 call fixW ) fun _n => L7_1 call fixW  := by
  intro v0 v0s hself v1
  unfold L7_1
  exact (lb fun _ => (lb fun _ => (lb fun _ => (lb fun _ => (condM_lim (lb fun _ => (lb fun _ => (lb fun _ => ((YL7_0 hself) _)))) (LimM.const _))))))
theorem FL7_1 (call : CC) (vs : List AV) : fixW (L7_1 call fixW ) vs = L7_1 call fixW  (fixW (L7_1 call fixW )) vs := fixW_eq (XL7_1 ) vs
noncomputable def S7 (call : CC) (fx : Fix AV) (a0 : AV) : M AV :=
  fx (L7_1 call fx) [a0, AV.int .i64 0]
theorem E7 (call : CC) (fx : Fix AV) (a0 : AV) : evBody (pg.cx call Try.f7.ntmps ann7) fx Try.f7 (own 7) [a0] = S7 call fx a0 := by kernel_rfl
theorem C7 (a0 : AV) : callW pg 7 [a0] = isoP (S7 (callW pg) fixW (cl noHs a0)) := (callW_iso hOther rfl rfl rfl _).trans (congrArg isoP (E7 _ _ (cl noHs a0)))
noncomputable def L8_0 (call : CC) (fx : Fix AV) (v10 : List AV → M AV) (v11 : List AV) : M AV :=
  bnd (lft (loadA T 24 (nth v11 0))) (fun v12 =>
  bnd (lft (binA T .neq 24 (AV.agg [nth v11 3, nth v11 4]) v12)) (fun v13 =>
  condM v13 (bnd (lookH T 54 (nth v11 1) (AV.agg [nth v11 3, nth v11 4]) false) (fun v14 =>
  bnd (cellsNil 2 [] v14) (fun v15 =>
  bnd (lft (buildSliceA T 27 1 [(0, AV.agg [nth (acells v15) 0, nth (acells v15) 1])])) (fun v16 =>
  bnd (appH T 27 false (nth v11 2) v16) (fun v17 =>
  v10 [nth v11 0, nth v11 1, v17, nth (acells v15) 0, nth (acells v15) 1]))))) (bnd (call 26 [nth v11 2]) (fun v18 =>
  M.pure (AV.tup [nth v11 2, AV.bool true])))))
theorem XL8_0 {call : CC} : Cont1 (L8_0 call fixW ) fun _n => L8_0 call fixW  := by
  intro v10 v10s hself v11
  unfold L8_0
  exact (lb fun _ => (lb fun _ => (condM_lim (lb fun _ => (lb fun _ => (lb fun _ => (lb fun _ => (hself _))))) (LimM.const _))))
theorem FL8_0 (call : CC) (vs : List AV) : fixW (L8_0 call fixW ) vs = L8_0 call fixW  (fixW (L8_0 call fixW )) vs := fixW_eq (XL8_0 ) vs
noncomputable def S8 (call : CC) (fx : Fix AV) (a0 a1 a2 : AV) : M AV :=
  bnd (cellsM 2 a2) (fun v0 =>
  bnd (lft (loadA T 24 (AV.ip (acells a1)))) (fun v1 =>
  bnd (call 25 [a0]) (fun v2 =>
  bnd (call 24 [v2, v1]) (fun v3 =>
  bnd (lookH T 54 v3 (AV.agg [nth (acells v0) 0, nth (acells v0) 1]) true) (fun v4 =>
  bnd (lft (extractA v4 0)) (fun v5 =>
  bnd (lft (extractA v4 1)) (fun v6 =>
  bnd (cellsM 2 v5) (fun v7 =>
  bnd (lft (unA UnOp.not v6)) (fun v8 =>
  condM v8 (M.pure (AV.tup [AV.sl [], AV.bool false])) (bnd (buildH T 27 1 [(0, AV.agg [nth (acells v0) 0, nth (acells v0) 1])]) (fun v9 =>
  fx (L8_0 call fx) [AV.ip (acells a1), v3, v9, nth (acells v0) 0, nth (acells v0) 1])))))))))))
theorem E8 (call : CC) (fx : Fix AV) (a0 a1 a2 : AV) : evBody (pg.cx call Try.f8.ntmps ann8) fx Try.f8 (own 8) [a0, a1, a2] = S8 call fx a0 a1 a2 := by kernel_rfl
theorem C8 (a0 a1 a2 : AV) : callW pg 8 [a0, a1, a2] = isoP (S8 (callW pg) fixW (cl noHs a0) (cl noHs a1) (cl noHs a2)) := (callW_iso hOther rfl rfl rfl _).trans (congrArg isoP (E8 _ _ (cl noHs a0) (cl noHs a1) (cl noHs a2)))
noncomputable def K9_0 (call : CC) (fx : Fix AV) (v35 : List AV → M AV) (v39 : List AV) : M AV :=
  bnd (lft (binA T .add 3 (nth v39 7) (AV.int .i64 1))) (fun v40 =>
  v35 [nth v39 0, nth v39 1, nth v39 2, nth v39 3, nth v39 4, nth v39 5, nth v39 6, v40])
noncomputable def L9_0 (call : CC) (fx : Fix AV) (v15 : List AV → M AV) (v35 : List AV → M AV) (v36 : List AV) : M AV :=
  bnd (lft (lenA T 27 (nth v36 6))) (fun v37 =>
  bnd (lft (binA T .lss 3 (nth v36 7) v37)) (fun v38 =>
  condM v38 (jn (K9_0 call fx v35) (fun v41 =>
  bnd (lft (indexAddrA T 27 (nth v36 6) (nth v36 7))) (fun v42 =>
  bnd (lft (loadA T 24 v42)) (fun v43 =>
  bnd (call 19 [nth v36 2, v43]) (fun v44 =>
  bnd (lft (unA UnOp.not v44)) (fun v45 =>
  condM v45 (bnd (lft (indexAddrA T 27 (nth v36 6) (nth v36 7))) (fun v46 =>
  bnd (lft (loadA T 24 v46)) (fun v47 =>
  bnd (lft (buildSliceA T 27 1 [(0, v47)])) (fun v48 =>
  bnd (lft (appA T 27 (nth v36 2) v48)) (fun v49 =>
  bnd (lft (buildSliceA T 27 0 [])) (fun v50 =>
  bnd (lft (indexAddrA T 62 (nth v36 3) (nth v36 5))) (fun v51 =>
  bnd (lft (loadA T 27 v51)) (fun v52 =>
  bnd (lft (appA T 27 v50 v52)) (fun v53 =>
  bnd (lft (indexAddrA T 27 (nth v36 6) (nth v36 7))) (fun v54 =>
  bnd (lft (loadA T 24 v54)) (fun v55 =>
  bnd (lft (buildSliceA T 27 1 [(0, v55)])) (fun v56 =>
  bnd (lft (appA T 27 v53 v56)) (fun v57 =>
  bnd (lft (buildSliceA T 62 1 [(0, v57)])) (fun v58 =>
  bnd (lft (appA T 62 (nth v36 4) v58)) (fun v59 =>
  v41 [nth v36 0, nth v36 1, v49, nth v36 3, v59, nth v36 5, nth v36 6, nth v36 7]))))))))))))))) (v41 [nth v36 0, nth v36 1, nth v36 2, nth v36 3, nth v36 4, nth v36 5, nth v36 6, nth v36 7]))))))) (bnd (lft (binA T .add 3 (nth v36 5) (AV.int .i64 1))) (fun v60 =>
  v15 [nth v36 0, nth v36 1, nth v36 2, nth v36 3, nth v36 4, v60]))))
noncomputable def L9_1 (call : CC) (fx : Fix AV) (v11 : List AV → M AV) (v15 : List AV → M AV) (v16 : List AV) : M AV :=
  bnd (lft (lenA T 62 (nth v16 3))) (fun v17 =>
  bnd (lft (binA T .lss 3 (nth v16 5) v17)) (fun v18 =>
  condM v18 (bnd (lft (indexAddrA T 62 (nth v16 3) (nth v16 5))) (fun v19 =>
  bnd (lft (loadA T 27 v19)) (fun v20 =>
  bnd (lft (indexAddrA T 62 (nth v16 3) (nth v16 5))) (fun v21 =>
  bnd (lft (loadA T 27 v21)) (fun v22 =>
  bnd (lft (lenA T 27 v22)) (fun v23 =>
  bnd (lft (binA T .sub 3 v23 (AV.int .i64 1))) (fun v24 =>
  bnd (lft (indexAddrA T 27 v20 v24)) (fun v25 =>
  bnd (lft (loadA T 24 v25)) (fun v26 =>
  bnd (cellsM 2 v26) (fun v27 =>
  bnd (lft (loadA T 24 (AV.ip (acells v27)))) (fun v28 =>
  bnd (lft (loadA T 24 (nth v16 1))) (fun v29 =>
  bnd (lft (binA T .eql 24 v28 v29)) (fun v30 =>
  condM v30 (bnd (lft (indexAddrA T 62 (nth v16 3) (nth v16 5))) (fun v31 =>
  bnd (lft (loadA T 27 v31)) (fun v32 =>
  M.pure (AV.tup [v32, AV.bool true])))) (bnd (lft (loadA T 24 (AV.ip (acells v27)))) (fun v33 =>
  bnd (call 12 [nth v16 0, v33]) (fun v34 =>
  fx (L9_0 call fx v15) [nth v16 0, nth v16 1, nth v16 2, nth v16 3, nth v16 4, nth v16 5, v34, AV.int .i64 0])))))))))))))))) (v11 [nth v16 0, nth v16 1, nth v16 2, nth v16 4])))
noncomputable def L9_2 (call : CC) (fx : Fix AV) (v11 : List AV → M AV) (v12 : List AV) : M AV :=
  bnd (lft (lenA T 62 (nth v12 3))) (fun v13 =>
  bnd (lft (binA T .gtr 3 v13 (AV.int .i64 0))) (fun v14 =>
  condM v14 (fx (L9_1 call fx v11) [nth v12 0, nth v12 1, nth v12 2, nth v12 3, AV.sl [], AV.int .i64 0]) (M.pure (AV.tup [AV.sl [], AV.bool false]))))
theorem XK9_0 {call : CC} {v35 : List AV → M AV} {v35s : Nat → List AV → M AV} (hv35 : LimF v35 fun n => v35s n) : LimF (K9_0 call fixW v35) fun n => K9_0 call fixW (v35s n) := by
  intro v39
  unfold K9_0
  exact (lb fun _ => (hv35 _))
theorem XL9_0 {call : CC} {v15 : List AV → M AV} {v15s : Nat → List AV → M AV} (hv15 : LimF v15 fun n => v15s n) : Cont1 (L9_0 call fixW v15) fun n => L9_0 call fixW (v15s n) := by
  intro v35 v35s hself v36
  unfold L9_0
  exact (lb fun _ => (lb fun _ => (condM_lim (jn_lim (XK9_0 hself) fun _ _ hv41 => (lb fun _ => (lb fun _ => (lb fun _ => (lb fun _ => (condM_lim (lb fun _ => (lb fun _ => (lb fun _ => (lb fun _ => (lb fun _ => (lb fun _ => (lb fun _ => (lb fun _ => (lb fun _ => (lb fun _ => (lb fun _ => (lb fun _ => (lb fun _ => (lb fun _ => (hv41 _))))))))))))))) (hv41 _))))))) (lb fun _ => (hv15 _)))))
theorem YL9_0 {call : CC} {v15 : List AV → M AV} {v15s : Nat → List AV → M AV} (hv15 : LimF v15 fun n => v15s n) : LimF (fixW (L9_0 call fixW v15)) fun n => fixW (L9_0 call fixW (v15s n)) := fixW_limF (XL9_0 hv15) (XL9_0 (LimF.const _)) fun _ => XL9_0 (LimF.const _)
theorem FL9_0 (call : CC) (v15 : List AV → M AV) (vs : List AV) : fixW (L9_0 call fixW v15) vs = L9_0 call fixW v15 (fixW (L9_0 call fixW v15)) vs := fixW_eq (XL9_0 (LimF.const _)) vs
theorem XL9_1 {call : CC} {v11 : List AV → M AV} {v11s : Nat → List AV → M AV} (hv11 : LimF v11 fun n => v11s n) : Cont1 (L9_1 call fixW v11) fun n => L9_1 call fixW (v11s n) := by
  intro v15 v15s hself v16
  unfold L9_1
  exact (lb fun _ => (lb fun _ => (condM_lim (lb fun _ => (lb fun _ => (lb fun _ => (lb fun _ => (lb fun _ => (lb fun _ => (lb fun _ => (lb fun _ => (lb fun _ => (lb fun _ => (lb fun _ => (lb fun _ => (condM_lim (LimM.const _) (lb fun _ => (lb fun _ => ((YL9_0 hself) _)))))))))))))))) (hv11 _))))
theorem YL9_1 {call : CC} {v11 : List AV → M AV} {v11s : Nat → List AV → M AV} (hv11 : LimF v11 fun n => v11s n) : LimF (fixW (L9_1 call fixW v11)) fun n => fixW (L9_1 call fixW (v11s n)) := fixW_limF (XL9_1 hv11) (XL9_1 (LimF.const _)) fun _ => XL9_1 (LimF.const _)
theorem FL9_1 (call : CC) (v11 : List AV → M AV) (vs : List AV) : fixW (L9_1 call fixW v11) vs = L9_1 call fixW v11 (fixW (L9_1 call fixW v11)) vs := fixW_eq (XL9_1 (LimF.const _)) vs
theorem XL9_2 {call : CC} : Cont1 (L9_2 call fixW ) fun _n => L9_2 call fixW  := by
  intro v11 v11s hself v12
  unfold L9_2
  exact (lb fun _ => (lb fun _ => (condM_lim ((YL9_1 hself) _) (LimM.const _))))
theorem FL9_2 (call : CC) (vs : List AV) : fixW (L9_2 call fixW ) vs = L9_2 call fixW  (fixW (L9_2 call fixW )) vs := fixW_eq (XL9_2 ) vs
noncomputable def S9 (call : CC) (fx : Fix AV) (a0 a1 a2 : AV) : M AV :=
  bnd (lft (loadA T 24 (AV.ip (acells a1)))) (fun v0 =>
  bnd (call 27 [a0, v0]) (fun v1 =>
  bnd (lft (extractA v1 0)) (fun v2 =>
  bnd (lft (extractA v1 1)) (fun v3 =>
  bnd (cellsM 12 v2) (fun v4 =>
  bnd (lft (unA UnOp.not v3)) (fun v5 =>
  condM v5 (M.pure (AV.tup [AV.sl [], AV.bool false])) (bnd (lft (loadA T 24 (AV.ip (acells a1)))) (fun v6 =>
  bnd (lft (buildSliceA T 27 1 [(0, v6)])) (fun v7 =>
  bnd (lft (loadA T 24 (AV.ip (acells a1)))) (fun v8 =>
  bnd (lft (buildSliceA T 27 1 [(0, v8)])) (fun v9 =>
  bnd (lft (buildSliceA T 62 1 [(0, v9)])) (fun v10 =>
  fx (L9_2 call fx) [a0, AV.ip (acells a2), v7, v10]))))))))))))
theorem E9 (call : CC) (fx : Fix AV) (a0 a1 a2 : AV) : evBody (pg.cx call Try.f9.ntmps ann9) fx Try.f9 (own 9) [a0, a1, a2] = S9 call fx a0 a1 a2 := by kernel_rfl
theorem C9 (a0 a1 a2 : AV) : callW pg 9 [a0, a1, a2] = isoP (S9 (callW pg) fixW (cl noHs a0) (cl noHs a1) (cl noHs a2)) := (callW_iso hOther rfl rfl rfl _).trans (congrArg isoP (E9 _ _ (cl noHs a0) (cl noHs a1) (cl noHs a2)))
noncomputable def L10_0 (call : CC) (fx : Fix AV) (v3 : List AV → M AV) (v4 : List AV) : M AV :=
  bnd (lft (lenA T 27 (nth v4 0))) (fun v5 =>
  bnd (lft (binA T .lss 3 (nth v4 2) v5)) (fun v6 =>
  condM v6 (bnd (lft (indexAddrA T 27 (nth v4 0) (nth v4 2))) (fun v7 =>
  bnd (lft (loadA T 24 v7)) (fun v8 =>
  bnd (lft (indexAddrA T 27 (nth v4 1) (nth v4 2))) (fun v9 =>
  bnd (lft (loadA T 24 v9)) (fun v10 =>
  bnd (lft (binA T .neq 24 v8 v10)) (fun v11 =>
  condM v11 (M.pure (AV.bool false)) (bnd (lft (binA T .add 3 (nth v4 2) (AV.int .i64 1))) (fun v12 =>
  v3 [nth v4 0, nth v4 1, v12])))))))) (M.pure (AV.bool true))))
theorem XL10_0 {call : CC} : Cont1 (L10_0 call fixW ) fun _n => L10_0 call fixW  := by
  intro v3 v3s hself v4
  unfold L10_0
  exact (lb fun _ => (lb fun _ => (condM_lim (lb fun _ => (lb fun _ => (lb fun _ => (lb fun _ => (lb fun _ => (condM_lim (LimM.const _) (lb fun _ => (hself _)))))))) (LimM.const _))))
theorem FL10_0 (call : CC) (vs : List AV) : fixW (L10_0 call fixW ) vs = L10_0 call fixW  (fixW (L10_0 call fixW )) vs := fixW_eq (XL10_0 ) vs
noncomputable def S10 (call : CC) (fx : Fix AV) (a0 a1 : AV) : M AV :=
  bnd (lft (lenA T 27 a0)) (fun v0 =>
  bnd (lft (lenA T 27 a1)) (fun v1 =>
  bnd (lft (binA T .neq 3 v0 v1)) (fun v2 =>
  condM v2 (M.pure (AV.bool false)) (fx (L10_0 call fx) [a0, a1, AV.int .i64 0]))))
theorem E10 (call : CC) (fx : Fix AV) (a0 a1 : AV) : evBody (pg.cx call Try.f10.ntmps ann10) fx Try.f10 (own 10) [a0, a1] = S10 call fx a0 a1 := by kernel_rfl
theorem C10 (a0 a1 : AV) : callW pg 10 [a0, a1] = isoP (S10 (callW pg) fixW (cl noHs a0) (cl noHs a1)) := (callW_iso hOther rfl rfl rfl _).trans (congrArg isoP (E10 _ _ (cl noHs a0) (cl noHs a1)))
noncomputable def S11 (call : CC) (fx : Fix AV) (a0 a1 : AV) : M AV :=
  bnd (call 25 [a0]) (fun v0 =>
  bnd (lft (loadA T 24 (AV.ip (acells a1)))) (fun v1 =>
  bnd (lookH T 56 v0 v1 true) (fun v2 =>
  bnd (lft (extractA v2 0)) (fun v3 =>
  bnd (lft (extractA v2 1)) (fun v4 =>
  bnd (cellsM 12 v3) (fun v5 =>
  bnd (lft (unA UnOp.not v4)) (fun v6 =>
  condM v6 (M.pure (AV.sl [])) (bnd (lft (loadA T 24 (AV.ip (acells a1)))) (fun v7 =>
  bnd (call 28 [v0, v7]) (fun v8 =>
  M.pure v8))))))))))
theorem E11 (call : CC) (fx : Fix AV) (a0 a1 : AV) : evBody (pg.cx call Try.f11.ntmps ann11) fx Try.f11 (own 11) [a0, a1] = S11 call fx a0 a1 := by kernel_rfl
theorem C11 (a0 a1 : AV) : callW pg 11 [a0, a1] = isoP (S11 (callW pg) fixW (cl noHs a0) (cl noHs a1)) := (callW_iso hOther rfl rfl rfl _).trans (congrArg isoP (E11 _ _ (cl noHs a0) (cl noHs a1)))
noncomputable def S12 (call : CC) (fx : Fix AV) (a0 a1 : AV) : M AV :=
  bnd (lft (loadA T 24 (AV.ip (acells a1)))) (fun v0 =>
  bnd (call 27 [a0, v0]) (fun v1 =>
  bnd (lft (extractA v1 0)) (fun v2 =>
  bnd (lft (extractA v1 1)) (fun v3 =>
  bnd (cellsM 12 v2) (fun v4 =>
  bnd (lft (unA UnOp.not v3)) (fun v5 =>
  condM v5 (M.pure (AV.sl [])) (bnd (lft (fieldAddrA T 24 (AV.ip (acells a1)) 0)) (fun v6 =>
  bnd (lft (loadA T 9 v6)) (fun v7 =>
  bnd (lft (fieldAddrA T 48 (AV.ip (acells v4)) 5)) (fun v8 =>
  bnd (lft (loadA T 46 v8)) (fun v9 =>
  bnd (call 29 [a0, v7, v9, AV.sl []]) (fun v10 =>
  M.pure v10))))))))))))
theorem E12 (call : CC) (fx : Fix AV) (a0 a1 : AV) : evBody (pg.cx call Try.f12.ntmps ann12) fx Try.f12 (own 12) [a0, a1] = S12 call fx a0 a1 := by kernel_rfl
theorem C12 (a0 a1 : AV) : callW pg 12 [a0, a1] = isoP (S12 (callW pg) fixW (cl noHs a0) (cl noHs a1)) := (callW_iso hOther rfl rfl rfl _).trans (congrArg isoP (E12 _ _ (cl noHs a0) (cl noHs a1)))
noncomputable def S13 (call : CC) (fx : Fix AV) (a0 a1 : AV) : M AV :=
  bnd (lft (loadA T 24 (AV.ip (acells a1)))) (fun v0 =>
  bnd (call 25 [a0]) (fun v1 =>
  bnd (call 24 [v1, v0]) (fun v2 =>
  bnd (call 31 [v2]) (fun v3 =>
  bnd (call 30 [v3, AV.fn (Fn.func 32) [] []]) (fun v4 =>
  M.pure v4)))))
theorem E13 (call : CC) (fx : Fix AV) (a0 a1 : AV) : evBody (pg.cx call Try.f13.ntmps ann13) fx Try.f13 (own 13) [a0, a1] = S13 call fx a0 a1 := by kernel_rfl
theorem C13 (a0 a1 : AV) : callW pg 13 [a0, a1] = isoP (S13 (callW pg) fixW (cl noHs a0) (cl noHs a1)) := (callW_iso hOther rfl rfl rfl _).trans (congrArg isoP (E13 _ _ (cl noHs a0) (cl noHs a1)))
noncomputable def K14_0 (call : CC) (fx : Fix AV) (v17 : List AV → M AV) (v21 : List AV) : M AV :=
  bnd (lft (binA T .add 3 (nth v21 5) (AV.int .i64 1))) (fun v22 =>
  v17 [nth v21 0, nth v21 1, nth v21 2, nth v21 3, nth v21 4, v22])
noncomputable def L14_0 (call : CC) (fx : Fix AV) (v10 : List AV → M AV) (v17 : List AV → M AV) (v18 : List AV) : M AV :=
  bnd (lft (lenA T 27 (nth v18 4))) (fun v19 =>
  bnd (lft (binA T .lss 3 (nth v18 5) v19)) (fun v20 =>
  condM v20 (jn (K14_0 call fx v17) (fun v23 =>
  bnd (lft (indexAddrA T 27 (nth v18 4) (nth v18 5))) (fun v24 =>
  bnd (lft (loadA T 24 v24)) (fun v25 =>
  bnd (call 19 [nth v18 2, v25]) (fun v26 =>
  bnd (lft (unA UnOp.not v26)) (fun v27 =>
  condM v27 (bnd (lft (indexAddrA T 27 (nth v18 4) (nth v18 5))) (fun v28 =>
  bnd (lft (loadA T 24 v28)) (fun v29 =>
  bnd (call 33 [nth v18 2, v29]) (fun v30 =>
  bnd (lft (indexAddrA T 27 (nth v18 4) (nth v18 5))) (fun v31 =>
  bnd (lft (loadA T 24 v31)) (fun v32 =>
  bnd (lft (buildSliceA T 27 1 [(0, v32)])) (fun v33 =>
  bnd (lft (appA T 27 (nth v18 1) v33)) (fun v34 =>
  v23 [nth v18 0, v34, v30, nth v18 3, nth v18 4, nth v18 5])))))))) (v23 [nth v18 0, nth v18 1, nth v18 2, nth v18 3, nth v18 4, nth v18 5]))))))) (bnd (lft (binA T .add 3 (nth v18 3) (AV.int .i64 1))) (fun v35 =>
  v10 [nth v18 0, nth v18 1, nth v18 2, v35]))))
noncomputable def L14_1 (call : CC) (fx : Fix AV) (v10 : List AV → M AV) (v11 : List AV) : M AV :=
  bnd (lft (lenA T 27 (nth v11 1))) (fun v12 =>
  bnd (lft (binA T .lss 3 (nth v11 3) v12)) (fun v13 =>
  condM v13 (bnd (lft (indexAddrA T 27 (nth v11 1) (nth v11 3))) (fun v14 =>
  bnd (lft (loadA T 24 v14)) (fun v15 =>
  bnd (call 12 [nth v11 0, v15]) (fun v16 =>
  fx (L14_0 call fx v10) [nth v11 0, nth v11 1, nth v11 2, nth v11 3, v16, AV.int .i64 0])))) (M.pure (nth v11 2))))
theorem XK14_0 {call : CC} {v17 : List AV → M AV} {v17s : Nat → List AV → M AV} (hv17 : LimF v17 fun n => v17s n) : LimF (K14_0 call fixW v17) fun n => K14_0 call fixW (v17s n) := by
  intro v21
  unfold K14_0
  exact (lb fun _ => (hv17 _))
theorem XL14_0 {call : CC} {v10 : List AV → M AV} {v10s : Nat → List AV → M AV} (hv10 : LimF v10 fun n => v10s n) : Cont1 (L14_0 call fixW v10) fun n => L14_0 call fixW (v10s n) := by
  intro v17 v17s hself v18
  unfold L14_0
  exact (lb fun _ => (lb fun _ => (condM_lim (jn_lim (XK14_0 hself) fun _ _ hv23 => (lb fun _ => (lb fun _ => (lb fun _ => (lb fun _ => (condM_lim (lb fun _ => (lb fun _ => (lb fun _ => (lb fun _ => (lb fun _ => (lb fun _ => (lb fun _ => (hv23 _)))))))) (hv23 _))))))) (lb fun _ => (hv10 _)))))
theorem YL14_0 {call : CC} {v10 : List AV → M AV} {v10s : Nat → List AV → M AV} (hv10 : LimF v10 fun n => v10s n) : LimF (fixW (L14_0 call fixW v10)) fun n => fixW (L14_0 call fixW (v10s n)) := fixW_limF (XL14_0 hv10) (XL14_0 (LimF.const _)) fun _ => XL14_0 (LimF.const _)
theorem FL14_0 (call : CC) (v10 : List AV → M AV) (vs : List AV) : fixW (L14_0 call fixW v10) vs = L14_0 call fixW v10 (fixW (L14_0 call fixW v10)) vs := fixW_eq (XL14_0 (LimF.const _)) vs
theorem XL14_1 {call : CC} : Cont1 (L14_1 call fixW ) fun _n => L14_1 call fixW  := by
  intro v10 v10s hself v11
  unfold L14_1
  exact (lb fun _ => (lb fun _ => (condM_lim (lb fun _ => (lb fun _ => (lb fun _ => ((YL14_0 hself) _)))) (LimM.const _))))
theorem FL14_1 (call : CC) (vs : List AV) : fixW (L14_1 call fixW ) vs = L14_1 call fixW  (fixW (L14_1 call fixW )) vs := fixW_eq (XL14_1 ) vs
noncomputable def S14 (call : CC) (fx : Fix AV) (a0 a1 : AV) : M AV :=
  bnd (lft (loadA T 24 (AV.ip (acells a1)))) (fun v0 =>
  bnd (call 27 [a0, v0]) (fun v1 =>
  bnd (lft (extractA v1 0)) (fun v2 =>
  bnd (lft (extractA v1 1)) (fun v3 =>
  bnd (cellsM 12 v2) (fun v4 =>
  bnd (lft (unA UnOp.not v3)) (fun v5 =>
  condM v5 (M.pure (AV.sl [])) (bnd (lft (loadA T 24 (AV.ip (acells a1)))) (fun v6 =>
  bnd (lft (buildSliceA T 27 1 [(0, v6)])) (fun v7 =>
  bnd (lft (loadA T 24 (AV.ip (acells a1)))) (fun v8 =>
  bnd (lft (buildSliceA T 27 1 [(0, v8)])) (fun v9 =>
  fx (L14_1 call fx) [a0, v7, v9, AV.int .i64 0])))))))))))
theorem E14 (call : CC) (fx : Fix AV) (a0 a1 : AV) : evBody (pg.cx call Try.f14.ntmps ann14) fx Try.f14 (own 14) [a0, a1] = S14 call fx a0 a1 := by kernel_rfl
theorem C14 (a0 a1 : AV) : callW pg 14 [a0, a1] = isoP (S14 (callW pg) fixW (cl noHs a0) (cl noHs a1)) := (callW_iso hOther rfl rfl rfl _).trans (congrArg isoP (E14 _ _ (cl noHs a0) (cl noHs a1)))
noncomputable def L15_0 (call : CC) (fx : Fix AV) (v6 : List AV → M AV) (v7 : List AV) : M AV :=
  nxtM (nth v7 2) (bnd (loadH T 3 (nth v7 1)) (fun v15 =>
  bnd (lft (some v15)) fzM)) (bnd (entryH (nth v7 2)) (fun v16 =>
  bnd (lft (extractA v16 0)) (fun v17 =>
  bnd (cellsM 2 v17) (fun v18 =>
  bnd (lft (loadA T 24 (AV.ip (acells v18)))) (fun v19 =>
  bnd (lookH T 56 (nth v7 0) v19 false) (fun v20 =>
  bnd (lft (fieldA T 48 v20 5)) (fun v21 =>
  bnd (call 34 [v21, AV.fn (Fn.func 35) [] [nth v7 1]]) (fun v22 =>
  v6 [nth v7 0, nth v7 1, nth v7 2]))))))))
theorem XL15_0 {call : CC} : Cont1 (L15_0 call fixW ) fun _n => L15_0 call fixW  := by
  intro v6 v6s hself v7
  unfold L15_0
  exact (nxtM_lim (LimM.const _) (lb fun _ => (lb fun _ => (lb fun _ => (lb fun _ => (lb fun _ => (lb fun _ => (lb fun _ => (hself _)))))))) _)
theorem FL15_0 (call : CC) (vs : List AV) : fixW (L15_0 call fixW ) vs = L15_0 call fixW  (fixW (L15_0 call fixW )) vs := fixW_eq (XL15_0 ) vs
noncomputable def S15 (call : CC) (fx : Fix AV) (a0 a1 : AV) : M AV :=
  bnd (call 25 [a0]) (fun v0 =>
  bnd (newH [AV.int .i64 0]) (fun v1 =>
  bnd (storeH T 3 v1 (AV.int .i64 0)) (fun v2 =>
  bnd (lft (loadA T 24 (AV.ip (acells a1)))) (fun v3 =>
  bnd (call 24 [v0, v3]) (fun v4 =>
  bnd (rangeH T 54 v4) (fun v5 =>
  fx (L15_0 call fx) [v0, v1, v5]))))))
theorem E15 (call : CC) (fx : Fix AV) (a0 a1 : AV) : evBody (pg.cx call Try.f15.ntmps ann15) fx Try.f15 (own 15) [a0, a1] = S15 call fx a0 a1 := by kernel_rfl
theorem C15 (a0 a1 : AV) : callW pg 15 [a0, a1] = isoP (S15 (callW pg) fixW (cl noHs a0) (cl noHs a1)) := (callW_iso hOther rfl rfl rfl _).trans (congrArg isoP (E15 _ _ (cl noHs a0) (cl noHs a1)))
noncomputable def L16_0 (call : CC) (fx : Fix AV) (v2 : List AV → M AV) (v3 : List AV) : M AV :=
  bnd (lft (lenA T 27 (nth v3 1))) (fun v4 =>
  bnd (lft (binA T .lss 3 (nth v3 3) v4)) (fun v5 =>
  condM v5 (bnd (lft (indexAddrA T 27 (nth v3 1) (nth v3 3))) (fun v6 =>
  bnd (lft (loadA T 24 v6)) (fun v7 =>
  bnd (call 27 [nth v3 0, v7]) (fun v8 =>
  bnd (lft (extractA v8 0)) (fun v9 =>
  bnd (lft (extractA v8 1)) (fun v10 =>
  bnd (cellsM 12 v9) (fun v11 =>
  bnd (lft (fieldAddrA T 48 (AV.ip (acells v11)) 5)) (fun v12 =>
  bnd (lft (loadA T 46 v12)) (fun v13 =>
  bnd (call 36 [v13]) (fun v14 =>
  bnd (lft (binA T .or 3 (nth v3 2) v14)) (fun v15 =>
  bnd (lft (binA T .add 3 (nth v3 3) (AV.int .i64 1))) (fun v16 =>
  v2 [nth v3 0, nth v3 1, v15, v16])))))))))))) (M.pure (nth v3 2))))
theorem XL16_0 {call : CC} : Cont1 (L16_0 call fixW ) fun _n => L16_0 call fixW  := by
  intro v2 v2s hself v3
  unfold L16_0
  exact (lb fun _ => (lb fun _ => (condM_lim (lb fun _ => (lb fun _ => (lb fun _ => (lb fun _ => (lb fun _ => (lb fun _ => (lb fun _ => (lb fun _ => (lb fun _ => (lb fun _ => (lb fun _ => (hself _)))))))))))) (LimM.const _))))
theorem FL16_0 (call : CC) (vs : List AV) : fixW (L16_0 call fixW ) vs = L16_0 call fixW  (fixW (L16_0 call fixW )) vs := fixW_eq (XL16_0 ) vs
noncomputable def S16 (call : CC) (fx : Fix AV) (a0 a1 : AV) : M AV :=
  bnd (lft (loadA T 24 (AV.ip (acells a1)))) (fun v0 =>
  bnd (call 14 [a0, v0]) (fun v1 =>
  fx (L16_0 call fx) [a0, v1, AV.int .i64 0, AV.int .i64 0]))
theorem E16 (call : CC) (fx : Fix AV) (a0 a1 : AV) : evBody (pg.cx call Try.f16.ntmps ann16) fx Try.f16 (own 16) [a0, a1] = S16 call fx a0 a1 := by kernel_rfl
theorem C16 (a0 a1 : AV) : callW pg 16 [a0, a1] = isoP (S16 (callW pg) fixW (cl noHs a0) (cl noHs a1)) := (callW_iso hOther rfl rfl rfl _).trans (congrArg isoP (E16 _ _ (cl noHs a0) (cl noHs a1)))
noncomputable def L17_0 (call : CC) (fx : Fix AV) (v2 : List AV → M AV) (v3 : List AV) : M AV :=
  nxtM (nth v3 3) (bnd (call 37 [nth v3 2, AV.fn (Fn.func 32) [] []]) (fun v23 =>
  bnd (lft (some (nth v3 2))) fzM)) (bnd (entryH (nth v3 3)) (fun v24 =>
  bnd (lft (extractA v24 0)) (fun v25 =>
  bnd (lft (extractA v24 1)) (fun v26 =>
  bnd (cellsM 2 v25) (fun v27 =>
  bnd (cellsM 12 v26) (fun v28 =>
  bnd (lft (loadA T 24 (AV.ip (acells v27)))) (fun v29 =>
  bnd (lft (loadA T 24 (nth v3 0))) (fun v30 =>
  bnd (call 24 [nth v3 1, v29]) (fun v31 =>
  bnd (lookH T 54 v31 v30 true) (fun v32 =>
  bnd (lft (extractA v32 0)) (fun v33 =>
  bnd (lft (extractA v32 1)) (fun v34 =>
  bnd (cellsM 2 v33) (fun v35 =>
  bnd (guardM v34 true 1 (bnd (lft (fieldAddrA T 48 (AV.ip (acells v28)) 1)) (fun v36 =>
  bnd (lft (loadA T 4 v36)) (fun v37 =>
  M.pure [v37])))) (fun v38 =>
  bnd (lft (pickA v34 (nth v38 0) (AV.bool false))) (fun v39 =>
  condM v39 (bnd (lft (loadA T 24 (AV.ip (acells v27)))) (fun v40 =>
  bnd (lft (buildSliceA T 27 1 [(0, v40)])) (fun v41 =>
  bnd (appH T 27 false (nth v3 2) v41) (fun v42 =>
  v2 [nth v3 0, nth v3 1, v42, nth v3 3])))) (v2 [nth v3 0, nth v3 1, nth v3 2, nth v3 3]))))))))))))))))
theorem XL17_0 {call : CC} : Cont1 (L17_0 call fixW ) fun _n => L17_0 call fixW  := by
  intro v2 v2s hself v3
  unfold L17_0
  exact (nxtM_lim (LimM.const _) (lb fun _ => (lb fun _ => (lb fun _ => (lb fun _ => (lb fun _ => (lb fun _ => (lb fun _ => (lb fun _ => (lb fun _ => (lb fun _ => (lb fun _ => (lb fun _ => (lb fun _ => (lb fun _ => (condM_lim (lb fun _ => (lb fun _ => (lb fun _ => (hself _)))) (hself _)))))))))))))))) _)
theorem FL17_0 (call : CC) (vs : List AV) : fixW (L17_0 call fixW ) vs = L17_0 call fixW  (fixW (L17_0 call fixW )) vs := fixW_eq (XL17_0 ) vs
noncomputable def S17 (call : CC) (fx : Fix AV) (a0 a1 : AV) : M AV :=
  bnd (call 25 [a0]) (fun v0 =>
  bnd (rangeH T 56 v0) (fun v1 =>
  fx (L17_0 call fx) [AV.ip (acells a1), v0, AV.hn, v1]))
theorem E17 (call : CC) (fx : Fix AV) (a0 a1 : AV) : evBody (pg.cx call Try.f17.ntmps ann17) fx Try.f17 (own 17) [a0, a1] = S17 call fx a0 a1 := by kernel_rfl
theorem C17 (a0 a1 : AV) : callW pg 17 [a0, a1] = isoP (S17 (callW pg) fixW (cl noHs a0) (cl noHs a1)) := (callW_iso hOther rfl rfl rfl _).trans (congrArg isoP (E17 _ _ (cl noHs a0) (cl noHs a1)))
noncomputable def K18_0 (call : CC) (fx : Fix AV) (v4 : List AV → M AV) (v11 : List AV) : M AV :=
  bnd (lft (binA T .add 3 (nth v11 4) (AV.int .i64 1))) (fun v12 =>
  v4 [nth v11 0, nth v11 1, nth v11 2, nth v11 3, v12])
noncomputable def L18_0 (call : CC) (fx : Fix AV) (v0 : List AV → M AV) (v4 : List AV → M AV) (v5 : List AV) : M AV :=
  bnd (lft (indexAddrA T 22 (nth v5 0) (nth v5 3))) (fun v6 =>
  bnd (lft (fieldAddrA T 42 v6 4)) (fun v7 =>
  bnd (lft (loadA T 38 v7)) (fun v8 =>
  bnd (lft (lenA T 38 v8)) (fun v9 =>
  bnd (lft (binA T .lss 3 (nth v5 4) v9)) (fun v10 =>
  condM v10 (jn (K18_0 call fx v4) (fun v13 =>
  bnd (lft (indexAddrA T 22 (nth v5 0) (nth v5 3))) (fun v14 =>
  bnd (lft (fieldAddrA T 42 v14 0)) (fun v15 =>
  bnd (lft (loadA T 9 v15)) (fun v16 =>
  bnd (lft (indexAddrA T 22 (nth v5 0) (nth v5 3))) (fun v17 =>
  bnd (lft (fieldAddrA T 42 v17 4)) (fun v18 =>
  bnd (lft (loadA T 38 v18)) (fun v19 =>
  bnd (lft (indexAddrA T 38 v19 (nth v5 4))) (fun v20 =>
  bnd (lft (fieldAddrA T 48 v20 0)) (fun v21 =>
  bnd (lft (loadA T 9 v21)) (fun v22 =>
  bnd (lft (buildA T false 24 [(0, v16), (1, v22)])) (fun v23 =>
  bnd (cellsM 2 v23) (fun v24 =>
  bnd (lft (loadA T 24 (AV.ip (acells v24)))) (fun v25 =>
  bnd (call 27 [nth v5 0, v25]) (fun v26 =>
  bnd (lft (extractA v26 0)) (fun v27 =>
  bnd (lft (extractA v26 1)) (fun v28 =>
  bnd (cellsM 12 v27) (fun v29 =>
  bnd (guardM v28 true 1 (bnd (lft (fieldAddrA T 48 (AV.ip (acells v29)) 1)) (fun v30 =>
  bnd (lft (loadA T 4 v30)) (fun v31 =>
  M.pure [v31])))) (fun v32 =>
  bnd (lft (pickA v28 (nth v32 0) (AV.bool false))) (fun v33 =>
  bnd (guardM v33 true 1 (bnd (lft (loadA T 24 (AV.ip (acells v24)))) (fun v34 =>
  bnd (noPan (call 19 [nth v5 2, v34])) (fun v35 =>
  bnd (lft (unA UnOp.not v35)) (fun v36 =>
  M.pure [v36]))))) (fun v37 =>
  bnd (lft (pickA v33 (nth v37 0) (AV.bool false))) (fun v38 =>
  bnd (guardM v38 true 1 (bnd (lft (loadA T 24 (AV.ip (acells v24)))) (fun v39 =>
  bnd (noPan (call 14 [nth v5 0, v39])) (fun v40 =>
  bnd (lft (loadA T 24 (nth v5 1))) (fun v41 =>
  bnd (noPan (call 19 [v40, v41])) (fun v42 =>
  M.pure [v42])))))) (fun v43 =>
  bnd (lft (pickA v38 (nth v43 0) (AV.bool false))) (fun v44 =>
  condM v44 (bnd (lft (loadA T 24 (AV.ip (acells v24)))) (fun v45 =>
  bnd (call 33 [nth v5 2, v45]) (fun v46 =>
  v13 [nth v5 0, nth v5 1, v46, nth v5 3, nth v5 4]))) (v13 [nth v5 0, nth v5 1, nth v5 2, nth v5 3, nth v5 4]))))))))))))))))))))))))) (bnd (lft (binA T .add 3 (nth v5 3) (AV.int .i64 1))) (fun v47 =>
  v0 [nth v5 0, nth v5 1, nth v5 2, v47])))))))
noncomputable def L18_1 (call : CC) (fx : Fix AV) (v0 : List AV → M AV) (v1 : List AV) : M AV :=
  bnd (lft (lenA T 22 (nth v1 0))) (fun v2 =>
  bnd (lft (binA T .lss 3 (nth v1 3) v2)) (fun v3 =>
  condM v3 (fx (L18_0 call fx v0) [nth v1 0, nth v1 1, nth v1 2, nth v1 3, AV.int .i64 0]) (M.pure (nth v1 2))))
theorem XK18_0 {call : CC} {v4 : List AV → M AV} {v4s : Nat → List AV → M AV} (hv4 : LimF v4 fun n => v4s n) : LimF (K18_0 call fixW v4) fun n => K18_0 call fixW (v4s n) := by
  intro v11
  unfold K18_0
  exact (lb fun _ => (hv4 _))
theorem XL18_0 {call : CC} {v0 : List AV → M AV} {v0s : Nat → List AV → M AV} (hv0 : LimF v0 fun n => v0s n) : Cont1 (L18_0 call fixW v0) fun n => L18_0 call fixW (v0s n) := by
  intro v4 v4s hself v5
  unfold L18_0
  exact (lb fun _ => (lb fun _ => (lb fun _ => (lb fun _ => (lb fun _ => (condM_lim (jn_lim (XK18_0 hself) fun _ _ hv13 => (lb fun _ => (lb fun _ => (lb fun _ => (lb fun _ => (lb fun _ => (lb fun _ => (lb fun _ => (lb fun _ => (lb fun _ => (lb fun _ => (lb fun _ => (lb fun _ => (lb fun _ => (lb fun _ => (lb fun _ => (lb fun _ => (lb fun _ => (lb fun _ => (lb fun _ => (lb fun _ => (lb fun _ => (lb fun _ => (condM_lim (lb fun _ => (lb fun _ => (hv13 _))) (hv13 _))))))))))))))))))))))))) (lb fun _ => (hv0 _))))))))
theorem YL18_0 {call : CC} {v0 : List AV → M AV} {v0s : Nat → List AV → M AV} (hv0 : LimF v0 fun n => v0s n) : LimF (fixW (L18_0 call fixW v0)) fun n => fixW (L18_0 call fixW (v0s n)) := fixW_limF (XL18_0 hv0) (XL18_0 (LimF.const _)) fun _ => XL18_0 (LimF.const _)
theorem FL18_0 (call : CC) (v0 : List AV → M AV) (vs : List AV) : fixW (L18_0 call fixW v0) vs = L18_0 call fixW v0 (fixW (L18_0 call fixW v0)) vs := fixW_eq (XL18_0 (LimF.const _)) vs
theorem XL18_1 {call : CC} : Cont1 (L18_1 call fixW ) fun _n => L18_1 call fixW  := by
  intro v0 v0s hself v1
  unfold L18_1
  exact (lb fun _ => (lb fun _ => (condM_lim ((YL18_0 hself) _) (LimM.const _))))
theorem FL18_1 (call : CC) (vs : List AV) : fixW (L18_1 call fixW ) vs = L18_1 call fixW  (fixW (L18_1 call fixW )) vs := fixW_eq (XL18_1 ) vs
noncomputable def S18 (call : CC) (fx : Fix AV) (a0 a1 : AV) : M AV :=
  fx (L18_1 call fx) [a0, AV.ip (acells a1), AV.sl [], AV.int .i64 0]
theorem E18 (call : CC) (fx : Fix AV) (a0 a1 : AV) : evBody (pg.cx call Try.f18.ntmps ann18) fx Try.f18 (own 18) [a0, a1] = S18 call fx a0 a1 := by kernel_rfl
theorem C18 (a0 a1 : AV) : callW pg 18 [a0, a1] = isoP (S18 (callW pg) fixW (cl noHs a0) (cl noHs a1)) := (callW_iso hOther rfl rfl rfl _).trans (congrArg isoP (E18 _ _ (cl noHs a0) (cl noHs a1)))
noncomputable def L19_0 (call : CC) (fx : Fix AV) (v0 : List AV → M AV) (v1 : List AV) : M AV :=
  bnd (lft (lenA T 27 (nth v1 0))) (fun v2 =>
  bnd (lft (binA T .lss 3 (nth v1 2) v2)) (fun v3 =>
  condM v3 (bnd (lft (indexAddrA T 27 (nth v1 0) (nth v1 2))) (fun v4 =>
  bnd (lft (loadA T 24 v4)) (fun v5 =>
  bnd (lft (loadA T 24 (nth v1 1))) (fun v6 =>
  bnd (lft (binA T .eql 24 v5 v6)) (fun v7 =>
  condM v7 (M.pure (AV.bool true)) (bnd (lft (binA T .add 3 (nth v1 2) (AV.int .i64 1))) (fun v8 =>
  v0 [nth v1 0, nth v1 1, v8]))))))) (M.pure (AV.bool false))))
theorem XL19_0 {call : CC} : Cont1 (L19_0 call fixW ) fun _n => L19_0 call fixW  := by
  intro v0 v0s hself v1
  unfold L19_0
  exact (lb fun _ => (lb fun _ => (condM_lim (lb fun _ => (lb fun _ => (lb fun _ => (lb fun _ => (condM_lim (LimM.const _) (lb fun _ => (hself _))))))) (LimM.const _))))
theorem FL19_0 (call : CC) (vs : List AV) : fixW (L19_0 call fixW ) vs = L19_0 call fixW  (fixW (L19_0 call fixW )) vs := fixW_eq (XL19_0 ) vs
noncomputable def S19 (call : CC) (fx : Fix AV) (a0 a1 : AV) : M AV :=
  fx (L19_0 call fx) [a0, AV.ip (acells a1), AV.int .i64 0]
theorem E19 (call : CC) (fx : Fix AV) (a0 a1 : AV) : evBody (pg.cx call Try.f19.ntmps ann19) fx Try.f19 (own 19) [a0, a1] = S19 call fx a0 a1 := by kernel_rfl
theorem C19 (a0 a1 : AV) : callW pg 19 [a0, a1] = isoP (S19 (callW pg) fixW (cl noHs a0) (cl noHs a1)) := (callW_iso hOther rfl rfl rfl _).trans (congrArg isoP (E19 _ _ (cl noHs a0) (cl noHs a1)))
noncomputable def S20 (call : CC) (fx : Fix AV) (a0 : AV) : M AV :=
  bnd (lft (buildA T false 46 [])) (fun v0 =>
  bnd (lft (buildSliceA T 37 1 [(0, v0)])) (fun v1 =>
  bnd (lft (buildA T false 46 [(0, AV.int .i64 16), (1, AV.int .i64 2), (5, v1)])) (fun v2 =>
  bnd (cellsM 6 v2) (fun v3 =>
  bnd (noPan (call 38 [AV.str [], AV.str [103]])) (fun v4 =>
  bnd (lft (buildA T false 48 [(0, AV.str [102]), (1, a0), (5, v4)])) (fun v5 =>
  bnd (noPan (call 38 [AV.str [], AV.str [102]])) (fun v6 =>
  bnd (lft (loadA T 46 (AV.ip (acells v3)))) (fun v7 =>
  bnd (lft (buildSliceA T 37 2 [(0, v6), (1, v7)])) (fun v8 =>
  bnd (lft (buildA T false 46 [(0, AV.int .i64 3), (5, v8)])) (fun v9 =>
  bnd (lft (buildA T false 48 [(0, AV.str [103]), (5, v9)])) (fun v10 =>
  bnd (lft (buildSliceA T 38 2 [(0, v5), (1, v10)])) (fun v11 =>
  bnd (lft (buildA T false 42 [(0, AV.str [109]), (4, v11)])) (fun v12 =>
  bnd (cellsM 9 v12) (fun v13 =>
  bnd (lft (loadA T 42 (AV.ip (acells v13)))) (fun v14 =>
  bnd (lft (buildSliceA T 35 1 [(0, AV.str [109])])) (fun v15 =>
  bnd (noPan (call 38 [AV.str [109], AV.str [102]])) (fun v16 =>
  bnd (lft (buildA T false 48 [(0, AV.str [104]), (1, AV.bool true), (5, v16)])) (fun v17 =>
  bnd (lft (buildSliceA T 38 1 [(0, v17)])) (fun v18 =>
  bnd (lft (buildA T false 42 [(0, AV.str [110]), (1, v15), (4, v18)])) (fun v19 =>
  bnd (lft (buildSliceA T 22 2 [(0, v14), (1, v19)])) (fun v20 =>
  M.pure v20)))))))))))))))))))))
theorem E20 (call : CC) (fx : Fix AV) (a0 : AV) : evBody (pg.cx call Try.f20.ntmps ann20) fx Try.f20 (own 20) [a0] = S20 call fx a0 := by kernel_rfl
theorem C20 (a0 : AV) : callW pg 20 [a0] = isoP (S20 (callW pg) fixW (cl noHs a0)) := (callW_iso hOther rfl rfl rfl _).trans (congrArg isoP (E20 _ _ (cl noHs a0)))
noncomputable def L21_0 (call : CC) (fx : Fix AV) (v0 : List AV → M AV) (v1 : List AV) : M AV :=
  bnd (lft (lenA T 37 (nth v1 0))) (fun v2 =>
  bnd (lft (binA T .lss 3 (nth v1 1) v2)) (fun v3 =>
  bnd (guardM v3 true 1 (bnd (lft (binA T .lss 3 (nth v1 1) (AV.int .i64 9))) (fun v4 =>
  M.pure [v4]))) (fun v5 =>
  bnd (lft (pickA v3 (nth v5 0) (AV.bool false))) (fun v6 =>
  condM v6 (bnd (lft (indexAddrA T 37 (nth v1 0) (nth v1 1))) (fun v7 =>
  bnd (lft (loadA T 46 v7)) (fun v8 =>
  bnd (call 39 [v8, AV.int .i64 50, AV.int .i64 16]) (fun v9 =>
  bnd (lft (binA T .gtr 3 v9 (AV.int .i64 50))) (fun v10 =>
  condM v10 (M.pure (AV.bool false)) (bnd (lft (binA T .add 3 (nth v1 1) (AV.int .i64 1))) (fun v11 =>
  v0 [nth v1 0, v11]))))))) (bnd (lft (lenA T 37 (nth v1 0))) (fun v12 =>
  bnd (lft (binA T .leq 3 v12 (AV.int .i64 8))) (fun v13 =>
  M.pure v13)))))))
theorem XL21_0 {call : CC} : Cont1 (L21_0 call fixW ) fun _n => L21_0 call fixW  := by
  intro v0 v0s hself v1
  unfold L21_0
  exact (lb fun _ => (lb fun _ => (lb fun _ => (lb fun _ => (condM_lim (lb fun _ => (lb fun _ => (lb fun _ => (lb fun _ => (condM_lim (LimM.const _) (lb fun _ => (hself _))))))) (LimM.const _))))))
theorem FL21_0 (call : CC) (vs : List AV) : fixW (L21_0 call fixW ) vs = L21_0 call fixW  (fixW (L21_0 call fixW )) vs := fixW_eq (XL21_0 ) vs
noncomputable def S21 (call : CC) (fx : Fix AV) (a0 : AV) : M AV :=
  fx (L21_0 call fx) [a0, AV.int .i64 0]
theorem E21 (call : CC) (fx : Fix AV) (a0 : AV) : evBody (pg.cx call Try.f21.ntmps ann21) fx Try.f21 (own 21) [a0] = S21 call fx a0 := by kernel_rfl
theorem C21 (a0 : AV) : callW pg 21 [a0] = isoP (S21 (callW pg) fixW (cl noHs a0)) := (callW_iso hOther rfl rfl rfl _).trans (congrArg isoP (E21 _ _ (cl noHs a0)))
noncomputable def L22_0 (call : CC) (fx : Fix AV) (v0 : List AV → M AV) (v1 : List AV) : M AV :=
  bnd (lft (lenA T 36 (nth v1 0))) (fun v2 =>
  bnd (lft (binA T .lss 3 (nth v1 1) v2)) (fun v3 =>
  bnd (guardM v3 true 1 (bnd (lft (binA T .lss 3 (nth v1 1) (AV.int .i64 9))) (fun v4 =>
  M.pure [v4]))) (fun v5 =>
  bnd (lft (pickA v3 (nth v5 0) (AV.bool false))) (fun v6 =>
  condM v6 (bnd (lft (indexAddrA T 36 (nth v1 0) (nth v1 1))) (fun v7 =>
  bnd (lft (fieldAddrA T 78 v7 1)) (fun v8 =>
  bnd (lft (loadA T 44 v8)) (fun v9 =>
  bnd (call 23 [v9, AV.int .i64 30, AV.int .i64 6]) (fun v10 =>
  bnd (lft (binA T .gtr 3 v10 (AV.int .i64 30))) (fun v11 =>
  condM v11 (M.pure (AV.bool false)) (bnd (lft (binA T .add 3 (nth v1 1) (AV.int .i64 1))) (fun v12 =>
  v0 [nth v1 0, v12])))))))) (bnd (lft (lenA T 36 (nth v1 0))) (fun v13 =>
  bnd (lft (binA T .leq 3 v13 (AV.int .i64 8))) (fun v14 =>
  M.pure v14)))))))
theorem XL22_0 {call : CC} : Cont1 (L22_0 call fixW ) fun _n => L22_0 call fixW  := by
  intro v0 v0s hself v1
  unfold L22_0
  exact (lb fun _ => (lb fun _ => (lb fun _ => (lb fun _ => (condM_lim (lb fun _ => (lb fun _ => (lb fun _ => (lb fun _ => (lb fun _ => (condM_lim (LimM.const _) (lb fun _ => (hself _)))))))) (LimM.const _))))))
theorem FL22_0 (call : CC) (vs : List AV) : fixW (L22_0 call fixW ) vs = L22_0 call fixW  (fixW (L22_0 call fixW )) vs := fixW_eq (XL22_0 ) vs
noncomputable def S22 (call : CC) (fx : Fix AV) (a0 : AV) : M AV :=
  fx (L22_0 call fx) [a0, AV.int .i64 0]
theorem E22 (call : CC) (fx : Fix AV) (a0 : AV) : evBody (pg.cx call Try.f22.ntmps ann22) fx Try.f22 (own 22) [a0] = S22 call fx a0 := by kernel_rfl
theorem C22 (a0 : AV) : callW pg 22 [a0] = isoP (S22 (callW pg) fixW (cl noHs a0)) := (callW_iso hOther rfl rfl rfl _).trans (congrArg isoP (E22 _ _ (cl noHs a0)))
noncomputable def L23_0 (call : CC) (fx : Fix AV) (v2 : List AV → M AV) (v3 : List AV) : M AV :=
  bnd (lft (fieldAddrA T 44 (nth v3 2) 1)) (fun v4 =>
  bnd (lft (loadA T 36 v4)) (fun v5 =>
  bnd (lft (lenA T 36 v5)) (fun v6 =>
  bnd (lft (binA T .lss 3 (nth v3 4) v6)) (fun v7 =>
  bnd (guardM v7 true 1 (bnd (lft (binA T .leq 3 (nth v3 3) (nth v3 0))) (fun v8 =>
  M.pure [v8]))) (fun v9 =>
  bnd (lft (pickA v7 (nth v9 0) (AV.bool false))) (fun v10 =>
  condM v10 (bnd (lft (fieldAddrA T 44 (nth v3 2) 1)) (fun v11 =>
  bnd (lft (loadA T 36 v11)) (fun v12 =>
  bnd (lft (indexAddrA T 36 v12 (nth v3 4))) (fun v13 =>
  bnd (lft (fieldAddrA T 78 v13 1)) (fun v14 =>
  bnd (lft (loadA T 44 v14)) (fun v15 =>
  bnd (lft (binA T .sub 3 (nth v3 0) (nth v3 3))) (fun v16 =>
  bnd (lft (binA T .sub 3 (nth v3 1) (AV.int .i64 1))) (fun v17 =>
  bnd (call 23 [v15, v16, v17]) (fun v18 =>
  bnd (lft (binA T .add 3 (nth v3 3) v18)) (fun v19 =>
  bnd (lft (binA T .add 3 (nth v3 4) (AV.int .i64 1))) (fun v20 =>
  v2 [nth v3 0, nth v3 1, nth v3 2, v19, v20]))))))))))) (M.pure (nth v3 3))))))))
theorem XL23_0 {call : CC} : Cont1 (L23_0 call fixW ) fun _n => L23_0 call fixW  := by
  intro v2 v2s hself v3
  unfold L23_0
  exact (lb fun _ => (lb fun _ => (lb fun _ => (lb fun _ => (lb fun _ => (lb fun _ => (condM_lim (lb fun _ => (lb fun _ => (lb fun _ => (lb fun _ => (lb fun _ => (lb fun _ => (lb fun _ => (lb fun _ => (lb fun _ => (lb fun _ => (hself _))))))))))) (LimM.const _))))))))
theorem FL23_0 (call : CC) (vs : List AV) : fixW (L23_0 call fixW ) vs = L23_0 call fixW  (fixW (L23_0 call fixW )) vs := fixW_eq (XL23_0 ) vs
noncomputable def S23 (call : CC) (fx : Fix AV) (a0 a1 a2 : AV) : M AV :=
  bnd (lft (binA T .lss 3 a2 (AV.int .i64 1))) (fun v0 =>
  condM v0 (bnd (lft (binA T .add 3 a1 (AV.int .i64 1))) (fun v1 =>
  M.pure v1)) (fx (L23_0 call fx) [a1, a2, AV.ip (acells a0), AV.int .i64 1, AV.int .i64 0]))
theorem E23 (call : CC) (fx : Fix AV) (a0 a1 a2 : AV) : evBody (pg.cx call Try.f23.ntmps ann23) fx Try.f23 (own 23) [a0, a1, a2] = S23 call fx a0 a1 a2 := by kernel_rfl
theorem C23 (a0 a1 a2 : AV) : callW pg 23 [a0, a1, a2] = isoP (S23 (callW pg) fixW (cl noHs a0) (cl noHs a1) (cl noHs a2)) := (callW_iso hOther rfl rfl rfl _).trans (congrArg isoP (E23 _ _ (cl noHs a0) (cl noHs a1) (cl noHs a2)))
noncomputable def L24_0 (call : CC) (fx : Fix AV) (v12 : List AV → M AV) (v20 : List AV → M AV) (v21 : List AV) : M AV :=
  bnd (lft (binA T .lss 3 (nth v21 5) (nth v21 4))) (fun v22 =>
  condM v22 (bnd (lft (indexAddrA T 27 (nth v21 3) (nth v21 5))) (fun v23 =>
  bnd (lft (loadA T 24 v23)) (fun v24 =>
  bnd (cellsM 2 v24) (fun v25 =>
  bnd (lft (loadA T 24 (AV.ip (acells v25)))) (fun v26 =>
  bnd (lookH T 54 (nth v21 1) v26 true) (fun v27 =>
  bnd (lft (extractA v27 0)) (fun v28 =>
  bnd (lft (extractA v27 1)) (fun v29 =>
  bnd (cellsM 2 v28) (fun v30 =>
  bnd (lft (unA UnOp.not v29)) (fun v31 =>
  condM v31 (bnd (lft (loadA T 24 (AV.ip (acells v25)))) (fun v32 =>
  bnd (lft (indexAddrA T 27 (nth v21 2) (AV.int .i64 0))) (fun v33 =>
  bnd (lft (loadA T 24 v33)) (fun v34 =>
  bnd (putH T 54 (nth v21 1) v32 v34) (fun v35 =>
  bnd (lft (loadA T 24 (AV.ip (acells v25)))) (fun v36 =>
  bnd (lft (buildSliceA T 27 1 [(0, v36)])) (fun v37 =>
  bnd (lft (appA T 27 (nth v21 2) v37)) (fun v38 =>
  bnd (lft (binA T .add 3 (nth v21 5) (AV.int .i64 1))) (fun v39 =>
  v20 [nth v21 0, nth v21 1, v38, nth v21 3, nth v21 4, v39]))))))))) (bnd (lft (binA T .add 3 (nth v21 5) (AV.int .i64 1))) (fun v40 =>
  v20 [nth v21 0, nth v21 1, nth v21 2, nth v21 3, nth v21 4, v40])))))))))))) (bnd (lft (cutA T 27 (nth v21 2) (some (AV.int .i64 1)))) (fun v41 =>
  v12 [nth v21 0, nth v21 1, v41])))
noncomputable def L24_1 (call : CC) (fx : Fix AV) (v12 : List AV → M AV) (v13 : List AV) : M AV :=
  bnd (lft (lenA T 27 (nth v13 2))) (fun v14 =>
  bnd (lft (binA T .gtr 3 v14 (AV.int .i64 0))) (fun v15 =>
  condM v15 (bnd (lft (indexAddrA T 27 (nth v13 2) (AV.int .i64 0))) (fun v16 =>
  bnd (lft (loadA T 24 v16)) (fun v17 =>
  bnd (call 28 [nth v13 0, v17]) (fun v18 =>
  bnd (lft (lenA T 27 v18)) (fun v19 =>
  fx (L24_0 call fx v12) [nth v13 0, nth v13 1, nth v13 2, v18, v19, AV.int .i64 0]))))) (M.pure (nth v13 1))))
theorem XL24_0 {call : CC} {v12 : List AV → M AV} {v12s : Nat → List AV → M AV} (hv12 : LimF v12 fun n => v12s n) : Cont1 (L24_0 call fixW v12) fun n => L24_0 call fixW (v12s n) := by
  intro v20 v20s hself v21
  unfold L24_0
  exact (lb fun _ => (condM_lim (lb fun _ => (lb fun _ => (lb fun _ => (lb fun _ => (lb fun _ => (lb fun _ => (lb fun _ => (lb fun _ => (lb fun _ => (condM_lim (lb fun _ => (lb fun _ => (lb fun _ => (lb fun _ => (lb fun _ => (lb fun _ => (lb fun _ => (lb fun _ => (hself _))))))))) (lb fun _ => (hself _)))))))))))) (lb fun _ => (hv12 _))))
theorem YL24_0 {call : CC} {v12 : List AV → M AV} {v12s : Nat → List AV → M AV} (hv12 : LimF v12 fun n => v12s n) : LimF (fixW (L24_0 call fixW v12)) fun n => fixW (L24_0 call fixW (v12s n)) := fixW_limF (XL24_0 hv12) (XL24_0 (LimF.const _)) fun _ => XL24_0 (LimF.const _)
theorem FL24_0 (call : CC) (v12 : List AV → M AV) (vs : List AV) : fixW (L24_0 call fixW v12) vs = L24_0 call fixW v12 (fixW (L24_0 call fixW v12)) vs := fixW_eq (XL24_0 (LimF.const _)) vs
theorem XL24_1 {call : CC} : Cont1 (L24_1 call fixW ) fun _n => L24_1 call fixW  := by
  intro v12 v12s hself v13
  unfold L24_1
  exact (lb fun _ => (lb fun _ => (condM_lim (lb fun _ => (lb fun _ => (lb fun _ => (lb fun _ => ((YL24_0 hself) _))))) (LimM.const _))))
theorem FL24_1 (call : CC) (vs : List AV) : fixW (L24_1 call fixW ) vs = L24_1 call fixW  (fixW (L24_1 call fixW )) vs := fixW_eq (XL24_1 ) vs
noncomputable def S24 (call : CC) (fx : Fix AV) (a0 a1 : AV) : M AV :=
  bnd (lft (loadA T 24 (AV.ip (acells a1)))) (fun v0 =>
  bnd (lookH T 56 a0 v0 true) (fun v1 =>
  bnd (lft (extractA v1 0)) (fun v2 =>
  bnd (lft (extractA v1 1)) (fun v3 =>
  bnd (cellsM 12 v2) (fun v4 =>
  bnd (lft (unA UnOp.not v3)) (fun v5 =>
  condM v5 (M.pure AV.nilm) (bnd newMapH (fun v6 =>
  bnd (lft (loadA T 24 (AV.ip (acells a1)))) (fun v7 =>
  bnd (lft (loadA T 24 (AV.ip (acells a1)))) (fun v8 =>
  bnd (putH T 54 v6 v7 v8) (fun v9 =>
  bnd (lft (loadA T 24 (AV.ip (acells a1)))) (fun v10 =>
  bnd (lft (buildSliceA T 27 1 [(0, v10)])) (fun v11 =>
  fx (L24_1 call fx) [a0, v6, v11])))))))))))))
theorem E24 (call : CC) (fx : Fix AV) (a0 a1 : AV) : evBody (pg.cx call Try.f24.ntmps ann24) fx Try.f24 (own 24) [a0, a1] = S24 call fx a0 a1 := by kernel_rfl
theorem C24 (a0 a1 : AV) : callW pg 24 [a0, a1] = S24 (callW pg) fixW a0 a1 := (callW_heap hOther rfl rfl rfl _).trans (E24 _ _ a0 a1)
noncomputable def L26_0 (call : CC) (fx : Fix AV) (v2 : List AV → M AV) (v3 : List AV) : M AV :=
  bnd (lft (binA T .lss 3 (nth v3 1) (nth v3 2))) (fun v4 =>
  condM v4 (bnd (lft (indexAddrA T 27 (nth v3 0) (nth v3 2))) (fun v5 =>
  bnd (loadH T 24 v5) (fun v6 =>
  bnd (lft (indexAddrA T 27 (nth v3 0) (nth v3 1))) (fun v7 =>
  bnd (loadH T 24 v7) (fun v8 =>
  bnd (lft (indexAddrA T 27 (nth v3 0) (nth v3 1))) (fun v9 =>
  bnd (storeH T 24 v9 v6) (fun v10 =>
  bnd (lft (indexAddrA T 27 (nth v3 0) (nth v3 2))) (fun v11 =>
  bnd (storeH T 24 v11 v8) (fun v12 =>
  bnd (lft (binA T .add 3 (nth v3 1) (AV.int .i64 1))) (fun v13 =>
  bnd (lft (binA T .sub 3 (nth v3 2) (AV.int .i64 1))) (fun v14 =>
  v2 [nth v3 0, v13, v14]))))))))))) (M.pure (AV.tup [])))
theorem XL26_0 {call : CC} : Cont1 (L26_0 call fixW ) fun _n => L26_0 call fixW  := by
  intro v2 v2s hself v3
  unfold L26_0
  exact (lb fun _ => (condM_lim (lb fun _ => (lb fun _ => (lb fun _ => (lb fun _ => (lb fun _ => (lb fun _ => (lb fun _ => (lb fun _ => (lb fun _ => (lb fun _ => (hself _))))))))))) (LimM.const _)))
theorem FL26_0 (call : CC) (vs : List AV) : fixW (L26_0 call fixW ) vs = L26_0 call fixW  (fixW (L26_0 call fixW )) vs := fixW_eq (XL26_0 ) vs
noncomputable def S26 (call : CC) (fx : Fix AV) (a0 : AV) : M AV :=
  bnd (lft (lenA T 27 a0)) (fun v0 =>
  bnd (lft (binA T .sub 3 v0 (AV.int .i64 1))) (fun v1 =>
  fx (L26_0 call fx) [a0, AV.int .i64 0, v1]))
theorem E26 (call : CC) (fx : Fix AV) (a0 : AV) : evBody (pg.cx call Try.f26.ntmps ann26) fx Try.f26 (own 26) [a0] = S26 call fx a0 := by kernel_rfl
theorem C26 (a0 : AV) : callW pg 26 [a0] = S26 (callW pg) fixW a0 := (callW_heap hOther rfl rfl rfl _).trans (E26 _ _ a0)
noncomputable def L27_0 (call : CC) (fx : Fix AV) (v14 : List AV → M AV) (v15 : List AV) : M AV :=
  bnd (lft (lenA T 38 (nth v15 1))) (fun v16 =>
  bnd (lft (binA T .lss 3 (nth v15 2) v16)) (fun v17 =>
  condM v17 (bnd (lft (indexAddrA T 38 (nth v15 1) (nth v15 2))) (fun v18 =>
  bnd (lft (fieldAddrA T 48 v18 0)) (fun v19 =>
  bnd (lft (loadA T 9 v19)) (fun v20 =>
  bnd (lft (fieldAddrA T 24 (nth v15 0) 1)) (fun v21 =>
  bnd (lft (loadA T 9 v21)) (fun v22 =>
  bnd (lft (binA T .eql 9 v20 v22)) (fun v23 =>
  condM v23 (bnd (lft (indexAddrA T 38 (nth v15 1) (nth v15 2))) (fun v24 =>
  bnd (lft (loadA T 48 v24)) (fun v25 =>
  bnd (cellsNil 12 [] v25) (fun v26 =>
  M.pure (AV.tup [AV.agg [nth (acells v26) 0, nth (acells v26) 1, nth (acells v26) 2, nth (acells v26) 3, nth (acells v26) 4, nth (acells v26) 5, nth (acells v26) 6, nth (acells v26) 7, nth (acells v26) 8, nth (acells v26) 9, nth (acells v26) 10, nth (acells v26) 11], AV.bool true]))))) (bnd (lft (binA T .add 3 (nth v15 2) (AV.int .i64 1))) (fun v27 =>
  v14 [nth v15 0, nth v15 1, v27, nth v15 3, nth v15 4, nth v15 5, nth v15 6, nth v15 7, nth v15 8, nth v15 9, nth v15 10, nth v15 11, nth v15 12, nth v15 13, nth v15 14]))))))))) (bnd (lft (buildA T false 48 [])) (fun v28 =>
  bnd (cellsNil 12 [] v28) (fun v29 =>
  M.pure (AV.tup [AV.agg [nth (acells v29) 0, nth (acells v29) 1, nth (acells v29) 2, nth (acells v29) 3, nth (acells v29) 4, nth (acells v29) 5, nth (acells v29) 6, nth (acells v29) 7, nth (acells v29) 8, nth (acells v29) 9, nth (acells v29) 10, nth (acells v29) 11], AV.bool false]))))))
noncomputable def L27_1 (call : CC) (fx : Fix AV) (v0 : List AV → M AV) (v1 : List AV) : M AV :=
  bnd (lft (lenA T 22 (nth v1 0))) (fun v2 =>
  bnd (lft (binA T .lss 3 (nth v1 2) v2)) (fun v3 =>
  condM v3 (bnd (lft (indexAddrA T 22 (nth v1 0) (nth v1 2))) (fun v4 =>
  bnd (lft (fieldAddrA T 42 v4 0)) (fun v5 =>
  bnd (lft (loadA T 9 v5)) (fun v6 =>
  bnd (lft (fieldAddrA T 24 (nth v1 1) 0)) (fun v7 =>
  bnd (lft (loadA T 9 v7)) (fun v8 =>
  bnd (lft (binA T .neq 9 v6 v8)) (fun v9 =>
  condM v9 (bnd (lft (binA T .add 3 (nth v1 2) (AV.int .i64 1))) (fun v10 =>
  v0 [nth v1 0, nth v1 1, v10, nth v1 3, nth v1 4, nth v1 5, nth v1 6, nth v1 7, nth v1 8, nth v1 9, nth v1 10, nth v1 11, nth v1 12, nth v1 13, nth v1 14])) (bnd (lft (indexAddrA T 22 (nth v1 0) (nth v1 2))) (fun v11 =>
  bnd (lft (fieldAddrA T 42 v11 4)) (fun v12 =>
  bnd (lft (loadA T 38 v12)) (fun v13 =>
  fx (L27_0 call fx) [nth v1 1, v13, AV.int .i64 0, nth v1 3, nth v1 4, nth v1 5, nth v1 6, nth v1 7, nth v1 8, nth v1 9, nth v1 10, nth v1 11, nth v1 12, nth v1 13, nth v1 14]))))))))))) (bnd (lft (buildA T false 48 [])) (fun v30 =>
  bnd (cellsNil 12 [] v30) (fun v31 =>
  M.pure (AV.tup [AV.agg [nth (acells v31) 0, nth (acells v31) 1, nth (acells v31) 2, nth (acells v31) 3, nth (acells v31) 4, nth (acells v31) 5, nth (acells v31) 6, nth (acells v31) 7, nth (acells v31) 8, nth (acells v31) 9, nth (acells v31) 10, nth (acells v31) 11], AV.bool false]))))))
theorem XL27_0 {call : CC} : Cont1 (L27_0 call fixW ) fun _n => L27_0 call fixW  := by
  intro v14 v14s hself v15
  unfold L27_0
  exact (lb fun _ => (lb fun _ => (condM_lim (lb fun _ => (lb fun _ => (lb fun _ => (lb fun _ => (lb fun _ => (lb fun _ => (condM_lim (LimM.const _) (lb fun _ => (hself _))))))))) (LimM.const _))))
theorem FL27_0 (call : CC) (vs : List AV) : fixW (L27_0 call fixW ) vs = L27_0 call fixW  (fixW (L27_0 call fixW )) vs := fixW_eq (XL27_0 ) vs
theorem XL27_1 {call : CC} : Cont1 (L27_1 call fixW ) fun _n => L27_1 call fixW  := by
  intro v0 v0s hself v1
  unfold L27_1
  exact (lb fun _ => (lb fun _ => (condM_lim (lb fun _ => (lb fun _ => (lb fun _ => (lb fun _ => (lb fun _ => (lb fun _ => (condM_lim (lb fun _ => (hself _)) (LimM.const _)))))))) (LimM.const _))))
theorem FL27_1 (call : CC) (vs : List AV) : fixW (L27_1 call fixW ) vs = L27_1 call fixW  (fixW (L27_1 call fixW )) vs := fixW_eq (XL27_1 ) vs
noncomputable def S27 (call : CC) (fx : Fix AV) (a0 a1 : AV) : M AV :=
  fx (L27_1 call fx) [a0, AV.ip (acells a1), AV.int .i64 0, AV.str [], AV.bool false, AV.sl [], AV.int .i64 0, AV.sl [], AV.int .i64 0, AV.int .i64 0, AV.int .i64 0, AV.str [], AV.str [], AV.sl [], AV.sl []]
theorem E27 (call : CC) (fx : Fix AV) (a0 a1 : AV) : evBody (pg.cx call Try.f27.ntmps ann27) fx Try.f27 (own 27) [a0, a1] = S27 call fx a0 a1 := by kernel_rfl
theorem C27 (a0 a1 : AV) : callW pg 27 [a0, a1] = isoP (S27 (callW pg) fixW (cl noHs a0) (cl noHs a1)) := (callW_iso hOther rfl rfl rfl _).trans (congrArg isoP (E27 _ _ (cl noHs a0) (cl noHs a1)))
noncomputable def S28 (call : CC) (fx : Fix AV) (a0 a1 : AV) : M AV :=
  bnd newMapH (fun v0 =>
  bnd (cellsM 1 v0) (fun v1 =>
  bnd (lft (loadA T 56 (AV.ip (acells a0)))) (fun v2 =>
  bnd (lft (loadA T 24 (AV.ip (acells a1)))) (fun v3 =>
  bnd (lookH T 56 v2 v3 false) (fun v4 =>
  bnd (lft (fieldA T 48 v4 5)) (fun v5 =>
  bnd (call 34 [v5, AV.fn (Fn.func 41) [] [AV.ip (acells a1), AV.ip (acells a0), AV.ip (acells v1)]]) (fun v6 =>
  bnd (lft (loadA T 83 (AV.ip (acells v1)))) (fun v7 =>
  bnd (call 43 [v7]) (fun v8 =>
  bnd (call 30 [v8, AV.fn (Fn.func 32) [] []]) (fun v9 =>
  M.pure v9))))))))))
theorem E28 (call : CC) (fx : Fix AV) (a0 a1 : AV) : evBody (pg.cx call Try.f28.ntmps ann28) fx Try.f28 (own 28) [a0, a1] = S28 call fx a0 a1 := by kernel_rfl
theorem C28 (a0 a1 : AV) : callW pg 28 [a0, a1] = S28 (callW pg) fixW a0 a1 := (callW_heap hOther rfl rfl rfl _).trans (E28 _ _ a0 a1)
noncomputable def L29_0 (call : CC) (fx : Fix AV) (v1 : List AV → M AV) (v2 : List AV) : M AV :=
  bnd (lft (fieldAddrA T 46 (nth v2 3) 5)) (fun v3 =>
  bnd (lft (loadA T 37 v3)) (fun v4 =>
  bnd (lft (lenA T 37 v4)) (fun v5 =>
  bnd (lft (binA T .lss 3 (nth v2 4) v5)) (fun v6 =>
  condM v6 (bnd (lft (fieldAddrA T 46 (nth v2 3) 5)) (fun v7 =>
  bnd (lft (loadA T 37 v7)) (fun v8 =>
  bnd (lft (indexAddrA T 37 v8 (nth v2 4))) (fun v9 =>
  bnd (lft (loadA T 46 v9)) (fun v10 =>
  bnd (call 29 [nth v2 0, nth v2 1, v10, nth v2 2]) (fun v11 =>
  bnd (lft (binA T .add 3 (nth v2 4) (AV.int .i64 1))) (fun v12 =>
  v1 [nth v2 0, nth v2 1, v11, nth v2 3, v12]))))))) (M.pure (nth v2 2))))))
noncomputable def K29_0 (call : CC) (fx : Fix AV) (v0 : List AV) : M AV :=
  fx (L29_0 call fx) [nth v0 0, nth v0 1, nth v0 2, nth v0 3, AV.int .i64 0]
noncomputable def K29_1 (call : CC) (fx : Fix AV) (v13 : List AV → M AV) (v23 : List AV) : M AV :=
  bnd (call 27 [nth v23 0, AV.agg [nth v23 4, nth v23 5]]) (fun v24 =>
  bnd (lft (extractA v24 0)) (fun v25 =>
  bnd (lft (extractA v24 1)) (fun v26 =>
  bnd (cellsM 12 v25) (fun v27 =>
  bnd (guardM v26 true 1 (bnd (lft (fieldAddrA T 46 (nth v23 3) 3)) (fun v28 =>
  bnd (lft (loadA T 9 v28)) (fun v29 =>
  bnd (lft (binA T .eql 9 v29 (AV.str []))) (fun v30 =>
  M.pure [v30]))))) (fun v31 =>
  bnd (guardM (nth v31 0) false 1 (bnd (lft (fieldAddrA T 48 (AV.ip (acells v27)) 1)) (fun v32 =>
  bnd (lft (loadA T 4 v32)) (fun v33 =>
  M.pure [v33])))) (fun v34 =>
  bnd (guardM v26 true 1 (bnd (lft (pickA (nth v31 0) (AV.bool true) (nth v34 0))) (fun v35 =>
  M.pure [v35]))) (fun v36 =>
  bnd (lft (pickA v26 (nth v36 0) (AV.bool false))) (fun v37 =>
  condM v37 (bnd (call 33 [nth v23 2, AV.agg [nth v23 4, nth v23 5]]) (fun v38 =>
  v13 [nth v23 0, nth v23 1, v38, nth v23 3])) (v13 [nth v23 0, nth v23 1, nth v23 2, nth v23 3])))))))))
theorem XL29_0 {call : CC} : Cont1 (L29_0 call fixW ) fun _n => L29_0 call fixW  := by
  intro v1 v1s hself v2
  unfold L29_0
  exact (lb fun _ => (lb fun _ => (lb fun _ => (lb fun _ => (condM_lim (lb fun _ => (lb fun _ => (lb fun _ => (lb fun _ => (lb fun _ => (lb fun _ => (hself _))))))) (LimM.const _))))))
theorem FL29_0 (call : CC) (vs : List AV) : fixW (L29_0 call fixW ) vs = L29_0 call fixW  (fixW (L29_0 call fixW )) vs := fixW_eq (XL29_0 ) vs
noncomputable def S29 (call : CC) (fx : Fix AV) (a0 a1 a2 a3 : AV) : M AV :=
  jn (K29_0 call fx) (fun v13 =>
  bnd (lft (fieldAddrA T 46 (AV.ip (acells a2)) 0)) (fun v14 =>
  bnd (lft (loadA T 3 v14)) (fun v15 =>
  bnd (lft (binA T .eql 3 v15 (AV.int .i64 15))) (fun v16 =>
  condM v16 (bnd (lft (fieldAddrA T 46 (AV.ip (acells a2)) 3)) (fun v17 =>
  bnd (lft (loadA T 9 v17)) (fun v18 =>
  bnd (lft (fieldAddrA T 46 (AV.ip (acells a2)) 2)) (fun v19 =>
  bnd (lft (loadA T 9 v19)) (fun v20 =>
  bnd (lft (buildA T false 24 [(0, v18), (1, v20)])) (fun v21 =>
  bnd (cellsNil 2 [] v21) (fun v22 =>
  jn (K29_1 call fx v13) (fun v39 =>
  bnd (lft (fieldAddrA T 46 (AV.ip (acells a2)) 3)) (fun v40 =>
  bnd (lft (loadA T 9 v40)) (fun v41 =>
  bnd (lft (binA T .eql 9 v41 (AV.str []))) (fun v42 =>
  condM v42 (bnd (cell1M a1) (fun v43 =>
  v39 [a0, a1, a3, AV.ip (acells a2), a1, nth (acells v22) 1])) (v39 [a0, a1, a3, AV.ip (acells a2), nth (acells v22) 0, nth (acells v22) 1])))))))))))) (v13 [a0, a1, a3, AV.ip (acells a2)])))))
theorem E29 (call : CC) (fx : Fix AV) (a0 a1 a2 a3 : AV) : evBody (pg.cx call Try.f29.ntmps ann29) fx Try.f29 (own 29) [a0, a1, a2, a3] = S29 call fx a0 a1 a2 a3 := by kernel_rfl
theorem C29 (a0 a1 a2 a3 : AV) : callW pg 29 [a0, a1, a2, a3] = isoP (S29 (callW pg) fixW (cl noHs a0) (cl noHs a1) (cl noHs a2) (cl noHs a3)) := (callW_iso hOther rfl rfl rfl _).trans (congrArg isoP (E29 _ _ (cl noHs a0) (cl noHs a1) (cl noHs a2) (cl noHs a3)))
noncomputable def S31 (call : CC) (fx : Fix AV) (a0 : AV) : M AV :=
  M.pure (AV.fn (Fn.func 45) [] [AV.ip (acells a0)])
theorem E31 (call : CC) (fx : Fix AV) (a0 : AV) : evBody (pg.cx call Try.f31.ntmps ann31) fx Try.f31 (own 31) [a0] = S31 call fx a0 := by kernel_rfl
theorem C31 (a0 : AV) : callW pg 31 [a0] = S31 (callW pg) fixW a0 := (callW_heap hOther rfl rfl rfl _).trans (E31 _ _ a0)
noncomputable def S32 (call : CC) (fx : Fix AV) (a0 a1 : AV) : M AV :=
  bnd (lft (fieldAddrA T 24 (AV.ip (acells a0)) 0)) (fun v0 =>
  bnd (lft (loadA T 9 v0)) (fun v1 =>
  bnd (lft (fieldAddrA T 24 (AV.ip (acells a1)) 0)) (fun v2 =>
  bnd (lft (loadA T 9 v2)) (fun v3 =>
  bnd (noPan (call 47 [v1, v3])) (fun v4 =>
  bnd (lft (fieldAddrA T 24 (AV.ip (acells a0)) 1)) (fun v5 =>
  bnd (lft (loadA T 9 v5)) (fun v6 =>
  bnd (lft (fieldAddrA T 24 (AV.ip (acells a1)) 1)) (fun v7 =>
  bnd (lft (loadA T 9 v7)) (fun v8 =>
  bnd (noPan (call 47 [v6, v8])) (fun v9 =>
  bnd (lft (buildSliceA T 96 2 [(0, v4), (1, v9)])) (fun v10 =>
  bnd (noPan (call 46 [v10])) (fun v11 =>
  M.pure v11))))))))))))
theorem E32 (call : CC) (fx : Fix AV) (a0 a1 : AV) : evBody (pg.cx call Try.f32.ntmps ann32) fx Try.f32 (own 32) [a0, a1] = S32 call fx a0 a1 := by kernel_rfl
theorem C32 (a0 a1 : AV) : callW pg 32 [a0, a1] = isoP (S32 (callW pg) fixW (cl noHs a0) (cl noHs a1)) := (callW_iso hOther rfl rfl rfl _).trans (congrArg isoP (E32 _ _ (cl noHs a0) (cl noHs a1)))
noncomputable def K33_0 (call : CC) (fx : Fix AV) (v18 : List AV) : M AV :=
  bnd (lft (sliceA T 27 (nth v18 0) (some (nth v18 2)) none none)) (fun v19 =>
  bnd (lft (appA T 27 (nth v18 1) v19)) (fun v20 =>
  M.pure v20))
noncomputable def L33_0 (call : CC) (fx : Fix AV) (v0 : List AV → M AV) (v1 : List AV) : M AV :=
  bnd (lft (lenA T 27 (nth v1 0))) (fun v2 =>
  bnd (lft (binA T .lss 3 (nth v1 3) v2)) (fun v3 =>
  bnd (guardM v3 true 1 (bnd (lft (indexAddrA T 27 (nth v1 0) (nth v1 3))) (fun v4 =>
  bnd (lft (loadA T 24 v4)) (fun v5 =>
  bnd (lft (loadA T 24 (nth v1 1))) (fun v6 =>
  bnd (noPan (call 48 [v5, v6])) (fun v7 =>
  M.pure [v7])))))) (fun v8 =>
  bnd (lft (pickA v3 (nth v8 0) (AV.bool false))) (fun v9 =>
  condM v9 (bnd (lft (indexAddrA T 27 (nth v1 0) (nth v1 3))) (fun v10 =>
  bnd (lft (loadA T 24 v10)) (fun v11 =>
  bnd (lft (buildSliceA T 27 1 [(0, v11)])) (fun v12 =>
  bnd (lft (appA T 27 (nth v1 2) v12)) (fun v13 =>
  bnd (lft (binA T .add 3 (nth v1 3) (AV.int .i64 1))) (fun v14 =>
  v0 [nth v1 0, nth v1 1, v13, v14])))))) (bnd (lft (loadA T 24 (nth v1 1))) (fun v15 =>
  bnd (lft (buildSliceA T 27 1 [(0, v15)])) (fun v16 =>
  bnd (lft (appA T 27 (nth v1 2) v16)) (fun v17 =>
  jn (K33_0 call fx) (fun v21 =>
  bnd (lft (lenA T 27 (nth v1 0))) (fun v22 =>
  bnd (lft (binA T .lss 3 (nth v1 3) v22)) (fun v23 =>
  bnd (guardM v23 true 1 (bnd (lft (indexAddrA T 27 (nth v1 0) (nth v1 3))) (fun v24 =>
  bnd (lft (loadA T 24 v24)) (fun v25 =>
  bnd (lft (loadA T 24 (nth v1 1))) (fun v26 =>
  bnd (lft (binA T .eql 24 v25 v26)) (fun v27 =>
  M.pure [v27])))))) (fun v28 =>
  bnd (lft (pickA v23 (nth v28 0) (AV.bool false))) (fun v29 =>
  condM v29 (bnd (lft (binA T .add 3 (nth v1 3) (AV.int .i64 1))) (fun v30 =>
  v21 [nth v1 0, v17, v30])) (v21 [nth v1 0, v17, nth v1 3]))))))))))))))
theorem XL33_0 {call : CC} : Cont1 (L33_0 call fixW ) fun _n => L33_0 call fixW  := by
  intro v0 v0s hself v1
  unfold L33_0
  exact (lb fun _ => (lb fun _ => (lb fun _ => (lb fun _ => (condM_lim (lb fun _ => (lb fun _ => (lb fun _ => (lb fun _ => (lb fun _ => (hself _)))))) (LimM.const _))))))
theorem FL33_0 (call : CC) (vs : List AV) : fixW (L33_0 call fixW ) vs = L33_0 call fixW  (fixW (L33_0 call fixW )) vs := fixW_eq (XL33_0 ) vs
noncomputable def S33 (call : CC) (fx : Fix AV) (a0 a1 : AV) : M AV :=
  fx (L33_0 call fx) [a0, AV.ip (acells a1), AV.sl [], AV.int .i64 0]
theorem E33 (call : CC) (fx : Fix AV) (a0 a1 : AV) : evBody (pg.cx call Try.f33.ntmps ann33) fx Try.f33 (own 33) [a0, a1] = S33 call fx a0 a1 := by kernel_rfl
theorem C33 (a0 a1 : AV) : callW pg 33 [a0, a1] = isoP (S33 (callW pg) fixW (cl noHs a0) (cl noHs a1)) := (callW_iso hOther rfl rfl rfl _).trans (congrArg isoP (E33 _ _ (cl noHs a0) (cl noHs a1)))
noncomputable def L34_0 (call : CC) (fx : Fix AV) (v5 : List AV → M AV) (v6 : List AV) : M AV :=
  bnd (lft (binA T .lss 3 (nth v6 3) (nth v6 2))) (fun v7 =>
  condM v7 (bnd (lft (indexAddrA T 37 (nth v6 1) (nth v6 3))) (fun v8 =>
  bnd (lft (loadA T 46 v8)) (fun v9 =>
  bnd (cellsM 6 v9) (fun v10 =>
  bnd (lft (loadA T 46 (AV.ip (acells v10)))) (fun v11 =>
  bnd (call 34 [v11, nth v6 0]) (fun v12 =>
  bnd (lft (binA T .add 3 (nth v6 3) (AV.int .i64 1))) (fun v13 =>
  v5 [nth v6 0, nth v6 1, nth v6 2, v13]))))))) (M.pure (AV.tup [])))
theorem XL34_0 {call : CC} : Cont1 (L34_0 call fixW ) fun _n => L34_0 call fixW  := by
  intro v5 v5s hself v6
  unfold L34_0
  exact (lb fun _ => (condM_lim (lb fun _ => (lb fun _ => (lb fun _ => (lb fun _ => (lb fun _ => (lb fun _ => (hself _))))))) (LimM.const _)))
theorem FL34_0 (call : CC) (vs : List AV) : fixW (L34_0 call fixW ) vs = L34_0 call fixW  (fixW (L34_0 call fixW )) vs := fixW_eq (XL34_0 ) vs
noncomputable def S34 (call : CC) (fx : Fix AV) (a0 a1 : AV) : M AV :=
  bnd (lft (loadA T 46 (AV.ip (acells a0)))) (fun v0 =>
  bnd (callV call a1 [v0]) (fun v1 =>
  bnd (lft (fieldAddrA T 46 (AV.ip (acells a0)) 5)) (fun v2 =>
  bnd (lft (loadA T 37 v2)) (fun v3 =>
  bnd (lft (lenA T 37 v3)) (fun v4 =>
  fx (L34_0 call fx) [a1, v3, v4, AV.int .i64 0])))))
theorem E34 (call : CC) (fx : Fix AV) (a0 a1 : AV) : evBody (pg.cx call Try.f34.ntmps ann34) fx Try.f34 (own 34) [a0, a1] = S34 call fx a0 a1 := by kernel_rfl
theorem C34 (a0 a1 : AV) : callW pg 34 [a0, a1] = S34 (callW pg) fixW a0 a1 := (callW_heap hOther rfl rfl rfl _).trans (E34 _ _ a0 a1)
noncomputable def S35 (call : CC) (fx : Fix AV) (a0 a1 : AV) : M AV :=
  bnd (lft (fieldAddrA T 46 (AV.ip (acells a0)) 0)) (fun v0 =>
  bnd (lft (loadA T 3 v0)) (fun v1 =>
  bnd (lft (binA T .eql 3 v1 (AV.int .i64 16))) (fun v2 =>
  condM v2 (bnd (loadH T 3 a1) (fun v3 =>
  bnd (lft (fieldAddrA T 46 (AV.ip (acells a0)) 1)) (fun v4 =>
  bnd (lft (loadA T 3 v4)) (fun v5 =>
  bnd (lft (binA T .and 3 v5 (AV.int .i64 15))) (fun v6 =>
  bnd (lft (binA T .or 3 v3 v6)) (fun v7 =>
  bnd (storeH T 3 a1 v7) (fun v8 =>
  M.pure (AV.tup [])))))))) (M.pure (AV.tup [])))))
theorem E35 (call : CC) (fx : Fix AV) (a0 a1 : AV) : evBody (pg.cx call Try.f35.ntmps ann35) fx Try.f35 (own 35) [a0, a1] = S35 call fx a0 a1 := by kernel_rfl
theorem C35 (a0 a1 : AV) : callW pg 35 [a0, a1] = S35 (callW pg) fixW a0 a1 := (callW_heap hOther rfl rfl rfl _).trans (E35 _ _ a0 a1)
noncomputable def L36_0 (call : CC) (fx : Fix AV) (v1 : List AV → M AV) (v2 : List AV) : M AV :=
  bnd (lft (fieldAddrA T 46 (nth v2 0) 5)) (fun v3 =>
  bnd (lft (loadA T 37 v3)) (fun v4 =>
  bnd (lft (lenA T 37 v4)) (fun v5 =>
  bnd (lft (binA T .lss 3 (nth v2 2) v5)) (fun v6 =>
  condM v6 (bnd (lft (fieldAddrA T 46 (nth v2 0) 5)) (fun v7 =>
  bnd (lft (loadA T 37 v7)) (fun v8 =>
  bnd (lft (indexAddrA T 37 v8 (nth v2 2))) (fun v9 =>
  bnd (lft (loadA T 46 v9)) (fun v10 =>
  bnd (call 36 [v10]) (fun v11 =>
  bnd (lft (binA T .or 3 (nth v2 1) v11)) (fun v12 =>
  bnd (lft (binA T .add 3 (nth v2 2) (AV.int .i64 1))) (fun v13 =>
  v1 [nth v2 0, v12, v13])))))))) (M.pure (nth v2 1))))))
noncomputable def K36_0 (call : CC) (fx : Fix AV) (v0 : List AV) : M AV :=
  fx (L36_0 call fx) [nth v0 0, nth v0 1, AV.int .i64 0]
theorem XL36_0 {call : CC} : Cont1 (L36_0 call fixW ) fun _n => L36_0 call fixW  := by
  intro v1 v1s hself v2
  unfold L36_0
  exact (lb fun _ => (lb fun _ => (lb fun _ => (lb fun _ => (condM_lim (lb fun _ => (lb fun _ => (lb fun _ => (lb fun _ => (lb fun _ => (lb fun _ => (lb fun _ => (hself _)))))))) (LimM.const _))))))
theorem FL36_0 (call : CC) (vs : List AV) : fixW (L36_0 call fixW ) vs = L36_0 call fixW  (fixW (L36_0 call fixW )) vs := fixW_eq (XL36_0 ) vs
noncomputable def S36 (call : CC) (fx : Fix AV) (a0 : AV) : M AV :=
  jn (K36_0 call fx) (fun v14 =>
  bnd (lft (fieldAddrA T 46 (AV.ip (acells a0)) 0)) (fun v15 =>
  bnd (lft (loadA T 3 v15)) (fun v16 =>
  bnd (lft (binA T .eql 3 v16 (AV.int .i64 16))) (fun v17 =>
  condM v17 (bnd (lft (fieldAddrA T 46 (AV.ip (acells a0)) 1)) (fun v18 =>
  bnd (lft (loadA T 3 v18)) (fun v19 =>
  bnd (lft (binA T .and 3 v19 (AV.int .i64 15))) (fun v20 =>
  v14 [AV.ip (acells a0), v20])))) (v14 [AV.ip (acells a0), AV.int .i64 0])))))
theorem E36 (call : CC) (fx : Fix AV) (a0 : AV) : evBody (pg.cx call Try.f36.ntmps ann36) fx Try.f36 (own 36) [a0] = S36 call fx a0 := by kernel_rfl
theorem C36 (a0 : AV) : callW pg 36 [a0] = isoP (S36 (callW pg) fixW (cl noHs a0)) := (callW_iso hOther rfl rfl rfl _).trans (congrArg isoP (E36 _ _ (cl noHs a0)))
noncomputable def S38 (call : CC) (fx : Fix AV) (a0 a1 : AV) : M AV :=
  bnd (lft (buildA T false 46 [(0, AV.int .i64 15), (3, a0), (2, a1)])) (fun v0 =>
  bnd (cellsNil 6 [] v0) (fun v1 =>
  M.pure (AV.agg [nth (acells v1) 0, nth (acells v1) 1, nth (acells v1) 2, nth (acells v1) 3, nth (acells v1) 4, nth (acells v1) 5])))
theorem E38 (call : CC) (fx : Fix AV) (a0 a1 : AV) : evBody (pg.cx call Try.f38.ntmps ann38) fx Try.f38 (own 38) [a0, a1] = S38 call fx a0 a1 := by kernel_rfl
theorem C38 (a0 a1 : AV) : callW pg 38 [a0, a1] = isoP (S38 (callW pg) fixW (cl noHs a0) (cl noHs a1)) := (callW_iso hOther rfl rfl rfl _).trans (congrArg isoP (E38 _ _ (cl noHs a0) (cl noHs a1)))
noncomputable def L39_0 (call : CC) (fx : Fix AV) (v8 : List AV → M AV) (v9 : List AV) : M AV :=
  bnd (lft (fieldAddrA T 46 (nth v9 2) 5)) (fun v10 =>
  bnd (lft (loadA T 37 v10)) (fun v11 =>
  bnd (lft (lenA T 37 v11)) (fun v12 =>
  bnd (lft (binA T .lss 3 (nth v9 4) v12)) (fun v13 =>
  bnd (guardM v13 true 1 (bnd (lft (binA T .leq 3 (nth v9 3) (nth v9 0))) (fun v14 =>
  M.pure [v14]))) (fun v15 =>
  bnd (lft (pickA v13 (nth v15 0) (AV.bool false))) (fun v16 =>
  condM v16 (bnd (lft (fieldAddrA T 46 (nth v9 2) 5)) (fun v17 =>
  bnd (lft (loadA T 37 v17)) (fun v18 =>
  bnd (lft (indexAddrA T 37 v18 (nth v9 4))) (fun v19 =>
  bnd (lft (loadA T 46 v19)) (fun v20 =>
  bnd (lft (binA T .sub 3 (nth v9 0) (nth v9 3))) (fun v21 =>
  bnd (lft (binA T .sub 3 (nth v9 1) (AV.int .i64 1))) (fun v22 =>
  bnd (call 39 [v20, v21, v22]) (fun v23 =>
  bnd (lft (binA T .add 3 (nth v9 3) v23)) (fun v24 =>
  bnd (lft (binA T .add 3 (nth v9 4) (AV.int .i64 1))) (fun v25 =>
  v8 [nth v9 0, nth v9 1, nth v9 2, v24, v25])))))))))) (M.pure (nth v9 3))))))))
theorem XL39_0 {call : CC} : Cont1 (L39_0 call fixW ) fun _n => L39_0 call fixW  := by
  intro v8 v8s hself v9
  unfold L39_0
  exact (lb fun _ => (lb fun _ => (lb fun _ => (lb fun _ => (lb fun _ => (lb fun _ => (condM_lim (lb fun _ => (lb fun _ => (lb fun _ => (lb fun _ => (lb fun _ => (lb fun _ => (lb fun _ => (lb fun _ => (lb fun _ => (hself _)))))))))) (LimM.const _))))))))
theorem FL39_0 (call : CC) (vs : List AV) : fixW (L39_0 call fixW ) vs = L39_0 call fixW  (fixW (L39_0 call fixW )) vs := fixW_eq (XL39_0 ) vs
noncomputable def S39 (call : CC) (fx : Fix AV) (a0 a1 a2 : AV) : M AV :=
  bnd (lft (binA T .lss 3 a2 (AV.int .i64 1))) (fun v0 =>
  bnd (guardM v0 false 1 (bnd (lft (fieldAddrA T 46 (AV.ip (acells a0)) 4)) (fun v1 =>
  bnd (lft (loadA T 35 v1)) (fun v2 =>
  bnd (lft (lenA T 35 v2)) (fun v3 =>
  bnd (lft (binA T .gtr 3 v3 (AV.int .i64 12))) (fun v4 =>
  M.pure [v4])))))) (fun v5 =>
  bnd (lft (pickA v0 (AV.bool true) (nth v5 0))) (fun v6 =>
  condM v6 (bnd (lft (binA T .add 3 a1 (AV.int .i64 1))) (fun v7 =>
  M.pure v7)) (fx (L39_0 call fx) [a1, a2, AV.ip (acells a0), AV.int .i64 1, AV.int .i64 0]))))
theorem E39 (call : CC) (fx : Fix AV) (a0 a1 a2 : AV) : evBody (pg.cx call Try.f39.ntmps ann39) fx Try.f39 (own 39) [a0, a1, a2] = S39 call fx a0 a1 a2 := by kernel_rfl
theorem C39 (a0 a1 a2 : AV) : callW pg 39 [a0, a1, a2] = isoP (S39 (callW pg) fixW (cl noHs a0) (cl noHs a1) (cl noHs a2)) := (callW_iso hOther rfl rfl rfl _).trans (congrArg isoP (E39 _ _ (cl noHs a0) (cl noHs a1) (cl noHs a2)))
noncomputable def S41 (call : CC) (fx : Fix AV) (a0 a1 a2 a3 : AV) : M AV :=
  bnd (lft (fieldAddrA T 46 (AV.ip (acells a0)) 3)) (fun v0 =>
  bnd (lft (loadA T 9 v0)) (fun v1 =>
  bnd (lft (fieldAddrA T 24 a1 0)) (fun v2 =>
  bnd (lft (loadA T 9 v2)) (fun v3 =>
  bnd (lft (buildSliceA T 35 2 [(0, v1), (1, v3)])) (fun v4 =>
  bnd (noPan (call 42 [v4])) (fun v5 =>
  bnd (lft (fieldAddrA T 46 (AV.ip (acells a0)) 2)) (fun v6 =>
  bnd (lft (loadA T 9 v6)) (fun v7 =>
  bnd (lft (buildA T false 24 [(0, v5), (1, v7)])) (fun v8 =>
  bnd (cellsM 2 v8) (fun v9 =>
  bnd (lft (loadA T 56 a2)) (fun v10 =>
  bnd (lft (loadA T 24 (AV.ip (acells v9)))) (fun v11 =>
  bnd (lookH T 56 v10 v11 true) (fun v12 =>
  bnd (lft (extractA v12 0)) (fun v13 =>
  bnd (lft (extractA v12 1)) (fun v14 =>
  bnd (cellsM 12 v13) (fun v15 =>
  bnd (lft (fieldAddrA T 46 (AV.ip (acells a0)) 0)) (fun v16 =>
  bnd (lft (loadA T 3 v16)) (fun v17 =>
  bnd (lft (binA T .eql 3 v17 (AV.int .i64 15))) (fun v18 =>
  bnd (guardM v18 true 1 (M.pure [v14])) (fun v19 =>
  bnd (lft (pickA v18 (nth v19 0) (AV.bool false))) (fun v20 =>
  bnd (guardM v20 true 1 (bnd (lft (fieldAddrA T 46 (AV.ip (acells a0)) 3)) (fun v21 =>
  bnd (lft (loadA T 9 v21)) (fun v22 =>
  bnd (lft (binA T .eql 9 v22 (AV.str []))) (fun v23 =>
  M.pure [v23]))))) (fun v24 =>
  bnd (guardM (nth v24 0) false 1 (bnd (lft (fieldAddrA T 48 (AV.ip (acells v15)) 1)) (fun v25 =>
  bnd (lft (loadA T 4 v25)) (fun v26 =>
  M.pure [v26])))) (fun v27 =>
  bnd (guardM v20 true 1 (bnd (lft (pickA (nth v24 0) (AV.bool true) (nth v27 0))) (fun v28 =>
  M.pure [v28]))) (fun v29 =>
  bnd (lft (pickA v20 (nth v29 0) (AV.bool false))) (fun v30 =>
  condM v30 (bnd (lft (loadA T 83 a3)) (fun v31 =>
  bnd (lft (loadA T 24 (AV.ip (acells v9)))) (fun v32 =>
  bnd (putH T 83 v31 v32 (AV.bool true)) (fun v33 =>
  M.pure (AV.tup []))))) (M.pure (AV.tup [])))))))))))))))))))))))))))
theorem E41 (call : CC) (fx : Fix AV) (a0 a1 a2 a3 : AV) : evBody (pg.cx call Try.f41.ntmps ann41) fx Try.f41 (own 41) [a0, a1, a2, a3] = S41 call fx a0 a1 a2 a3 := by kernel_rfl
theorem C41 (a0 a1 a2 a3 : AV) : callW pg 41 [a0, a1, a2, a3] = S41 (callW pg) fixW a0 a1 a2 a3 := (callW_heap hOther rfl rfl rfl _).trans (E41 _ _ a0 a1 a2 a3)
noncomputable def L42_0 (call : CC) (fx : Fix AV) (v1 : List AV → M AV) (v2 : List AV) : M AV :=
  bnd (lft (binA T .lss 3 (nth v2 3) (nth v2 2))) (fun v3 =>
  condM v3 (bnd (lft (indexAddrA T 35 (nth v2 1) (nth v2 3))) (fun v4 =>
  bnd (lft (loadA T 9 v4)) (fun v5 =>
  bnd (lft (binA T .neq 9 v5 (nth v2 0))) (fun v6 =>
  condM v6 (M.pure v5) (bnd (lft (binA T .add 3 (nth v2 3) (AV.int .i64 1))) (fun v7 =>
  v1 [nth v2 0, nth v2 1, nth v2 2, v7])))))) (M.pure (nth v2 0)))
theorem XL42_0 {call : CC} : Cont1 (L42_0 call fixW ) fun _n => L42_0 call fixW  := by
  intro v1 v1s hself v2
  unfold L42_0
  exact (lb fun _ => (condM_lim (lb fun _ => (lb fun _ => (lb fun _ => (condM_lim (LimM.const _) (lb fun _ => (hself _)))))) (LimM.const _)))
theorem FL42_0 (call : CC) (vs : List AV) : fixW (L42_0 call fixW ) vs = L42_0 call fixW  (fixW (L42_0 call fixW )) vs := fixW_eq (XL42_0 ) vs
noncomputable def S42 (call : CC) (fx : Fix AV) (a0 : AV) : M AV :=
  bnd (lft (lenA T 35 a0)) (fun v0 =>
  fx (L42_0 call fx) [AV.str [], a0, v0, AV.int .i64 0])
theorem E42 (call : CC) (fx : Fix AV) (a0 : AV) : evBody (pg.cx call Try.f42.ntmps ann42) fx Try.f42 (own 42) [a0] = S42 call fx a0 := by kernel_rfl
theorem C42 (a0 : AV) : callW pg 42 [a0] = isoP (S42 (callW pg) fixW (cl noHs a0)) := (callW_iso hOther rfl rfl rfl _).trans (congrArg isoP (E42 _ _ (cl noHs a0)))
noncomputable def S43 (call : CC) (fx : Fix AV) (a0 : AV) : M AV :=
  M.pure (AV.fn (Fn.func 52) [] [AV.ip (acells a0)])
theorem E43 (call : CC) (fx : Fix AV) (a0 : AV) : evBody (pg.cx call Try.f43.ntmps ann43) fx Try.f43 (own 43) [a0] = S43 call fx a0 := by kernel_rfl
theorem C43 (a0 : AV) : callW pg 43 [a0] = S43 (callW pg) fixW a0 := (callW_heap hOther rfl rfl rfl _).trans (E43 _ _ a0)
noncomputable def L46_0 (call : CC) (fx : Fix AV) (v1 : List AV → M AV) (v2 : List AV) : M AV :=
  bnd (lft (binA T .lss 3 (nth v2 3) (nth v2 2))) (fun v3 =>
  condM v3 (bnd (lft (indexAddrA T 96 (nth v2 1) (nth v2 3))) (fun v4 =>
  bnd (lft (loadA T 3 v4)) (fun v5 =>
  bnd (lft (binA T .neq 3 v5 (nth v2 0))) (fun v6 =>
  condM v6 (M.pure v5) (bnd (lft (binA T .add 3 (nth v2 3) (AV.int .i64 1))) (fun v7 =>
  v1 [nth v2 0, nth v2 1, nth v2 2, v7])))))) (M.pure (nth v2 0)))
theorem XL46_0 {call : CC} : Cont1 (L46_0 call fixW ) fun _n => L46_0 call fixW  := by
  intro v1 v1s hself v2
  unfold L46_0
  exact (lb fun _ => (condM_lim (lb fun _ => (lb fun _ => (lb fun _ => (condM_lim (LimM.const _) (lb fun _ => (hself _)))))) (LimM.const _)))
theorem FL46_0 (call : CC) (vs : List AV) : fixW (L46_0 call fixW ) vs = L46_0 call fixW  (fixW (L46_0 call fixW )) vs := fixW_eq (XL46_0 ) vs
noncomputable def S46 (call : CC) (fx : Fix AV) (a0 : AV) : M AV :=
  bnd (lft (lenA T 96 a0)) (fun v0 =>
  fx (L46_0 call fx) [AV.int .i64 0, a0, v0, AV.int .i64 0])
theorem E46 (call : CC) (fx : Fix AV) (a0 : AV) : evBody (pg.cx call Try.f46.ntmps ann46) fx Try.f46 (own 46) [a0] = S46 call fx a0 := by kernel_rfl
theorem C46 (a0 : AV) : callW pg 46 [a0] = isoP (S46 (callW pg) fixW (cl noHs a0)) := (callW_iso hOther rfl rfl rfl _).trans (congrArg isoP (E46 _ _ (cl noHs a0)))
noncomputable def S47 (call : CC) (fx : Fix AV) (a0 a1 : AV) : M AV :=
  bnd (call 54 [a0]) (fun v0 =>
  bnd (call 54 [a1]) (fun v1 =>
  condM v0 (condM v1 (M.pure (AV.int .i64 0)) (M.pure (AV.int .i64 (-1)))) (condM v1 (M.pure (AV.int .i64 1)) (bnd (lft (binA T .lss 9 a0 a1)) (fun v2 =>
  condM v2 (M.pure (AV.int .i64 (-1))) (bnd (lft (binA T .gtr 9 a0 a1)) (fun v3 =>
  condM v3 (M.pure (AV.int .i64 1)) (M.pure (AV.int .i64 0)))))))))
theorem E47 (call : CC) (fx : Fix AV) (a0 a1 : AV) : evBody (pg.cx call Try.f47.ntmps ann47) fx Try.f47 (own 47) [a0, a1] = S47 call fx a0 a1 := by kernel_rfl
theorem C47 (a0 a1 : AV) : callW pg 47 [a0, a1] = isoP (S47 (callW pg) fixW (cl noHs a0) (cl noHs a1)) := (callW_iso hOther rfl rfl rfl _).trans (congrArg isoP (E47 _ _ (cl noHs a0) (cl noHs a1)))
noncomputable def S48 (call : CC) (fx : Fix AV) (a0 a1 : AV) : M AV :=
  bnd (lft (fieldAddrA T 24 (AV.ip (acells a0)) 0)) (fun v0 =>
  bnd (lft (loadA T 9 v0)) (fun v1 =>
  bnd (lft (fieldAddrA T 24 (AV.ip (acells a1)) 0)) (fun v2 =>
  bnd (lft (loadA T 9 v2)) (fun v3 =>
  bnd (lft (binA T .lss 9 v1 v3)) (fun v4 =>
  bnd (guardM v4 false 1 (bnd (lft (fieldAddrA T 24 (AV.ip (acells a0)) 0)) (fun v5 =>
  bnd (lft (loadA T 9 v5)) (fun v6 =>
  bnd (lft (fieldAddrA T 24 (AV.ip (acells a1)) 0)) (fun v7 =>
  bnd (lft (loadA T 9 v7)) (fun v8 =>
  bnd (lft (binA T .eql 9 v6 v8)) (fun v9 =>
  M.pure [v9]))))))) (fun v10 =>
  bnd (guardM (nth v10 0) true 1 (bnd (lft (fieldAddrA T 24 (AV.ip (acells a0)) 1)) (fun v11 =>
  bnd (lft (loadA T 9 v11)) (fun v12 =>
  bnd (lft (fieldAddrA T 24 (AV.ip (acells a1)) 1)) (fun v13 =>
  bnd (lft (loadA T 9 v13)) (fun v14 =>
  bnd (lft (binA T .lss 9 v12 v14)) (fun v15 =>
  M.pure [v15]))))))) (fun v16 =>
  bnd (guardM v4 false 1 (bnd (lft (pickA (nth v10 0) (nth v16 0) (AV.bool false))) (fun v17 =>
  M.pure [v17]))) (fun v18 =>
  bnd (lft (pickA v4 (AV.bool true) (nth v18 0))) (fun v19 =>
  M.pure v19)))))))))
theorem E48 (call : CC) (fx : Fix AV) (a0 a1 : AV) : evBody (pg.cx call Try.f48.ntmps ann48) fx Try.f48 (own 48) [a0, a1] = S48 call fx a0 a1 := by kernel_rfl
theorem C48 (a0 a1 : AV) : callW pg 48 [a0, a1] = isoP (S48 (callW pg) fixW (cl noHs a0) (cl noHs a1)) := (callW_iso hOther rfl rfl rfl _).trans (congrArg isoP (E48 _ _ (cl noHs a0) (cl noHs a1)))
noncomputable def S54 (call : CC) (fx : Fix AV) (a0 : AV) : M AV :=
  bnd (lft (binA T .neq 9 a0 a0)) (fun v0 =>
  M.pure v0)
theorem E54 (call : CC) (fx : Fix AV) (a0 : AV) : evBody (pg.cx call Try.f54.ntmps ann54) fx Try.f54 (own 54) [a0] = S54 call fx a0 := by kernel_rfl
theorem C54 (a0 : AV) : callW pg 54 [a0] = isoP (S54 (callW pg) fixW (cl noHs a0)) := (callW_iso hOther rfl rfl rfl _).trans (congrArg isoP (E54 _ _ (cl noHs a0)))
end Go.Proofs.Ytpnonheegflllaa
