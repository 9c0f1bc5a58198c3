/- What the functions of the seat compute, part 2: the texts of the claim, one behind the other. Conditions: bounds, as each theorem names them. -/
import Derived.Test.YtgbopmciiadmlaaTa
import Derived.Test.YtgbopmciiadmlaaLc

namespace Go.Proofs.Ytgbopmciiadmlaa
open Go Go.Av
set_option maxRecDepth 100000
noncomputable def L3_0 (call : CC) (_fx : Fix AV) (v50 : List AV → M AV) (v51 : List AV) : M AV :=
 bnd (lft (lenA T 23 (nth v51 0))) fun v52 =>
 bnd (lft (binA T .lss 3 (nth v51 6) v52)) fun v53 =>
 condM v53 (bnd (lft (indexAddrA T 23 (nth v51 0) (nth v51 6))) fun v54 =>
 bnd (lft (loadA T 39 v54)) fun v55 =>
 bnd (noPan (call 21 [v55])) fun v56 =>
 bnd (lft (indexAddrA T 23 (nth v51 0) (nth v51 6))) fun v57 =>
 bnd (lft (loadA T 39 v57)) fun v58 =>
 bnd (noPan (call 22 [v58])) fun v59 =>
 bnd (lft (binA T .neq 4 v56 v59)) fun v60 =>
 bnd (guardM v60 false 1 (bnd (lft (indexAddrA T 23 (nth v51 0) (AV.int .i64 0))) fun v61 =>
 bnd (lft (loadA T 39 v61)) fun v62 =>
 bnd (lft (indexAddrA T 23 (nth v51 0) (nth v51 6))) fun v63 =>
 bnd (lft (loadA T 39 v63)) fun v64 =>
 bnd (noPan (call 23 [v62, v64])) fun v65 =>
 bnd (lft (indexAddrA T 23 (nth v51 0) (AV.int .i64 0))) fun v66 =>
 bnd (lft (loadA T 39 v66)) fun v67 =>
 bnd (lft (indexAddrA T 23 (nth v51 0) (nth v51 6))) fun v68 =>
 bnd (lft (loadA T 39 v68)) fun v69 =>
 bnd (noPan (call 24 [v67, v69])) fun v70 =>
 bnd (lft (binA T .neq 4 v65 v70)) fun v71 =>
 M.pure [v71])) fun v72 =>
 bnd (lft (pickA v60 (AV.bool true) (nth v72 0))) fun v73 =>
 condM v73 (M.pure (AV.bool false)) (bnd (lft (binA T .add 3 (nth v51 6) (AV.int .i64 1))) fun v74 =>
 v50 [nth v51 0, nth v51 1, nth v51 2, nth v51 3, nth v51 4, nth v51 5, v74])) (bnd (guardM (nth v51 1) true 1 (bnd (lft (binA T .eql 33 (nth v51 3) (nth v51 5))) fun v75 =>
 M.pure [v75])) fun v76 =>
 bnd (lft (pickA (nth v51 1) (nth v76 0) (AV.bool false))) fun v77 =>
 bnd (guardM v77 true 1 (bnd (lft (binA T .neq 33 (nth v51 3) (AV.int .i64 0))) fun v78 =>
 M.pure [v78])) fun v79 =>
 bnd (guardM (nth v79 0) false 1 (bnd (lft (loadA T 39 (nth v51 2))) fun v80 =>
 bnd (lft (loadA T 39 (nth v51 4))) fun v81 =>
 bnd (call 24 [v80, v81]) fun v82 =>
 M.pure [v82])) fun v83 =>
 bnd (guardM v77 true 1 (bnd (lft (pickA (nth v79 0) (AV.bool true) (nth v83 0))) fun v84 =>
 M.pure [v84])) fun v85 =>
 bnd (lft (pickA v77 (nth v85 0) (AV.bool false))) fun v86 =>
 M.pure v86)
noncomputable def L3_1 (call : CC) (fx : Fix AV) (v31 : List AV → M AV) (v32 : List AV) : M AV :=
 bnd (lft (lenA T 23 (nth v32 0))) fun v33 =>
 bnd (lft (binA T .lss 3 (nth v32 4) v33)) fun v34 =>
 condM v34 (bnd (lft (binA T .add 3 (nth v32 4) (AV.int .i64 1))) fun v35 =>
 bnd (lft (sliceA T 9 (AV.str [97, 98, 99, 100, 101, 102, 103, 104]) (some (nth v32 4)) (some v35) none)) fun v36 =>
 bnd (lft (buildSliceA T 25 1 [(0, v36)])) fun v37 =>
 bnd (lft (appA T 25 (nth v32 3) v37)) fun v38 =>
 bnd (lft (binA T .add 3 (nth v32 4) (AV.int .i64 1))) fun v39 =>
 v31 [nth v32 0, nth v32 1, nth v32 2, v38, v39]) (bnd (lft (loadA T 28 (nth v32 1))) fun v40 =>
 bnd (call 19 [v40, nth v32 3, nth v32 0]) fun v41 =>
 bnd (lft (extractA v41 0)) fun v42 =>
 bnd (lft (extractA v41 1)) fun v43 =>
 bnd (cellsM 4 v42) fun v44 =>
 bnd (lft (loadA T 28 (nth v32 1))) fun v45 =>
 bnd (call 20 [v45, nth v32 3, nth v32 0]) fun v46 =>
 bnd (lft (extractA v46 0)) fun v47 =>
 bnd (lft (extractA v46 1)) fun v48 =>
 bnd (cellsM 4 v47) fun v49 =>
 fx (L3_0 call fx) [nth v32 0, nth v32 2, AV.ip (acells v44), v43, AV.ip (acells v49), v48, AV.int .i64 1])
noncomputable def K3_0 (call : CC) (fx : Fix AV) (v26 : List AV) : M AV :=
 bnd (call 17 [nth v26 0, nth v26 8, nth v26 1, nth v26 2, nth v26 3, nth v26 4, nth v26 5]) fun v27 =>
 bnd (call 18 [nth v26 0, nth v26 8, nth v26 1, nth v26 2, nth v26 3, nth v26 4, nth v26 5]) fun v28 =>
 bnd (call 13 [v27, v28]) fun v29 =>
 bnd (lft (unA UnOp.not v29)) fun v30 =>
 condM v30 (M.pure (AV.bool false)) (fx (L3_1 call fx) [nth v26 3, nth v26 6, nth v26 7, AV.sl [], AV.int .i64 0])
noncomputable def L3_2 (_call : CC) (_fx : Fix AV) (v88 : List AV → M AV) (v96 : List AV → M AV) (v97 : List AV) : M AV :=
 bnd (lft (indexAddrA T 32 (nth v97 8) (nth v97 9))) fun v98 =>
 bnd (lft (fieldAddrA T 47 v98 1)) fun v99 =>
 bnd (loadH T 23 v99) fun v100 =>
 bnd (lft (lenA T 23 v100)) fun v101 =>
 bnd (lft (binA T .lss 3 (nth v97 10) v101)) fun v102 =>
 condM v102 (bnd (lft (indexAddrA T 32 (nth v97 8) (nth v97 9))) fun v103 =>
 bnd (lft (fieldAddrA T 47 v103 1)) fun v104 =>
 bnd (loadH T 23 v104) fun v105 =>
 bnd (lft (indexAddrA T 23 (nth v97 3) (nth v97 9))) fun v106 =>
 bnd (lft (loadA T 39 v106)) fun v107 =>
 bnd (lft (indexAddrA T 23 v105 (nth v97 10))) fun v108 =>
 bnd (storeH T 39 v108 v107) fun _v109 =>
 bnd (lft (binA T .add 3 (nth v97 10) (AV.int .i64 1))) fun v110 =>
 v96 [nth v97 0, nth v97 1, nth v97 2, nth v97 3, nth v97 4, nth v97 5, nth v97 6, nth v97 7, nth v97 8, nth v97 9, v110]) (bnd (lft (binA T .add 3 (nth v97 9) (AV.int .i64 1))) fun v111 =>
 v88 [nth v97 0, nth v97 1, nth v97 2, nth v97 3, nth v97 4, nth v97 5, nth v97 6, nth v97 7, nth v97 8, v111])
noncomputable def L3_3 (call : CC) (fx : Fix AV) (v87 : List AV → M AV) (v88 : List AV → M AV) (v89 : List AV) : M AV :=
 bnd (lft (lenA T 32 (nth v89 8))) fun v90 =>
 bnd (lft (binA T .lss 3 (nth v89 9) v90)) fun v91 =>
 bnd (guardM v91 true 1 (bnd (lft (lenA T 23 (nth v89 3))) fun v92 =>
 bnd (lft (binA T .lss 3 (nth v89 9) v92)) fun v93 =>
 M.pure [v93])) fun v94 =>
 bnd (lft (pickA v91 (nth v94 0) (AV.bool false))) fun v95 =>
 condM v95 (fx (L3_2 call fx v88) [nth v89 0, nth v89 1, nth v89 2, nth v89 3, nth v89 4, nth v89 5, nth v89 6, nth v89 7, nth v89 8, nth v89 9, AV.int .i64 0]) (bnd (fzL [nth v89 0, nth v89 1, nth v89 2, nth v89 3, nth v89 4, nth v89 5, nth v89 6, nth v89 7, nth v89 8]) v87)
theorem XL3_0 {call : CC} : Cont1 (L3_0 call fixW ) fun _n => L3_0 call fixW  := by
 intro v50 v50s hself v51
 unfold L3_0
 exact (lb fun _ => (lb fun _ => (condM_lim (lb fun _ => (lb fun _ => (lb fun _ => (lb fun _ => (lb fun _ => (lb fun _ => (lb fun _ => (lb fun _ => (lb fun _ => (condM_lim (LimM.const _) (lb fun _ => (hself _)))))))))))) (LimM.const _))))
theorem FL3_0 (call : CC) (vs : List AV) : fixW (L3_0 call fixW ) vs = L3_0 call fixW  (fixW (L3_0 call fixW )) vs := fixW_eq (XL3_0 ) vs
theorem XL3_1 {call : CC} : Cont1 (L3_1 call fixW ) fun _n => L3_1 call fixW  := by
 intro v31 v31s hself v32
 unfold L3_1
 exact (lb fun _ => (lb fun _ => (condM_lim (lb fun _ => (lb fun _ => (lb fun _ => (lb fun _ => (lb fun _ => (hself _)))))) (LimM.const _))))
theorem FL3_1 (call : CC) (vs : List AV) : fixW (L3_1 call fixW ) vs = L3_1 call fixW  (fixW (L3_1 call fixW )) vs := fixW_eq (XL3_1 ) vs
theorem XL3_2 {call : CC} {v88 : List AV → M AV} {v88s : Nat → List AV → M AV} (hv88 : LimF v88 fun n => v88s n) : Cont1 (L3_2 call fixW v88) fun n => L3_2 call fixW (v88s n) := by
 intro v96 v96s hself v97
 unfold L3_2
 exact (lb fun _ => (lb fun _ => (lb fun _ => (lb fun _ => (lb fun _ => (condM_lim (lb fun _ => (lb fun _ => (lb fun _ => (lb fun _ => (lb fun _ => (lb fun _ => (lb fun _ => (lb fun _ => (hself _))))))))) (lb fun _ => (hv88 _))))))))
theorem YL3_2 {call : CC} {v88 : List AV → M AV} {v88s : Nat → List AV → M AV} (hv88 : LimF v88 fun n => v88s n) : LimF (fixW (L3_2 call fixW v88)) fun n => fixW (L3_2 call fixW (v88s n)) := fixW_limF (XL3_2 hv88) (XL3_2 (LimF.const _)) fun _ => XL3_2 (LimF.const _)
theorem FL3_2 (call : CC) (v88 : List AV → M AV) (vs : List AV) : fixW (L3_2 call fixW v88) vs = L3_2 call fixW v88 (fixW (L3_2 call fixW v88)) vs := fixW_eq (XL3_2 (LimF.const _)) vs
theorem XL3_3 {call : CC} {v87 : List AV → M AV} {v87s : Nat → List AV → M AV} (hv87 : LimF v87 fun n => v87s n) : Cont1 (L3_3 call fixW v87) fun n => L3_3 call fixW (v87s n) := by
 intro v88 v88s hself v89
 unfold L3_3
 exact (lb fun _ => (lb fun _ => (lb fun _ => (lb fun _ => (condM_lim ((YL3_2 hself) _) (LimM.bnd (LimM.const _) hv87))))))
theorem FL3_3 (call : CC) (v87 : List AV → M AV) (vs : List AV) : fixW (L3_3 call fixW v87) vs = L3_3 call fixW v87 (fixW (L3_3 call fixW v87)) vs := fixW_eq (XL3_3 (LimF.const _)) vs
noncomputable def S3 (call : CC) (fx : Fix AV) (a0 a1 a2 a3 a4 a5 a6 : AV) : M AV :=
 bnd (call 7 []) fun v0 =>
 bnd (call 8 [a0, a3, a4, a5]) fun v1 =>
 bnd (lft (unA UnOp.not v1)) fun v2 =>
 bnd (guardM v2 false 1 (bnd (lft (loadA T 28 (AV.ip (acells a6)))) fun v3 =>
 bnd (call 9 [v3, AV.int .i64 40, AV.int .i64 16]) fun v4 =>
 bnd (lft (binA T .gtr 3 v4 (AV.int .i64 40))) fun v5 =>
 M.pure [v5])) fun v6 =>
 bnd (lft (pickA v2 (AV.bool true) (nth v6 0))) fun v7 =>
 condM v7 (M.pure v0) (bnd (call 10 [a0]) fun v8 =>
 bnd (lft (extractA v8 0)) fun v9 =>
 bnd (lft (extractA v8 1)) fun v10 =>
 bnd (call 11 [a0]) fun v11 =>
 bnd (lft (extractA v11 0)) fun v12 =>
 bnd (lft (extractA v11 1)) fun v13 =>
 bnd (lft (binA T .neq 33 v10 v13)) fun v14 =>
 bnd (guardM v14 false 1 (bnd (call 12 [v9, v12]) fun v15 =>
 bnd (lft (unA UnOp.not v15)) fun v16 =>
 M.pure [v16])) fun v17 =>
 bnd (lft (pickA v14 (AV.bool true) (nth v17 0))) fun v18 =>
 bnd (guardM v18 false 1 (bnd (call 14 [a0, a1, a2, a3, a4, a5]) fun v19 =>
 bnd (call 15 [a0, a1, a2, a3, a4, a5]) fun v20 =>
 bnd (call 13 [v19, v20]) fun v21 =>
 bnd (lft (unA UnOp.not v21)) fun v22 =>
 M.pure [v22])) fun v23 =>
 bnd (lft (pickA v18 (AV.bool true) (nth v23 0))) fun v24 =>
 condM v24 (M.pure (AV.bool false)) (bnd (call 16 [v12]) fun v25 =>
 jn (K3_0 call fx) fun v87 =>
 fx (L3_3 call fx v87) [a0, a1, a2, a3, a4, a5, AV.ip (acells a6), v0, v25, AV.int .i64 0]))
theorem E3 (call : CC) (fx : Fix AV) (a0 a1 a2 a3 a4 a5 a6 : AV) : evBody (pg.cx call Try.f3.ntmps ann3) fx Try.f3 (own 3) [a0, a1, a2, a3, a4, a5, a6] = S3 call fx a0 a1 a2 a3 a4 a5 a6 := by kernel_rfl
theorem C3 (a0 a1 a2 a3 a4 a5 a6 : AV) : callW pg 3 [a0, a1, a2, a3, a4, a5, a6] = isoP (S3 (callW pg) fixW (cl noHs a0) (cl noHs a1) (cl noHs a2) (cl noHs a3) (cl noHs a4) (cl noHs a5) (cl noHs a6)) := (callW_iso hOther rfl rfl rfl _).trans (congrArg isoP (E3 _ _ (cl noHs a0) (cl noHs a1) (cl noHs a2) (cl noHs a3) (cl noHs a4) (cl noHs a5) (cl noHs a6)))
noncomputable def L12_0 (call : CC) (_fx : Fix AV) (v3 : List AV → M AV) (v4 : List AV) : M AV :=
 bnd (lft (lenA T 32 (nth v4 0))) fun v5 =>
 bnd (lft (binA T .lss 3 (nth v4 2) v5)) fun v6 =>
 condM v6 (bnd (lft (indexAddrA T 32 (nth v4 0) (nth v4 2))) fun v7 =>
 bnd (lft (fieldAddrA T 47 v7 0)) fun v8 =>
 bnd (lft (loadA T 9 v8)) fun v9 =>
 bnd (lft (indexAddrA T 32 (nth v4 1) (nth v4 2))) fun v10 =>
 bnd (lft (fieldAddrA T 47 v10 0)) fun v11 =>
 bnd (lft (loadA T 9 v11)) fun v12 =>
 bnd (lft (binA T .neq 9 v9 v12)) fun v13 =>
 bnd (guardM v13 false 1 (bnd (lft (indexAddrA T 32 (nth v4 0) (nth v4 2))) fun v14 =>
 bnd (lft (fieldAddrA T 47 v14 1)) fun v15 =>
 bnd (lft (loadA T 23 v15)) fun v16 =>
 bnd (lft (indexAddrA T 32 (nth v4 1) (nth v4 2))) fun v17 =>
 bnd (lft (fieldAddrA T 47 v17 1)) fun v18 =>
 bnd (lft (loadA T 23 v18)) fun v19 =>
 bnd (noPan (call 26 [v16, v19])) fun v20 =>
 bnd (lft (unA UnOp.not v20)) fun v21 =>
 M.pure [v21])) fun v22 =>
 bnd (lft (pickA v13 (AV.bool true) (nth v22 0))) fun v23 =>
 condM v23 (M.pure (AV.bool false)) (bnd (lft (binA T .add 3 (nth v4 2) (AV.int .i64 1))) fun v24 =>
 v3 [nth v4 0, nth v4 1, v24])) (M.pure (AV.bool true))
theorem XL12_0 {call : CC} : Cont1 (L12_0 call fixW ) fun _n => L12_0 call fixW  := by
 intro v3 v3s hself v4
 unfold L12_0
 exact (lb fun _ => (lb fun _ => (condM_lim (lb fun _ => (lb fun _ => (lb fun _ => (lb fun _ => (lb fun _ => (lb fun _ => (lb fun _ => (lb fun _ => (lb fun _ => (condM_lim (LimM.const _) (lb fun _ => (hself _)))))))))))) (LimM.const _))))
theorem FL12_0 (call : CC) (vs : List AV) : fixW (L12_0 call fixW ) vs = L12_0 call fixW  (fixW (L12_0 call fixW )) vs := fixW_eq (XL12_0 ) vs
noncomputable def S12 (call : CC) (fx : Fix AV) (a0 a1 : AV) : M AV :=
 bnd (lft (lenA T 32 a0)) fun v0 =>
 bnd (lft (lenA T 32 a1)) fun v1 =>
 bnd (lft (binA T .neq 3 v0 v1)) fun v2 =>
 condM v2 (M.pure (AV.bool false)) (fx (L12_0 call fx) [a0, a1, AV.int .i64 0])
theorem E12 (call : CC) (fx : Fix AV) (a0 a1 : AV) : evBody (pg.cx call Try.f12.ntmps ann12) fx Try.f12 (own 12) [a0, a1] = S12 call fx a0 a1 := by kernel_rfl
theorem C12 (a0 a1 : AV) : callW pg 12 [a0, a1] = isoP (S12 (callW pg) fixW (cl noHs a0) (cl noHs a1)) := (callW_iso hOther rfl rfl rfl _).trans (congrArg isoP (E12 _ _ (cl noHs a0) (cl noHs a1)))
noncomputable def S13 (call : CC) (_fx : Fix AV) (a0 a1 : AV) : M AV :=
 bnd (lft (fieldAddrA T 43 (AV.ip (acells a0)) 0)) fun v0 =>
 bnd (lft (loadA T 33 v0)) fun v1 =>
 bnd (lft (fieldAddrA T 43 (AV.ip (acells a1)) 0)) fun v2 =>
 bnd (lft (loadA T 33 v2)) fun v3 =>
 bnd (lft (binA T .eql 33 v1 v3)) fun v4 =>
 bnd (guardM v4 true 1 (bnd (lft (fieldAddrA T 43 (AV.ip (acells a0)) 2)) fun v5 =>
 bnd (lft (loadA T 40 v5)) fun v6 =>
 bnd (lft (lenA T 40 v6)) fun v7 =>
 bnd (lft (fieldAddrA T 43 (AV.ip (acells a1)) 2)) fun v8 =>
 bnd (lft (loadA T 40 v8)) fun v9 =>
 bnd (lft (lenA T 40 v9)) fun v10 =>
 bnd (lft (binA T .eql 3 v7 v10)) fun v11 =>
 M.pure [v11])) fun v12 =>
 bnd (lft (pickA v4 (nth v12 0) (AV.bool false))) fun v13 =>
 bnd (guardM v13 true 1 (bnd (lft (fieldAddrA T 43 (AV.ip (acells a0)) 3)) fun v14 =>
 bnd (lft (loadA T 41 v14)) fun v15 =>
 bnd (lft (lenA T 41 v15)) fun v16 =>
 bnd (lft (fieldAddrA T 43 (AV.ip (acells a1)) 3)) fun v17 =>
 bnd (lft (loadA T 41 v17)) fun v18 =>
 bnd (lft (lenA T 41 v18)) fun v19 =>
 bnd (lft (binA T .eql 3 v16 v19)) fun v20 =>
 M.pure [v20])) fun v21 =>
 bnd (lft (pickA v13 (nth v21 0) (AV.bool false))) fun v22 =>
 bnd (guardM v22 true 1 (bnd (lft (loadA T 43 (AV.ip (acells a0)))) fun v23 =>
 bnd (lft (loadA T 43 (AV.ip (acells a1)))) fun v24 =>
 bnd (call 25 [v23, v24]) fun v25 =>
 M.pure [v25])) fun v26 =>
 bnd (lft (pickA v22 (nth v26 0) (AV.bool false))) fun v27 =>
 bnd (guardM v27 true 1 (bnd (lft (fieldAddrA T 43 (AV.ip (acells a0)) 4)) fun v28 =>
 bnd (lft (loadA T 32 v28)) fun v29 =>
 bnd (lft (fieldAddrA T 43 (AV.ip (acells a1)) 4)) fun v30 =>
 bnd (lft (loadA T 32 v30)) fun v31 =>
 bnd (call 12 [v29, v31]) fun v32 =>
 M.pure [v32])) fun v33 =>
 bnd (lft (pickA v27 (nth v33 0) (AV.bool false))) fun v34 =>
 bnd (guardM v34 true 1 (bnd (lft (fieldAddrA T 43 (AV.ip (acells a0)) 0)) fun v35 =>
 bnd (lft (loadA T 33 v35)) fun v36 =>
 bnd (lft (binA T .neq 33 v36 (AV.int .i64 0))) fun v37 =>
 M.pure [v37])) fun v38 =>
 bnd (guardM (nth v38 0) false 1 (bnd (lft (fieldAddrA T 43 (AV.ip (acells a0)) 1)) fun v39 =>
 bnd (lft (loadA T 39 v39)) fun v40 =>
 bnd (lft (fieldAddrA T 43 (AV.ip (acells a1)) 1)) fun v41 =>
 bnd (lft (loadA T 39 v41)) fun v42 =>
 bnd (call 24 [v40, v42]) fun v43 =>
 M.pure [v43])) fun v44 =>
 bnd (guardM v34 true 1 (bnd (lft (pickA (nth v38 0) (AV.bool true) (nth v44 0))) fun v45 =>
 M.pure [v45])) fun v46 =>
 bnd (lft (pickA v34 (nth v46 0) (AV.bool false))) fun v47 =>
 M.pure v47
theorem E13 (call : CC) (fx : Fix AV) (a0 a1 : AV) : evBody (pg.cx call Try.f13.ntmps ann13) fx Try.f13 (own 13) [a0, a1] = S13 call fx a0 a1 := by kernel_rfl
theorem C13 (a0 a1 : AV) : callW pg 13 [a0, a1] = isoP (S13 (callW pg) fixW (cl noHs a0) (cl noHs a1)) := (callW_iso hOther rfl rfl rfl _).trans (congrArg isoP (E13 _ _ (cl noHs a0) (cl noHs a1)))
noncomputable def S24 (call : CC) (_fx : Fix AV) (a0 a1 : AV) : M AV :=
 bnd (lft (loadA T 39 (AV.ip (acells a0)))) fun v0 =>
 bnd (call 22 [v0]) fun v1 =>
 bnd (guardM v1 true 1 (bnd (lft (loadA T 39 (AV.ip (acells a1)))) fun v2 =>
 bnd (call 22 [v2]) fun v3 =>
 M.pure [v3])) fun v4 =>
 bnd (lft (pickA v1 (nth v4 0) (AV.bool false))) fun v5 =>
 bnd (guardM v5 true 1 (bnd (lft (loadA T 39 (AV.ip (acells a0)))) fun v6 =>
 bnd (lft (loadA T 39 (AV.ip (acells a1)))) fun v7 =>
 bnd (call 55 [v6, v7]) fun v8 =>
 M.pure [v8])) fun v9 =>
 bnd (lft (pickA v5 (nth v9 0) (AV.bool false))) fun v10 =>
 M.pure v10
theorem E24 (call : CC) (fx : Fix AV) (a0 a1 : AV) : evBody (pg.cx call Try.f24.ntmps ann24) fx Try.f24 (own 24) [a0, a1] = S24 call fx a0 a1 := by kernel_rfl
theorem C24 (a0 a1 : AV) : callW pg 24 [a0, a1] = isoP (S24 (callW pg) fixW (cl noHs a0) (cl noHs a1)) := (callW_iso hOther rfl rfl rfl _).trans (congrArg isoP (E24 _ _ (cl noHs a0) (cl noHs a1)))
noncomputable def L32_0 (call : CC) (_fx : Fix AV) (v3 : List AV → M AV) (v4 : List AV) : M AV :=
 bnd (lft (binA T .lss 3 (nth v4 3) (nth v4 2))) fun v5 =>
 condM v5 (bnd (lft (indexAddrA T 22 (nth v4 1) (nth v4 3))) fun v6 =>
 bnd (lft (loadA T 63 v6)) fun v7 =>
 bnd (cellsM 9 v7) fun v8 =>
 bnd (lft (sliceA T 22 (nth v4 0) none (some (nth v4 3)) none)) fun v9 =>
 bnd (call 58 [v9, AV.fn (Fn.func 59) [] [AV.ip (acells v8)]]) fun v10 =>
 condM v10 (M.pure (AV.int .i64 5)) (bnd (lft (binA T .add 3 (nth v4 3) (AV.int .i64 1))) fun v11 =>
 v3 [nth v4 0, nth v4 1, nth v4 2, v11])) (M.pure (AV.int .i64 0))
theorem XL32_0 {call : CC} : Cont1 (L32_0 call fixW ) fun _n => L32_0 call fixW  := by
 intro v3 v3s hself v4
 unfold L32_0
 exact (lb fun _ => (condM_lim (lb fun _ => (lb fun _ => (lb fun _ => (lb fun _ => (lb fun _ => (condM_lim (LimM.const _) (lb fun _ => (hself _)))))))) (LimM.const _)))
theorem FL32_0 (call : CC) (vs : List AV) : fixW (L32_0 call fixW ) vs = L32_0 call fixW  (fixW (L32_0 call fixW )) vs := fixW_eq (XL32_0 ) vs
noncomputable def S32 (call : CC) (fx : Fix AV) (a0 : AV) : M AV :=
 bnd (lft (lenA T 22 a0)) fun v0 =>
 bnd (lft (binA T .gtr 3 v0 (AV.int .i64 20))) fun v1 =>
 condM v1 (M.pure (AV.int .i64 6)) (bnd (lft (lenA T 22 a0)) fun v2 =>
 fx (L32_0 call fx) [a0, a0, v2, AV.int .i64 0])
theorem E32 (call : CC) (fx : Fix AV) (a0 : AV) : evBody (pg.cx call Try.f32.ntmps ann32) fx Try.f32 (own 32) [a0] = S32 call fx a0 := by kernel_rfl
theorem C32 (a0 : AV) : callW pg 32 [a0] = isoP (S32 (callW pg) fixW (cl noHs a0)) := (callW_iso hOther rfl rfl rfl _).trans (congrArg isoP (E32 _ _ (cl noHs a0)))
noncomputable def S41 (call : CC) (_fx : Fix AV) (a0 a1 a2 a3 : AV) : M AV :=
 bnd (lft (loadA T 79 a0)) fun v0 =>
 bnd (lft (loadA T 3 a1)) fun v1 =>
 bnd (lft (loadA T 67 a2)) fun v2 =>
 bnd (lft (loadA T 23 a3)) fun v3 =>
 bnd (call 42 [v0, v1, v2, v3]) fun v4 =>
 bnd (cellsNil 4 [] v4) fun v5 =>
 M.pure (AV.agg [nth (acells v5) 0, nth (acells v5) 1, nth (acells v5) 2, nth (acells v5) 3])
theorem E41 (call : CC) (fx : Fix AV) (a0 a1 a2 a3 : AV) : evBody (pg.cx call Try.f41.ntmps ann41) fx Try.f41 (own 41) [a0, a1, a2, a3] = S41 call fx a0 a1 a2 a3 := by kernel_rfl
theorem C41 (a0 a1 a2 a3 : AV) : callW pg 41 [a0, a1, a2, a3] = S41 (callW pg) fixW a0 a1 a2 a3 := (callW_heap hOther rfl rfl rfl _).trans (E41 _ _ a0 a1 a2 a3)
noncomputable def L42_0 (call : CC) (_fx : Fix AV) (v11 : List AV → M AV) (v12 : List AV) : M AV :=
 bnd (lft (binA T .lss 3 (nth v12 5) (nth v12 4))) fun v13 =>
 condM v13 (bnd (lft (indexAddrA T 58 (nth v12 3) (nth v12 5))) fun v14 =>
 bnd (lft (loadA T 104 v14)) fun v15 =>
 bnd (cellsM 3 v15) fun v16 =>
 bnd (lft (fieldAddrA T 104 (AV.ip (acells v16)) 0)) fun v17 =>
 bnd (lft (loadA T 9 v17)) fun v18 =>
 bnd (lft (indexAddrA T 23 (nth v12 1) (nth v12 5))) fun v19 =>
 bnd (lft (loadA T 39 v19)) fun v20 =>
 bnd (noPan (call 70 [AV.agg [nth v12 10, nth v12 11, nth v12 12], v18, v20])) fun v21 =>
 bnd (cellsNil 3 [] v21) fun v22 =>
 bnd (lft (binA T .add 3 (nth v12 5) (AV.int .i64 1))) fun v23 =>
 v11 [nth v12 0, nth v12 1, nth v12 2, nth v12 3, nth v12 4, v23, nth v12 6, nth v12 7, nth v12 8, nth v12 9, nth (acells v22) 0, nth (acells v22) 1, nth (acells v22) 2]) (bnd (lft (nilChkA (nth v12 0))) fun v24 =>
 bnd (lft (fieldAddrA T 81 v24 3)) fun v25 =>
 bnd (loadH T 3 v25) fun v26 =>
 bnd (lft (binA T .add 3 v26 (AV.int .i64 1))) fun v27 =>
 bnd (lft (nilChkA (nth v12 0))) fun v28 =>
 bnd (lft (fieldAddrA T 81 v28 3)) fun v29 =>
 bnd (storeH T 3 v29 v27) fun _v30 =>
 bnd (lft (fieldAddrA T 67 (nth v12 2) 5)) fun v31 =>
 bnd (lft (loadA T 28 v31)) fun v32 =>
 bnd (call 50 [nth v12 0, AV.agg [nth v12 10, nth v12 11, nth v12 12], v32]) fun v33 =>
 bnd (cellsM 4 v33) fun v34 =>
 bnd (lft (nilChkA (nth v12 0))) fun v35 =>
 bnd (lft (fieldAddrA T 81 v35 3)) fun v36 =>
 bnd (loadH T 3 v36) fun v37 =>
 bnd (lft (binA T .sub 3 v37 (AV.int .i64 1))) fun v38 =>
 bnd (lft (nilChkA (nth v12 0))) fun v39 =>
 bnd (lft (fieldAddrA T 81 v39 3)) fun v40 =>
 bnd (storeH T 3 v40 v38) fun _v41 =>
 bnd (lft (loadA T 39 (AV.ip (acells v34)))) fun v42 =>
 bnd (cellsNil 4 [] v42) fun v43 =>
 M.pure (AV.agg [nth (acells v43) 0, nth (acells v43) 1, nth (acells v43) 2, nth (acells v43) 3]))
noncomputable def K42_0 (call : CC) (fx : Fix AV) (v5 : List AV) : M AV :=
 bnd (lft (buildA T false 98 [(0, nth v5 1)])) fun v6 =>
 bnd (cellsNil 3 [] v6) fun v7 =>
 bnd (lft (fieldAddrA T 67 (nth v5 3) 2)) fun v8 =>
 bnd (lft (loadA T 58 v8)) fun v9 =>
 bnd (lft (lenA T 58 v9)) fun v10 =>
 fx (L42_0 call fx) [nth v5 0, nth v5 2, nth v5 3, v9, v10, AV.int .i64 0, nth v5 4, nth v5 5, nth v5 6, nth v5 7, nth (acells v7) 0, nth (acells v7) 1, nth (acells v7) 2]
theorem XL42_0 {call : CC} : Cont1 (L42_0 call fixW ) fun _n => L42_0 call fixW  := by
 intro v11 v11s hself v12
 unfold L42_0
 exact (lb fun _ => (condM_lim (lb fun _ => (lb fun _ => (lb fun _ => (lb fun _ => (lb fun _ => (lb fun _ => (lb fun _ => (lb fun _ => (lb fun _ => (lb fun _ => (hself _))))))))))) (LimM.const _)))
theorem FL42_0 (call : CC) (vs : List AV) : fixW (L42_0 call fixW ) vs = L42_0 call fixW  (fixW (L42_0 call fixW )) vs := fixW_eq (XL42_0 ) vs
noncomputable def S42 (call : CC) (fx : Fix AV) (a0 a1 a2 a3 : AV) : M AV :=
 bnd (lft (nilChkA a0)) fun v0 =>
 bnd (lft (fieldAddrA T 81 v0 3)) fun v1 =>
 bnd (loadH T 3 v1) fun v2 =>
 bnd (lft (binA T .lss 3 v2 (AV.int .i64 60))) fun v3 =>
 bnd (call 69 [v3, AV.int .i64 6]) fun _v4 =>
 jn (K42_0 call fx) fun v44 =>
 bnd (lft (fieldAddrA T 67 (AV.ip (acells a2)) 1)) fun v45 =>
 bnd (lft (loadA T 4 v45)) fun v46 =>
 condM v46 (bnd (lft (nilChkA a0)) fun v47 =>
 bnd (lft (fieldAddrA T 81 v47 4)) fun v48 =>
 bnd (lft (fieldAddrA T 43 v48 3)) fun v49 =>
 bnd (loadH T 41 v49) fun v50 =>
 bnd (lft (nilChkA a0)) fun v51 =>
 bnd (lft (fieldAddrA T 81 v51 0)) fun v52 =>
 bnd (loadH T 22 v52) fun v53 =>
 bnd (lft (indexAddrA T 22 v53 a1)) fun v54 =>
 bnd (lft (fieldAddrA T 63 v54 0)) fun v55 =>
 bnd (lft (loadA T 9 v55)) fun v56 =>
 bnd (lft (fieldAddrA T 67 (AV.ip (acells a2)) 0)) fun v57 =>
 bnd (lft (loadA T 9 v57)) fun v58 =>
 bnd (call 39 [a3]) fun v59 =>
 bnd (lft (buildA T false 69 [(0, v56), (1, v58), (2, v59)])) fun v60 =>
 bnd (lft (buildSliceA T 41 1 [(0, v60)])) fun v61 =>
 bnd (appH T 41 false v50 v61) fun v62 =>
 bnd (lft (nilChkA a0)) fun v63 =>
 bnd (lft (fieldAddrA T 81 v63 4)) fun v64 =>
 bnd (lft (fieldAddrA T 43 v64 3)) fun v65 =>
 bnd (storeH T 41 v65 v62) fun _v66 =>
 v44 [a0, a1, a3, AV.ip (acells a2), AV.int .i64 0, AV.int .i64 0, AV.sl [], AV.sl []]) (v44 [a0, a1, a3, AV.ip (acells a2), AV.int .i64 0, AV.int .i64 0, AV.sl [], AV.sl []])
theorem E42 (call : CC) (fx : Fix AV) (a0 a1 a2 a3 : AV) : evBody (pg.cx call Try.f42.ntmps ann42) fx Try.f42 (own 42) [a0, a1, a2, a3] = S42 call fx a0 a1 a2 a3 := by kernel_rfl
theorem C42 (a0 a1 a2 a3 : AV) : callW pg 42 [a0, a1, a2, a3] = S42 (callW pg) fixW a0 a1 a2 a3 := (callW_heap hOther rfl rfl rfl _).trans (E42 _ _ a0 a1 a2 a3)
noncomputable def S49 (call : CC) (_fx : Fix AV) (a0 a1 a2 a3 : AV) : M AV :=
 bnd (lft (loadA T 79 a0)) fun v0 =>
 bnd (lft (loadA T 25 a1)) fun v1 =>
 bnd (lft (loadA T 23 a2)) fun v2 =>
 bnd (lft (buildA T false 98 [(0, AV.int .i64 (-1)), (1, v1), (2, v2)])) fun v3 =>
 bnd (lft (loadA T 28 a3)) fun v4 =>
 bnd (call 50 [v0, v3, v4]) fun v5 =>
 bnd (cellsNil 4 [] v5) fun v6 =>
 M.pure (AV.agg [nth (acells v6) 0, nth (acells v6) 1, nth (acells v6) 2, nth (acells v6) 3])
theorem E49 (call : CC) (fx : Fix AV) (a0 a1 a2 a3 : AV) : evBody (pg.cx call Try.f49.ntmps ann49) fx Try.f49 (own 49) [a0, a1, a2, a3] = S49 call fx a0 a1 a2 a3 := by kernel_rfl
theorem C49 (a0 a1 a2 a3 : AV) : callW pg 49 [a0, a1, a2, a3] = S49 (callW pg) fixW a0 a1 a2 a3 := (callW_heap hOther rfl rfl rfl _).trans (E49 _ _ a0 a1 a2 a3)
noncomputable def L55_0 (call : CC) (_fx : Fix AV) (v21 : List AV → M AV) (v22 : List AV) : M AV :=
 bnd (lft (fieldAddrA T 39 (nth v22 0) 2)) fun v23 =>
 bnd (lft (loadA T 25 v23)) fun v24 =>
 bnd (lft (lenA T 25 v24)) fun v25 =>
 bnd (lft (binA T .lss 3 (nth v22 2) v25)) fun v26 =>
 condM v26 (bnd (lft (fieldAddrA T 39 (nth v22 0) 2)) fun v27 =>
 bnd (lft (loadA T 25 v27)) fun v28 =>
 bnd (lft (indexAddrA T 25 v28 (nth v22 2))) fun v29 =>
 bnd (lft (loadA T 9 v29)) fun v30 =>
 bnd (lft (fieldAddrA T 39 (nth v22 1) 2)) fun v31 =>
 bnd (lft (loadA T 25 v31)) fun v32 =>
 bnd (lft (indexAddrA T 25 v32 (nth v22 2))) fun v33 =>
 bnd (lft (loadA T 9 v33)) fun v34 =>
 bnd (lft (binA T .neq 9 v30 v34)) fun v35 =>
 bnd (guardM v35 false 1 (bnd (lft (fieldAddrA T 39 (nth v22 0) 3)) fun v36 =>
 bnd (lft (loadA T 23 v36)) fun v37 =>
 bnd (lft (indexAddrA T 23 v37 (nth v22 2))) fun v38 =>
 bnd (lft (loadA T 39 v38)) fun v39 =>
 bnd (lft (fieldAddrA T 39 (nth v22 1) 3)) fun v40 =>
 bnd (lft (loadA T 23 v40)) fun v41 =>
 bnd (lft (indexAddrA T 23 v41 (nth v22 2))) fun v42 =>
 bnd (lft (loadA T 39 v42)) fun v43 =>
 bnd (noPan (call 55 [v39, v43])) fun v44 =>
 bnd (lft (unA UnOp.not v44)) fun v45 =>
 M.pure [v45])) fun v46 =>
 bnd (lft (pickA v35 (AV.bool true) (nth v46 0))) fun v47 =>
 condM v47 (M.pure (AV.bool false)) (bnd (lft (binA T .add 3 (nth v22 2) (AV.int .i64 1))) fun v48 =>
 v21 [nth v22 0, nth v22 1, v48])) (M.pure (AV.bool true))
theorem XL55_0 {call : CC} : Cont1 (L55_0 call fixW ) fun _n => L55_0 call fixW  := by
 intro v21 v21s hself v22
 unfold L55_0
 exact (lb fun _ => (lb fun _ => (lb fun _ => (lb fun _ => (condM_lim (lb fun _ => (lb fun _ => (lb fun _ => (lb fun _ => (lb fun _ => (lb fun _ => (lb fun _ => (lb fun _ => (lb fun _ => (lb fun _ => (lb fun _ => (condM_lim (LimM.const _) (lb fun _ => (hself _)))))))))))))) (LimM.const _))))))
theorem FL55_0 (call : CC) (vs : List AV) : fixW (L55_0 call fixW ) vs = L55_0 call fixW  (fixW (L55_0 call fixW )) vs := fixW_eq (XL55_0 ) vs
noncomputable def S55 (call : CC) (fx : Fix AV) (a0 a1 : AV) : M AV :=
 bnd (lft (fieldAddrA T 39 (AV.ip (acells a0)) 0)) fun v0 =>
 bnd (lft (loadA T 3 v0)) fun v1 =>
 bnd (lft (fieldAddrA T 39 (AV.ip (acells a1)) 0)) fun v2 =>
 bnd (lft (loadA T 3 v2)) fun v3 =>
 bnd (lft (binA T .neq 3 v1 v3)) fun v4 =>
 bnd (guardM v4 false 1 (bnd (lft (fieldAddrA T 39 (AV.ip (acells a0)) 1)) fun v5 =>
 bnd (lft (loadA T 3 v5)) fun v6 =>
 bnd (lft (fieldAddrA T 39 (AV.ip (acells a1)) 1)) fun v7 =>
 bnd (lft (loadA T 3 v7)) fun v8 =>
 bnd (lft (binA T .neq 3 v6 v8)) fun v9 =>
 M.pure [v9])) fun v10 =>
 bnd (lft (pickA v4 (AV.bool true) (nth v10 0))) fun v11 =>
 bnd (guardM v11 false 1 (bnd (lft (fieldAddrA T 39 (AV.ip (acells a0)) 2)) fun v12 =>
 bnd (lft (loadA T 25 v12)) fun v13 =>
 bnd (lft (lenA T 25 v13)) fun v14 =>
 bnd (lft (fieldAddrA T 39 (AV.ip (acells a1)) 2)) fun v15 =>
 bnd (lft (loadA T 25 v15)) fun v16 =>
 bnd (lft (lenA T 25 v16)) fun v17 =>
 bnd (lft (binA T .neq 3 v14 v17)) fun v18 =>
 M.pure [v18])) fun v19 =>
 bnd (lft (pickA v11 (AV.bool true) (nth v19 0))) fun v20 =>
 condM v20 (M.pure (AV.bool false)) (fx (L55_0 call fx) [AV.ip (acells a0), AV.ip (acells a1), AV.int .i64 0])
theorem E55 (call : CC) (fx : Fix AV) (a0 a1 : AV) : evBody (pg.cx call Try.f55.ntmps ann55) fx Try.f55 (own 55) [a0, a1] = S55 call fx a0 a1 := by kernel_rfl
theorem C55 (a0 a1 : AV) : callW pg 55 [a0, a1] = isoP (S55 (callW pg) fixW (cl noHs a0) (cl noHs a1)) := (callW_iso hOther rfl rfl rfl _).trans (congrArg isoP (E55 _ _ (cl noHs a0) (cl noHs a1)))
noncomputable def L57_0 (call : CC) (_fx : Fix AV) (v2 : List AV → M AV) (v3 : List AV) : M AV :=
 bnd (lft (fieldAddrA T 65 (nth v3 2) 1)) fun v4 =>
 bnd (lft (loadA T 58 v4)) fun v5 =>
 bnd (lft (lenA T 58 v5)) fun v6 =>
 bnd (lft (binA T .lss 3 (nth v3 4) v6)) fun v7 =>
 bnd (guardM v7 true 1 (bnd (lft (binA T .leq 3 (nth v3 3) (nth v3 0))) fun v8 =>
 M.pure [v8])) fun v9 =>
 bnd (lft (pickA v7 (nth v9 0) (AV.bool false))) fun v10 =>
 condM v10 (bnd (lft (fieldAddrA T 65 (nth v3 2) 1)) fun v11 =>
 bnd (lft (loadA T 58 v11)) fun v12 =>
 bnd (lft (indexAddrA T 58 v12 (nth v3 4))) fun v13 =>
 bnd (lft (fieldAddrA T 104 v13 1)) fun v14 =>
 bnd (lft (loadA T 65 v14)) fun v15 =>
 bnd (lft (binA T .sub 3 (nth v3 0) (nth v3 3))) fun v16 =>
 bnd (lft (binA T .sub 3 (nth v3 1) (AV.int .i64 1))) fun v17 =>
 bnd (call 57 [v15, v16, v17]) fun v18 =>
 bnd (lft (binA T .add 3 (nth v3 3) v18)) fun v19 =>
 bnd (lft (binA T .add 3 (nth v3 4) (AV.int .i64 1))) fun v20 =>
 v2 [nth v3 0, nth v3 1, nth v3 2, v19, v20]) (M.pure (nth v3 3))
theorem XL57_0 {call : CC} : Cont1 (L57_0 call fixW ) fun _n => L57_0 call fixW  := by
 intro v2 v2s hself v3
 unfold L57_0
 exact (lb fun _ => (lb fun _ => (lb fun _ => (lb fun _ => (lb fun _ => (lb fun _ => (condM_lim (lb fun _ => (lb fun _ => (lb fun _ => (lb fun _ => (lb fun _ => (lb fun _ => (lb fun _ => (lb fun _ => (lb fun _ => (lb fun _ => (hself _))))))))))) (LimM.const _))))))))
theorem FL57_0 (call : CC) (vs : List AV) : fixW (L57_0 call fixW ) vs = L57_0 call fixW  (fixW (L57_0 call fixW )) vs := fixW_eq (XL57_0 ) vs
noncomputable def S57 (call : CC) (fx : Fix AV) (a0 a1 a2 : AV) : M AV :=
 bnd (lft (binA T .lss 3 a2 (AV.int .i64 1))) fun v0 =>
 condM v0 (bnd (lft (binA T .add 3 a1 (AV.int .i64 1))) fun v1 =>
 M.pure v1) (fx (L57_0 call fx) [a1, a2, AV.ip (acells a0), AV.int .i64 1, AV.int .i64 0])
theorem E57 (call : CC) (fx : Fix AV) (a0 a1 a2 : AV) : evBody (pg.cx call Try.f57.ntmps ann57) fx Try.f57 (own 57) [a0, a1, a2] = S57 call fx a0 a1 a2 := by kernel_rfl
theorem C57 (a0 a1 a2 : AV) : callW pg 57 [a0, a1, a2] = isoP (S57 (callW pg) fixW (cl noHs a0) (cl noHs a1) (cl noHs a2)) := (callW_iso hOther rfl rfl rfl _).trans (congrArg isoP (E57 _ _ (cl noHs a0) (cl noHs a1) (cl noHs a2)))
noncomputable def S58 (call : CC) (_fx : Fix AV) (a0 a1 : AV) : M AV :=
 bnd (call 63 [a0, a1]) fun v0 =>
 bnd (lft (binA T .geq 3 v0 (AV.int .i64 0))) fun v1 =>
 M.pure v1
theorem E58 (call : CC) (fx : Fix AV) (a0 a1 : AV) : evBody (pg.cx call Try.f58.ntmps ann58) fx Try.f58 (own 58) [a0, a1] = S58 call fx a0 a1 := by kernel_rfl
theorem C58 (a0 a1 : AV) : callW pg 58 [a0, a1] = isoP (S58 (callW pg) fixW (cl noHs a0) (cl noHs a1)) := (callW_iso hOther rfl rfl rfl _).trans (congrArg isoP (E58 _ _ (cl noHs a0) (cl noHs a1)))
noncomputable def S61 (call : CC) (_fx : Fix AV) (a0 a1 : AV) : M AV :=
 bnd (lft (fieldAddrA T 47 (AV.ip (acells a1)) 0)) fun v0 =>
 bnd (lft (loadA T 9 v0)) fun v1 =>
 bnd (lft (fieldAddrA T 63 (AV.ip (acells a0)) 0)) fun v2 =>
 bnd (lft (loadA T 9 v2)) fun v3 =>
 bnd (lft (binA T .eql 9 v1 v3)) fun v4 =>
 bnd (guardM v4 true 1 (bnd (lft (fieldAddrA T 47 (AV.ip (acells a1)) 1)) fun v5 =>
 bnd (lft (loadA T 23 v5)) fun v6 =>
 bnd (lft (lenA T 23 v6)) fun v7 =>
 bnd (lft (fieldAddrA T 63 (AV.ip (acells a0)) 2)) fun v8 =>
 bnd (lft (loadA T 58 v8)) fun v9 =>
 bnd (lft (lenA T 58 v9)) fun v10 =>
 bnd (lft (binA T .eql 3 v7 v10)) fun v11 =>
 M.pure [v11])) fun v12 =>
 bnd (lft (pickA v4 (nth v12 0) (AV.bool false))) fun v13 =>
 bnd (guardM v13 true 1 (bnd (lft (fieldAddrA T 47 (AV.ip (acells a1)) 1)) fun v14 =>
 bnd (lft (loadA T 23 v14)) fun v15 =>
 bnd (call 37 [v15, AV.fn (Fn.func 62) [] []]) fun v16 =>
 bnd (lft (unA UnOp.not v16)) fun v17 =>
 M.pure [v17])) fun v18 =>
 bnd (lft (pickA v13 (nth v18 0) (AV.bool false))) fun v19 =>
 M.pure v19
theorem E61 (call : CC) (fx : Fix AV) (a0 a1 : AV) : evBody (pg.cx call Try.f61.ntmps ann61) fx Try.f61 (own 61) [a0, a1] = S61 call fx a0 a1 := by kernel_rfl
theorem C61 (a0 a1 : AV) : callW pg 61 [a0, a1] = isoP (S61 (callW pg) fixW (cl noHs a0) (cl noHs a1)) := (callW_iso hOther rfl rfl rfl _).trans (congrArg isoP (E61 _ _ (cl noHs a0) (cl noHs a1)))
noncomputable def S62 (call : CC) (_fx : Fix AV) (a0 : AV) : M AV :=
 bnd (lft (loadA T 39 (AV.ip (acells a0)))) fun v0 =>
 bnd (call 21 [v0]) fun v1 =>
 bnd (lft (unA UnOp.not v1)) fun v2 =>
 M.pure v2
theorem E62 (call : CC) (fx : Fix AV) (a0 : AV) : evBody (pg.cx call Try.f62.ntmps ann62) fx Try.f62 (own 62) [a0] = S62 call fx a0 := by kernel_rfl
theorem C62 (a0 : AV) : callW pg 62 [a0] = isoP (S62 (callW pg) fixW (cl noHs a0)) := (callW_iso hOther rfl rfl rfl _).trans (congrArg isoP (E62 _ _ (cl noHs a0)))
noncomputable def L63_0 (call : CC) (_fx : Fix AV) (v1 : List AV → M AV) (v2 : List AV) : M AV :=
 bnd (lft (binA T .lss 3 (nth v2 3) (nth v2 2))) fun v3 =>
 condM v3 (bnd (lft (indexAddrA T 22 (nth v2 0) (nth v2 3))) fun v4 =>
 bnd (lft (loadA T 63 v4)) fun v5 =>
 bnd (callV call (nth v2 1) [v5]) fun v6 =>
 condM v6 (M.pure (nth v2 3)) (bnd (lft (binA T .add 3 (nth v2 3) (AV.int .i64 1))) fun v7 =>
 v1 [nth v2 0, nth v2 1, nth v2 2, v7])) (M.pure (AV.int .i64 (-1)))
theorem XL63_0 {call : CC} : Cont1 (L63_0 call fixW ) fun _n => L63_0 call fixW  := by
 intro v1 v1s hself v2
 unfold L63_0
 exact (lb fun _ => (condM_lim (lb fun _ => (lb fun _ => (lb fun _ => (condM_lim (LimM.const _) (lb fun _ => (hself _)))))) (LimM.const _)))
theorem FL63_0 (call : CC) (vs : List AV) : fixW (L63_0 call fixW ) vs = L63_0 call fixW  (fixW (L63_0 call fixW )) vs := fixW_eq (XL63_0 ) vs
noncomputable def S63 (call : CC) (fx : Fix AV) (a0 a1 : AV) : M AV :=
 bnd (lft (lenA T 22 a0)) fun v0 =>
 fx (L63_0 call fx) [a0, a1, v0, AV.int .i64 0]
theorem E63 (call : CC) (fx : Fix AV) (a0 a1 : AV) : evBody (pg.cx call Try.f63.ntmps ann63) fx Try.f63 (own 63) [a0, a1] = S63 call fx a0 a1 := by kernel_rfl
theorem C63 (a0 a1 : AV) : callW pg 63 [a0, a1] = isoP (S63 (callW pg) fixW (cl noHs a0) (cl noHs a1)) := (callW_iso hOther rfl rfl rfl _).trans (congrArg isoP (E63 _ _ (cl noHs a0) (cl noHs a1)))
noncomputable def S70 (call : CC) (_fx : Fix AV) (a0 a1 a2 : AV) : M AV :=
 bnd (lft (fieldAddrA T 98 (AV.ip (acells a0)) 0)) fun v0 =>
 bnd (lft (loadA T 3 v0)) fun v1 =>
 bnd (lft (fieldAddrA T 98 (AV.ip (acells a0)) 1)) fun v2 =>
 bnd (lft (loadA T 25 v2)) fun v3 =>
 bnd (noPan (call 94 [v3])) fun v4 =>
 bnd (lft (buildSliceA T 25 1 [(0, a1)])) fun v5 =>
 bnd (lft (appA T 25 v4 v5)) fun v6 =>
 bnd (lft (fieldAddrA T 98 (AV.ip (acells a0)) 2)) fun v7 =>
 bnd (lft (loadA T 23 v7)) fun v8 =>
 bnd (noPan (call 95 [v8])) fun v9 =>
 bnd (lft (loadA T 39 (AV.ip (acells a2)))) fun v10 =>
 bnd (lft (buildSliceA T 23 1 [(0, v10)])) fun v11 =>
 bnd (lft (appA T 23 v9 v11)) fun v12 =>
 bnd (lft (buildA T false 98 [(0, v1), (1, v6), (2, v12)])) fun v13 =>
 bnd (cellsNil 3 [] v13) fun v14 =>
 M.pure (AV.agg [nth (acells v14) 0, nth (acells v14) 1, nth (acells v14) 2])
theorem E70 (call : CC) (fx : Fix AV) (a0 a1 a2 : AV) : evBody (pg.cx call Try.f70.ntmps ann70) fx Try.f70 (own 70) [a0, a1, a2] = S70 call fx a0 a1 a2 := by kernel_rfl
theorem C70 (a0 a1 a2 : AV) : callW pg 70 [a0, a1, a2] = isoP (S70 (callW pg) fixW (cl noHs a0) (cl noHs a1) (cl noHs a2)) := (callW_iso hOther rfl rfl rfl _).trans (congrArg isoP (E70 _ _ (cl noHs a0) (cl noHs a1) (cl noHs a2)))
noncomputable def K71_0 (_call : CC) (_fx : Fix AV) (_v0 : List AV) : M AV :=
 bnd (lft (buildA T false 39 [])) fun v1 =>
 bnd (cellsNil 4 [] v1) fun v2 =>
 M.pure (AV.agg [nth (acells v2) 0, nth (acells v2) 1, nth (acells v2) 2, nth (acells v2) 3])
noncomputable def S71 (call : CC) (fx : Fix AV) (a0 a1 : AV) : M AV :=
 jn (K71_0 call fx) fun v3 =>
 bnd (lft (nilChkA a0)) fun v4 =>
 bnd (lft (fieldAddrA T 95 v4 1)) fun v5 =>
 bnd (lft (fieldAddrA T 43 v5 0)) fun v6 =>
 bnd (loadH T 33 v6) fun v7 =>
 bnd (lft (binA T .eql 33 v7 (AV.int .i64 0))) fun v8 =>
 condM v8 (bnd (lft (nilChkA a0)) fun v9 =>
 bnd (lft (fieldAddrA T 95 v9 1)) fun v10 =>
 bnd (lft (fieldAddrA T 43 v10 0)) fun v11 =>
 bnd (storeH T 33 v11 a1) fun _v12 =>
 v3 [AV.int .i64 0, AV.int .i64 0, AV.sl [], AV.sl []]) (v3 [AV.int .i64 0, AV.int .i64 0, AV.sl [], AV.sl []])
theorem E71 (call : CC) (fx : Fix AV) (a0 a1 : AV) : evBody (pg.cx call Try.f71.ntmps ann71) fx Try.f71 (own 71) [a0, a1] = S71 call fx a0 a1 := by kernel_rfl
theorem C71 (a0 a1 : AV) : callW pg 71 [a0, a1] = S71 (callW pg) fixW a0 a1 := (callW_heap hOther rfl rfl rfl _).trans (E71 _ _ a0 a1)
noncomputable def S74 (_call : CC) (_fx : Fix AV) (a0 : AV) : M AV :=
 bnd (lft (buildA T false 39 [(0, AV.int .i64 0), (1, a0)])) fun v0 =>
 bnd (cellsNil 4 [] v0) fun v1 =>
 M.pure (AV.agg [nth (acells v1) 0, nth (acells v1) 1, nth (acells v1) 2, nth (acells v1) 3])
theorem E74 (call : CC) (fx : Fix AV) (a0 : AV) : evBody (pg.cx call Try.f74.ntmps ann74) fx Try.f74 (own 74) [a0] = S74 call fx a0 := by kernel_rfl
theorem C74 (a0 : AV) : callW pg 74 [a0] = isoP (S74 (callW pg) fixW (cl noHs a0)) := (callW_iso hOther rfl rfl rfl _).trans (congrArg isoP (E74 _ _ (cl noHs a0)))
noncomputable def S76 (call : CC) (_fx : Fix AV) (a0 a1 a2 : AV) : M AV :=
 bnd (lft (binA T .eql 3 a0 (AV.int .i64 7))) fun v0 =>
 condM v0 (bnd (lft (fieldAddrA T 39 (AV.ip (acells a1)) 0)) fun v1 =>
 bnd (lft (loadA T 3 v1)) fun v2 =>
 bnd (lft (fieldAddrA T 39 (AV.ip (acells a2)) 0)) fun v3 =>
 bnd (lft (loadA T 3 v3)) fun v4 =>
 bnd (lft (binA T .eql 3 v2 v4)) fun v5 =>
 bnd (guardM v5 true 1 (bnd (lft (fieldAddrA T 39 (AV.ip (acells a1)) 0)) fun v6 =>
 bnd (lft (loadA T 3 v6)) fun v7 =>
 bnd (lft (binA T .neq 3 v7 (AV.int .i64 2))) fun v8 =>
 M.pure [v8])) fun v9 =>
 bnd (lft (pickA v5 (nth v9 0) (AV.bool false))) fun v10 =>
 bnd (call 69 [v10, AV.int .i64 13]) fun _v11 =>
 bnd (lft (fieldAddrA T 39 (AV.ip (acells a1)) 1)) fun v12 =>
 bnd (lft (loadA T 3 v12)) fun v13 =>
 bnd (lft (fieldAddrA T 39 (AV.ip (acells a2)) 1)) fun v14 =>
 bnd (lft (loadA T 3 v14)) fun v15 =>
 bnd (lft (binA T .eql 3 v13 v15)) fun v16 =>
 bnd (call 75 [v16]) fun v17 =>
 bnd (cellsNil 4 [] v17) fun v18 =>
 M.pure (AV.agg [nth (acells v18) 0, nth (acells v18) 1, nth (acells v18) 2, nth (acells v18) 3])) (bnd (lft (fieldAddrA T 39 (AV.ip (acells a1)) 0)) fun v19 =>
 bnd (lft (loadA T 3 v19)) fun v20 =>
 bnd (lft (binA T .eql 3 v20 (AV.int .i64 0))) fun v21 =>
 bnd (guardM v21 true 1 (bnd (lft (fieldAddrA T 39 (AV.ip (acells a2)) 0)) fun v22 =>
 bnd (lft (loadA T 3 v22)) fun v23 =>
 bnd (lft (binA T .eql 3 v23 (AV.int .i64 0))) fun v24 =>
 M.pure [v24])) fun v25 =>
 bnd (lft (pickA v21 (nth v25 0) (AV.bool false))) fun v26 =>
 bnd (call 69 [v26, AV.int .i64 13]) fun _v27 =>
 bnd (lft (binA T .eql 3 a0 (AV.int .i64 3))) fun v28 =>
 condM v28 (bnd (lft (fieldAddrA T 39 (AV.ip (acells a1)) 1)) fun v29 =>
 bnd (lft (loadA T 3 v29)) fun v30 =>
 bnd (lft (fieldAddrA T 39 (AV.ip (acells a2)) 1)) fun v31 =>
 bnd (lft (loadA T 3 v31)) fun v32 =>
 bnd (lft (binA T .add 3 v30 v32)) fun v33 =>
 bnd (call 74 [v33]) fun v34 =>
 bnd (cellsNil 4 [] v34) fun v35 =>
 M.pure (AV.agg [nth (acells v35) 0, nth (acells v35) 1, nth (acells v35) 2, nth (acells v35) 3])) (bnd (lft (binA T .eql 3 a0 (AV.int .i64 4))) fun v36 =>
 condM v36 (bnd (lft (fieldAddrA T 39 (AV.ip (acells a1)) 1)) fun v37 =>
 bnd (lft (loadA T 3 v37)) fun v38 =>
 bnd (lft (fieldAddrA T 39 (AV.ip (acells a2)) 1)) fun v39 =>
 bnd (lft (loadA T 3 v39)) fun v40 =>
 bnd (lft (binA T .sub 3 v38 v40)) fun v41 =>
 bnd (call 74 [v41]) fun v42 =>
 bnd (cellsNil 4 [] v42) fun v43 =>
 M.pure (AV.agg [nth (acells v43) 0, nth (acells v43) 1, nth (acells v43) 2, nth (acells v43) 3])) (bnd (lft (binA T .eql 3 a0 (AV.int .i64 5))) fun v44 =>
 condM v44 (bnd (lft (fieldAddrA T 39 (AV.ip (acells a1)) 1)) fun v45 =>
 bnd (lft (loadA T 3 v45)) fun v46 =>
 bnd (lft (fieldAddrA T 39 (AV.ip (acells a2)) 1)) fun v47 =>
 bnd (lft (loadA T 3 v47)) fun v48 =>
 bnd (lft (binA T .mul 3 v46 v48)) fun v49 =>
 bnd (call 74 [v49]) fun v50 =>
 bnd (cellsNil 4 [] v50) fun v51 =>
 M.pure (AV.agg [nth (acells v51) 0, nth (acells v51) 1, nth (acells v51) 2, nth (acells v51) 3])) (bnd (lft (fieldAddrA T 39 (AV.ip (acells a1)) 1)) fun v52 =>
 bnd (lft (loadA T 3 v52)) fun v53 =>
 bnd (lft (fieldAddrA T 39 (AV.ip (acells a2)) 1)) fun v54 =>
 bnd (lft (loadA T 3 v54)) fun v55 =>
 bnd (lft (binA T .lss 3 v53 v55)) fun v56 =>
 bnd (call 75 [v56]) fun v57 =>
 bnd (cellsNil 4 [] v57) fun v58 =>
 M.pure (AV.agg [nth (acells v58) 0, nth (acells v58) 1, nth (acells v58) 2, nth (acells v58) 3])))))
theorem E76 (call : CC) (fx : Fix AV) (a0 a1 a2 : AV) : evBody (pg.cx call Try.f76.ntmps ann76) fx Try.f76 (own 76) [a0, a1, a2] = S76 call fx a0 a1 a2 := by kernel_rfl
theorem C76 (a0 a1 a2 : AV) : callW pg 76 [a0, a1, a2] = S76 (callW pg) fixW a0 a1 a2 := (callW_heap hOther rfl rfl rfl _).trans (E76 _ _ a0 a1 a2)
noncomputable def K82_0 (_call : CC) (_fx : Fix AV) (v3 : List AV) : M AV :=
 condM (nth v3 1) (M.pure (AV.int .i64 (-1))) (bnd (lft (binA T .gtr 3 (nth v3 0) (AV.int .i64 2))) fun v4 =>
 bnd (guardM v4 true 1 (bnd (lft (binA T .leq 3 (nth v3 0) (AV.int .i64 12))) fun v5 =>
 M.pure [v5])) fun v6 =>
 bnd (lft (pickA v4 (nth v6 0) (AV.bool false))) fun v7 =>
 condM v7 (M.pure (AV.int .i64 2)) (M.pure (AV.int .i64 (-2))))
noncomputable def K82_1 (call : CC) (fx : Fix AV) (v1 : List AV) : M AV :=
 condM (nth v1 2) (M.pure (AV.int .i64 1)) (bnd (lft (binA T .eql 3 (nth v1 1) (AV.int .i64 11))) fun v2 =>
 condM v2 (M.pure (AV.int .i64 3)) (jn (K82_0 call fx) fun v8 =>
 bnd (lft (binA T .eql 3 (nth v1 1) (AV.int .i64 13))) fun v9 =>
 condM v9 (v8 [nth v1 0, v9]) (bnd (lft (binA T .eql 3 (nth v1 1) (AV.int .i64 15))) fun v10 =>
 v8 [nth v1 0, v10])))
noncomputable def K82_2 (call : CC) (fx : Fix AV) (v0 : List AV) : M AV :=
 condM (nth v0 2) (M.pure (AV.int .i64 0)) (jn (K82_1 call fx) fun v11 =>
 bnd (lft (binA T .eql 3 (nth v0 1) (AV.int .i64 10))) fun v12 =>
 condM v12 (v11 [nth v0 0, nth v0 1, v12]) (bnd (lft (binA T .eql 3 (nth v0 1) (AV.int .i64 14))) fun v13 =>
 condM v13 (v11 [nth v0 0, nth v0 1, v13]) (bnd (lft (binA T .eql 3 (nth v0 1) (AV.int .i64 16))) fun v14 =>
 condM v14 (v11 [nth v0 0, nth v0 1, v14]) (bnd (lft (binA T .eql 3 (nth v0 1) (AV.int .i64 18))) fun v15 =>
 v11 [nth v0 0, nth v0 1, v15]))))
noncomputable def S82 (call : CC) (fx : Fix AV) (a0 : AV) : M AV :=
 jn (K82_2 call fx) fun v16 =>
 bnd (lft (binA T .eql 3 a0 (AV.int .i64 0))) fun v17 =>
 condM v17 (v16 [a0, a0, v17]) (bnd (lft (binA T .eql 3 a0 (AV.int .i64 1))) fun v18 =>
 condM v18 (v16 [a0, a0, v18]) (bnd (lft (binA T .eql 3 a0 (AV.int .i64 2))) fun v19 =>
 condM v19 (v16 [a0, a0, v19]) (bnd (lft (binA T .eql 3 a0 (AV.int .i64 17))) fun v20 =>
 v16 [a0, a0, v20])))
theorem E82 (call : CC) (fx : Fix AV) (a0 : AV) : evBody (pg.cx call Try.f82.ntmps ann82) fx Try.f82 (own 82) [a0] = S82 call fx a0 := by kernel_rfl
theorem C82 (a0 : AV) : callW pg 82 [a0] = isoP (S82 (callW pg) fixW (cl noHs a0)) := (callW_iso hOther rfl rfl rfl _).trans (congrArg isoP (E82 _ _ (cl noHs a0)))
noncomputable def K86_0 (_call : CC) (_fx : Fix AV) (v39 : List AV) : M AV :=
 bnd (lft (nilChkA (nth v39 0))) fun v40 =>
 bnd (lft (fieldAddrA T 95 v40 1)) fun v41 =>
 bnd (lft (fieldAddrA T 43 v41 2)) fun v42 =>
 bnd (loadH T 40 v42) fun v43 =>
 bnd (lft (fieldAddrA T 28 (nth v39 1) 1)) fun v44 =>
 bnd (lft (loadA T 3 v44)) fun v45 =>
 bnd (lft (fieldAddrA T 39 (nth v39 2) 1)) fun v46 =>
 bnd (lft (loadA T 3 v46)) fun v47 =>
 bnd (lft (buildA T false 55 [(0, v45), (1, v47), (2, nth v39 3)])) fun v48 =>
 bnd (lft (buildSliceA T 40 1 [(0, v48)])) fun v49 =>
 bnd (appH T 40 false v43 v49) fun v50 =>
 bnd (lft (nilChkA (nth v39 0))) fun v51 =>
 bnd (lft (fieldAddrA T 95 v51 1)) fun v52 =>
 bnd (lft (fieldAddrA T 43 v52 2)) fun v53 =>
 bnd (storeH T 40 v53 v50) fun _v54 =>
 bnd (lft (buildA T false 39 [(0, AV.int .i64 0), (1, nth v39 3)])) fun v55 =>
 bnd (cellsNil 4 [] v55) fun v56 =>
 M.pure (AV.agg [nth (acells v56) 0, nth (acells v56) 1, nth (acells v56) 2, nth (acells v56) 3])
noncomputable def S86 (call : CC) (fx : Fix AV) (a0 a1 a2 : AV) : M AV :=
 bnd (lft (loadA T 101 (AV.ip (acells a1)))) fun v0 =>
 bnd (lft (fieldAddrA T 28 (AV.ip (acells a2)) 5)) fun v1 =>
 bnd (lft (loadA T 26 v1)) fun v2 =>
 bnd (lft (indexAddrA T 26 v2 (AV.int .i64 0))) fun v3 =>
 bnd (lft (loadA T 28 v3)) fun v4 =>
 bnd (call 51 [a0, v0, v4]) fun v5 =>
 bnd (cellsM 4 v5) fun v6 =>
 bnd (lft (nilChkA a0)) fun v7 =>
 bnd (lft (fieldAddrA T 95 v7 1)) fun v8 =>
 bnd (lft (fieldAddrA T 43 v8 0)) fun v9 =>
 bnd (loadH T 33 v9) fun v10 =>
 bnd (lft (binA T .neq 33 v10 (AV.int .i64 0))) fun v11 =>
 condM v11 (bnd (lft (loadA T 39 (AV.ip (acells v6)))) fun v12 =>
 bnd (cellsNil 4 [] v12) fun v13 =>
 M.pure (AV.agg [nth (acells v13) 0, nth (acells v13) 1, nth (acells v13) 2, nth (acells v13) 3])) (bnd (lft (fieldAddrA T 39 (AV.ip (acells v6)) 0)) fun v14 =>
 bnd (lft (loadA T 3 v14)) fun v15 =>
 bnd (lft (binA T .neq 3 v15 (AV.int .i64 0))) fun v16 =>
 condM v16 (bnd (call 71 [a0, AV.int .i64 13]) fun v17 =>
 bnd (cellsNil 4 [] v17) fun v18 =>
 M.pure (AV.agg [nth (acells v18) 0, nth (acells v18) 1, nth (acells v18) 2, nth (acells v18) 3])) (bnd (lft (fieldAddrA T 28 (AV.ip (acells a2)) 1)) fun v19 =>
 bnd (lft (loadA T 3 v19)) fun v20 =>
 bnd (lft (binA T .neq 3 v20 (AV.int .i64 1))) fun v21 =>
 bnd (guardM v21 true 1 (bnd (lft (fieldAddrA T 28 (AV.ip (acells a2)) 1)) fun v22 =>
 bnd (lft (loadA T 3 v22)) fun v23 =>
 bnd (lft (binA T .neq 3 v23 (AV.int .i64 2))) fun v24 =>
 M.pure [v24])) fun v25 =>
 bnd (lft (pickA v21 (nth v25 0) (AV.bool false))) fun v26 =>
 bnd (guardM v26 true 1 (bnd (lft (fieldAddrA T 28 (AV.ip (acells a2)) 1)) fun v27 =>
 bnd (lft (loadA T 3 v27)) fun v28 =>
 bnd (lft (binA T .neq 3 v28 (AV.int .i64 4))) fun v29 =>
 M.pure [v29])) fun v30 =>
 bnd (lft (pickA v26 (nth v30 0) (AV.bool false))) fun v31 =>
 bnd (guardM v31 true 1 (bnd (lft (fieldAddrA T 28 (AV.ip (acells a2)) 1)) fun v32 =>
 bnd (lft (loadA T 3 v32)) fun v33 =>
 bnd (lft (binA T .neq 3 v33 (AV.int .i64 8))) fun v34 =>
 M.pure [v34])) fun v35 =>
 bnd (lft (pickA v31 (nth v35 0) (AV.bool false))) fun v36 =>
 condM v36 (bnd (call 71 [a0, AV.int .i64 14]) fun v37 =>
 bnd (cellsNil 4 [] v37) fun v38 =>
 M.pure (AV.agg [nth (acells v38) 0, nth (acells v38) 1, nth (acells v38) 2, nth (acells v38) 3])) (jn (K86_0 call fx) fun v57 =>
 bnd (lft (nilChkA a0)) fun v58 =>
 bnd (lft (fieldAddrA T 95 v58 3)) fun v59 =>
 bnd (loadH T 3 v59) fun v60 =>
 bnd (lft (nilChkA a0)) fun v61 =>
 bnd (lft (fieldAddrA T 95 v61 2)) fun v62 =>
 bnd (loadH T 24 v62) fun v63 =>
 bnd (lft (lenA T 24 v63)) fun v64 =>
 bnd (lft (binA T .lss 3 v60 v64)) fun v65 =>
 condM v65 (bnd (lft (nilChkA a0)) fun v66 =>
 bnd (lft (fieldAddrA T 95 v66 2)) fun v67 =>
 bnd (loadH T 24 v67) fun v68 =>
 bnd (lft (nilChkA a0)) fun v69 =>
 bnd (lft (fieldAddrA T 95 v69 3)) fun v70 =>
 bnd (loadH T 3 v70) fun v71 =>
 bnd (lft (indexAddrA T 24 v68 v71)) fun v72 =>
 bnd (lft (loadA T 3 v72)) fun v73 =>
 bnd (lft (nilChkA a0)) fun v74 =>
 bnd (lft (fieldAddrA T 95 v74 3)) fun v75 =>
 bnd (loadH T 3 v75) fun v76 =>
 bnd (lft (binA T .add 3 v76 (AV.int .i64 1))) fun v77 =>
 bnd (lft (nilChkA a0)) fun v78 =>
 bnd (lft (fieldAddrA T 95 v78 3)) fun v79 =>
 bnd (storeH T 3 v79 v77) fun _v80 =>
 v57 [a0, AV.ip (acells a2), AV.ip (acells v6), v73, AV.int .i64 0, AV.int .i64 0, AV.sl [], AV.sl []]) (v57 [a0, AV.ip (acells a2), AV.ip (acells v6), AV.int .i64 0, AV.int .i64 0, AV.int .i64 0, AV.sl [], AV.sl []]))))
theorem E86 (call : CC) (fx : Fix AV) (a0 a1 a2 : AV) : evBody (pg.cx call Try.f86.ntmps ann86) fx Try.f86 (own 86) [a0, a1, a2] = S86 call fx a0 a1 a2 := by kernel_rfl
theorem C86 (a0 a1 a2 : AV) : callW pg 86 [a0, a1, a2] = S86 (callW pg) fixW a0 a1 a2 := (callW_heap hOther rfl rfl rfl _).trans (E86 _ _ a0 a1 a2)
noncomputable def K87_0 (_call : CC) (_fx : Fix AV) (v52 : List AV) : M AV :=
 bnd (lft (loadA T 39 (nth v52 0))) fun v53 =>
 bnd (cellsNil 4 [] v53) fun v54 =>
 M.pure (AV.agg [nth (acells v54) 0, nth (acells v54) 1, nth (acells v54) 2, nth (acells v54) 3])
noncomputable def L87_0 (call : CC) (fx : Fix AV) (v13 : List AV → M AV) (v14 : List AV) : M AV :=
 bnd (lft (lenA T 58 (nth v14 3))) fun v15 =>
 bnd (lft (binA T .lss 3 (nth v14 4) v15)) fun v16 =>
 bnd (guardM v16 true 1 (bnd (lft (indexAddrA T 58 (nth v14 3) (nth v14 4))) fun v17 =>
 bnd (lft (fieldAddrA T 104 v17 0)) fun v18 =>
 bnd (lft (loadA T 9 v18)) fun v19 =>
 bnd (lft (fieldAddrA T 28 (nth v14 2) 2)) fun v20 =>
 bnd (lft (loadA T 9 v20)) fun v21 =>
 bnd (lft (binA T .neq 9 v19 v21)) fun v22 =>
 M.pure [v22])) fun v23 =>
 bnd (lft (pickA v16 (nth v23 0) (AV.bool false))) fun v24 =>
 condM v24 (bnd (lft (binA T .add 3 (nth v14 4) (AV.int .i64 1))) fun v25 =>
 v13 [nth v14 0, nth v14 1, nth v14 2, nth v14 3, v25, nth v14 5, nth v14 6, nth v14 7, nth v14 8]) (bnd (lft (lenA T 58 (nth v14 3))) fun v26 =>
 bnd (lft (binA T .geq 3 (nth v14 4) v26)) fun v27 =>
 condM v27 (bnd (call 71 [nth v14 0, AV.int .i64 12]) fun v28 =>
 bnd (cellsNil 4 [] v28) fun v29 =>
 M.pure (AV.agg [nth (acells v29) 0, nth (acells v29) 1, nth (acells v29) 2, nth (acells v29) 3])) (bnd (lft (fieldAddrA T 28 (nth v14 2) 0)) fun v30 =>
 bnd (lft (loadA T 3 v30)) fun v31 =>
 bnd (lft (binA T .eql 3 v31 (AV.int .i64 17))) fun v32 =>
 condM v32 (bnd (lft (nilChkA (nth v14 0))) fun v33 =>
 bnd (lft (fieldAddrA T 95 v33 1)) fun v34 =>
 bnd (lft (fieldAddrA T 43 v34 4)) fun v35 =>
 bnd (loadH T 32 v35) fun v36 =>
 bnd (lft (fieldAddrA T 101 (nth v14 1) 0)) fun v37 =>
 bnd (lft (loadA T 3 v37)) fun v38 =>
 bnd (lft (indexAddrA T 32 v36 v38)) fun v39 =>
 bnd (lft (fieldAddrA T 47 v39 1)) fun v40 =>
 bnd (loadH T 23 v40) fun v41 =>
 bnd (lft (indexAddrA T 23 v41 (nth v14 4))) fun v42 =>
 bnd (loadH T 39 v42) fun v43 =>
 bnd (cellsNil 4 [] v43) fun v44 =>
 M.pure (AV.agg [nth (acells v44) 0, nth (acells v44) 1, nth (acells v44) 2, nth (acells v44) 3])) (bnd (lft (loadA T 101 (nth v14 1))) fun v45 =>
 bnd (lft (fieldAddrA T 28 (nth v14 2) 5)) fun v46 =>
 bnd (lft (loadA T 26 v46)) fun v47 =>
 bnd (lft (indexAddrA T 26 v47 (AV.int .i64 0))) fun v48 =>
 bnd (lft (loadA T 28 v48)) fun v49 =>
 bnd (call 51 [nth v14 0, v45, v49]) fun v50 =>
 bnd (cellsM 4 v50) fun v51 =>
 jn (K87_0 call fx) fun v55 =>
 bnd (lft (nilChkA (nth v14 0))) fun v56 =>
 bnd (lft (fieldAddrA T 95 v56 1)) fun v57 =>
 bnd (lft (fieldAddrA T 43 v57 0)) fun v58 =>
 bnd (loadH T 33 v58) fun v59 =>
 bnd (lft (binA T .eql 33 v59 (AV.int .i64 0))) fun v60 =>
 condM v60 (bnd (lft (nilChkA (nth v14 0))) fun v61 =>
 bnd (lft (fieldAddrA T 95 v61 1)) fun v62 =>
 bnd (lft (fieldAddrA T 43 v62 4)) fun v63 =>
 bnd (loadH T 32 v63) fun v64 =>
 bnd (lft (fieldAddrA T 101 (nth v14 1) 0)) fun v65 =>
 bnd (lft (loadA T 3 v65)) fun v66 =>
 bnd (lft (indexAddrA T 32 v64 v66)) fun v67 =>
 bnd (lft (fieldAddrA T 47 v67 1)) fun v68 =>
 bnd (loadH T 23 v68) fun v69 =>
 bnd (lft (loadA T 39 (AV.ip (acells v51)))) fun v70 =>
 bnd (lft (indexAddrA T 23 v69 (nth v14 4))) fun v71 =>
 bnd (storeH T 39 v71 v70) fun _v72 =>
 v55 [AV.ip (acells v51), nth v14 5, nth v14 6, nth v14 7, nth v14 8]) (v55 [AV.ip (acells v51), nth v14 5, nth v14 6, nth v14 7, nth v14 8]))))
theorem XL87_0 {call : CC} : Cont1 (L87_0 call fixW ) fun _n => L87_0 call fixW  := by
 intro v13 v13s hself v14
 unfold L87_0
 exact (lb fun _ => (lb fun _ => (lb fun _ => (lb fun _ => (condM_lim (lb fun _ => (hself _)) (LimM.const _))))))
theorem FL87_0 (call : CC) (vs : List AV) : fixW (L87_0 call fixW ) vs = L87_0 call fixW  (fixW (L87_0 call fixW )) vs := fixW_eq (XL87_0 ) vs
noncomputable def S87 (call : CC) (fx : Fix AV) (a0 a1 a2 : AV) : M AV :=
 bnd (lft (fieldAddrA T 101 (AV.ip (acells a1)) 0)) fun v0 =>
 bnd (lft (loadA T 3 v0)) fun v1 =>
 bnd (lft (binA T .lss 3 v1 (AV.int .i64 0))) fun v2 =>
 condM v2 (bnd (call 71 [a0, AV.int .i64 12]) fun v3 =>
 bnd (cellsNil 4 [] v3) fun v4 =>
 M.pure (AV.agg [nth (acells v4) 0, nth (acells v4) 1, nth (acells v4) 2, nth (acells v4) 3])) (bnd (lft (nilChkA a0)) fun v5 =>
 bnd (lft (fieldAddrA T 95 v5 0)) fun v6 =>
 bnd (loadH T 22 v6) fun v7 =>
 bnd (lft (fieldAddrA T 101 (AV.ip (acells a1)) 0)) fun v8 =>
 bnd (lft (loadA T 3 v8)) fun v9 =>
 bnd (lft (indexAddrA T 22 v7 v9)) fun v10 =>
 bnd (lft (fieldAddrA T 63 v10 2)) fun v11 =>
 bnd (lft (loadA T 58 v11)) fun v12 =>
 fx (L87_0 call fx) [a0, AV.ip (acells a1), AV.ip (acells a2), v12, AV.int .i64 0, AV.int .i64 0, AV.int .i64 0, AV.sl [], AV.sl []])
theorem E87 (call : CC) (fx : Fix AV) (a0 a1 a2 : AV) : evBody (pg.cx call Try.f87.ntmps ann87) fx Try.f87 (own 87) [a0, a1, a2] = S87 call fx a0 a1 a2 := by kernel_rfl
theorem C87 (a0 a1 a2 : AV) : callW pg 87 [a0, a1, a2] = S87 (callW pg) fixW a0 a1 a2 := (callW_heap hOther rfl rfl rfl _).trans (E87 _ _ a0 a1 a2)
noncomputable def L88_0 (call : CC) (_fx : Fix AV) (v17 : List AV → M AV) (v18 : List AV) : M AV :=
 bnd (lft (fieldAddrA T 39 (nth v18 2) 2)) fun v19 =>
 bnd (lft (loadA T 25 v19)) fun v20 =>
 bnd (lft (lenA T 25 v20)) fun v21 =>
 bnd (lft (binA T .lss 3 (nth v18 3) v21)) fun v22 =>
 condM v22 (bnd (lft (fieldAddrA T 39 (nth v18 2) 2)) fun v23 =>
 bnd (lft (loadA T 25 v23)) fun v24 =>
 bnd (lft (indexAddrA T 25 v24 (nth v18 3))) fun v25 =>
 bnd (lft (loadA T 9 v25)) fun v26 =>
 bnd (lft (fieldAddrA T 28 (nth v18 1) 2)) fun v27 =>
 bnd (lft (loadA T 9 v27)) fun v28 =>
 bnd (lft (binA T .eql 9 v26 v28)) fun v29 =>
 condM v29 (bnd (lft (fieldAddrA T 39 (nth v18 2) 3)) fun v30 =>
 bnd (lft (loadA T 23 v30)) fun v31 =>
 bnd (lft (indexAddrA T 23 v31 (nth v18 3))) fun v32 =>
 bnd (lft (loadA T 39 v32)) fun v33 =>
 bnd (cellsNil 4 [] v33) fun v34 =>
 M.pure (AV.agg [nth (acells v34) 0, nth (acells v34) 1, nth (acells v34) 2, nth (acells v34) 3])) (bnd (lft (binA T .add 3 (nth v18 3) (AV.int .i64 1))) fun v35 =>
 v17 [nth v18 0, nth v18 1, nth v18 2, v35, nth v18 4, nth v18 5, nth v18 6, nth v18 7])) (bnd (call 71 [nth v18 0, AV.int .i64 13]) fun v36 =>
 bnd (cellsNil 4 [] v36) fun v37 =>
 M.pure (AV.agg [nth (acells v37) 0, nth (acells v37) 1, nth (acells v37) 2, nth (acells v37) 3]))
noncomputable def K88_0 (call : CC) (_fx : Fix AV) (v38 : List AV) : M AV :=
 condM (nth v38 4) (bnd (lft (fieldAddrA T 39 (nth v38 3) 0)) fun v39 =>
 bnd (lft (loadA T 3 v39)) fun v40 =>
 bnd (lft (binA T .neq 3 v40 (AV.int .i64 1))) fun v41 =>
 condM v41 (bnd (call 71 [nth v38 0, AV.int .i64 13]) fun v42 =>
 bnd (cellsNil 4 [] v42) fun v43 =>
 M.pure (AV.agg [nth (acells v43) 0, nth (acells v43) 1, nth (acells v43) 2, nth (acells v43) 3])) (bnd (lft (fieldAddrA T 28 (nth v38 2) 0)) fun v44 =>
 bnd (lft (loadA T 3 v44)) fun v45 =>
 bnd (lft (binA T .eql 3 v45 (AV.int .i64 10))) fun v46 =>
 condM v46 (bnd (lft (fieldAddrA T 39 (nth v38 3) 1)) fun v47 =>
 bnd (lft (loadA T 3 v47)) fun v48 =>
 bnd (lft (binA T .eql 3 v48 (AV.int .i64 0))) fun v49 =>
 bnd (call 83 [v49]) fun v50 =>
 bnd (cellsNil 4 [] v50) fun v51 =>
 M.pure (AV.agg [nth (acells v51) 0, nth (acells v51) 1, nth (acells v51) 2, nth (acells v51) 3])) (bnd (lft (fieldAddrA T 28 (nth v38 2) 0)) fun v52 =>
 bnd (lft (loadA T 3 v52)) fun v53 =>
 bnd (lft (binA T .eql 3 v53 (AV.int .i64 11))) fun v54 =>
 condM v54 (bnd (lft (loadA T 101 (nth v38 1))) fun v55 =>
 bnd (lft (fieldAddrA T 28 (nth v38 2) 5)) fun v56 =>
 bnd (lft (loadA T 26 v56)) fun v57 =>
 bnd (lft (fieldAddrA T 39 (nth v38 3) 1)) fun v58 =>
 bnd (lft (loadA T 3 v58)) fun v59 =>
 bnd (lft (binA T .sub 3 (AV.int .i64 2) v59)) fun v60 =>
 bnd (lft (indexAddrA T 26 v57 v60)) fun v61 =>
 bnd (lft (loadA T 28 v61)) fun v62 =>
 bnd (call 51 [nth v38 0, v55, v62]) fun v63 =>
 bnd (cellsNil 4 [] v63) fun v64 =>
 M.pure (AV.agg [nth (acells v64) 0, nth (acells v64) 1, nth (acells v64) 2, nth (acells v64) 3])) (bnd (lft (fieldAddrA T 39 (nth v38 3) 1)) fun v65 =>
 bnd (lft (loadA T 3 v65)) fun v66 =>
 bnd (lft (binA T .eql 3 v66 (AV.int .i64 1))) fun v67 =>
 bnd (lft (fieldAddrA T 28 (nth v38 2) 0)) fun v68 =>
 bnd (lft (loadA T 3 v68)) fun v69 =>
 bnd (lft (binA T .eql 3 v69 (AV.int .i64 9))) fun v70 =>
 bnd (lft (binA T .eql 4 v67 v70)) fun v71 =>
 condM v71 (bnd (lft (loadA T 39 (nth v38 3))) fun v72 =>
 bnd (cellsNil 4 [] v72) fun v73 =>
 M.pure (AV.agg [nth (acells v73) 0, nth (acells v73) 1, nth (acells v73) 2, nth (acells v73) 3])) (bnd (lft (loadA T 101 (nth v38 1))) fun v74 =>
 bnd (lft (fieldAddrA T 28 (nth v38 2) 5)) fun v75 =>
 bnd (lft (loadA T 26 v75)) fun v76 =>
 bnd (lft (indexAddrA T 26 v76 (AV.int .i64 1))) fun v77 =>
 bnd (lft (loadA T 28 v77)) fun v78 =>
 bnd (call 51 [nth v38 0, v74, v78]) fun v79 =>
 bnd (cellsM 4 v79) fun v80 =>
 bnd (lft (nilChkA (nth v38 0))) fun v81 =>
 bnd (lft (fieldAddrA T 95 v81 1)) fun v82 =>
 bnd (lft (fieldAddrA T 43 v82 0)) fun v83 =>
 bnd (loadH T 33 v83) fun v84 =>
 bnd (lft (binA T .eql 33 v84 (AV.int .i64 0))) fun v85 =>
 bnd (guardM v85 true 1 (bnd (lft (fieldAddrA T 39 (AV.ip (acells v80)) 0)) fun v86 =>
 bnd (lft (loadA T 3 v86)) fun v87 =>
 bnd (lft (binA T .neq 3 v87 (AV.int .i64 1))) fun v88 =>
 M.pure [v88])) fun v89 =>
 bnd (lft (pickA v85 (nth v89 0) (AV.bool false))) fun v90 =>
 condM v90 (bnd (call 71 [nth v38 0, AV.int .i64 13]) fun v91 =>
 bnd (cellsNil 4 [] v91) fun v92 =>
 M.pure (AV.agg [nth (acells v92) 0, nth (acells v92) 1, nth (acells v92) 2, nth (acells v92) 3])) (bnd (lft (loadA T 39 (AV.ip (acells v80)))) fun v93 =>
 bnd (cellsNil 4 [] v93) fun v94 =>
 M.pure (AV.agg [nth (acells v94) 0, nth (acells v94) 1, nth (acells v94) 2, nth (acells v94) 3]))))))) (bnd (lft (loadA T 101 (nth v38 1))) fun v95 =>
 bnd (lft (fieldAddrA T 28 (nth v38 2) 5)) fun v96 =>
 bnd (lft (loadA T 26 v96)) fun v97 =>
 bnd (lft (indexAddrA T 26 v97 (AV.int .i64 1))) fun v98 =>
 bnd (lft (loadA T 28 v98)) fun v99 =>
 bnd (call 51 [nth v38 0, v95, v99]) fun v100 =>
 bnd (cellsM 4 v100) fun v101 =>
 bnd (lft (nilChkA (nth v38 0))) fun v102 =>
 bnd (lft (fieldAddrA T 95 v102 1)) fun v103 =>
 bnd (lft (fieldAddrA T 43 v103 0)) fun v104 =>
 bnd (loadH T 33 v104) fun v105 =>
 bnd (lft (binA T .neq 33 v105 (AV.int .i64 0))) fun v106 =>
 condM v106 (bnd (lft (loadA T 39 (AV.ip (acells v101)))) fun v107 =>
 bnd (cellsNil 4 [] v107) fun v108 =>
 M.pure (AV.agg [nth (acells v108) 0, nth (acells v108) 1, nth (acells v108) 2, nth (acells v108) 3])) (bnd (lft (fieldAddrA T 28 (nth v38 2) 0)) fun v109 =>
 bnd (lft (loadA T 3 v109)) fun v110 =>
 bnd (lft (loadA T 39 (nth v38 3))) fun v111 =>
 bnd (lft (loadA T 39 (AV.ip (acells v101)))) fun v112 =>
 bnd (call 101 [nth v38 0, v110, v111, v112]) fun v113 =>
 bnd (cellsNil 4 [] v113) fun v114 =>
 M.pure (AV.agg [nth (acells v114) 0, nth (acells v114) 1, nth (acells v114) 2, nth (acells v114) 3])))
theorem XL88_0 {call : CC} : Cont1 (L88_0 call fixW ) fun _n => L88_0 call fixW  := by
 intro v17 v17s hself v18
 unfold L88_0
 exact (lb fun _ => (lb fun _ => (lb fun _ => (lb fun _ => (condM_lim (lb fun _ => (lb fun _ => (lb fun _ => (lb fun _ => (lb fun _ => (lb fun _ => (lb fun _ => (condM_lim (LimM.const _) (lb fun _ => (hself _)))))))))) (LimM.const _))))))
theorem FL88_0 (call : CC) (vs : List AV) : fixW (L88_0 call fixW ) vs = L88_0 call fixW  (fixW (L88_0 call fixW )) vs := fixW_eq (XL88_0 ) vs
noncomputable def S88 (call : CC) (fx : Fix AV) (a0 a1 a2 : AV) : M AV :=
 bnd (lft (loadA T 101 (AV.ip (acells a1)))) fun v0 =>
 bnd (lft (fieldAddrA T 28 (AV.ip (acells a2)) 5)) fun v1 =>
 bnd (lft (loadA T 26 v1)) fun v2 =>
 bnd (lft (indexAddrA T 26 v2 (AV.int .i64 0))) fun v3 =>
 bnd (lft (loadA T 28 v3)) fun v4 =>
 bnd (call 51 [a0, v0, v4]) fun v5 =>
 bnd (cellsM 4 v5) fun v6 =>
 bnd (lft (nilChkA a0)) fun v7 =>
 bnd (lft (fieldAddrA T 95 v7 1)) fun v8 =>
 bnd (lft (fieldAddrA T 43 v8 0)) fun v9 =>
 bnd (loadH T 33 v9) fun v10 =>
 bnd (lft (binA T .neq 33 v10 (AV.int .i64 0))) fun v11 =>
 condM v11 (bnd (lft (loadA T 39 (AV.ip (acells v6)))) fun v12 =>
 bnd (cellsNil 4 [] v12) fun v13 =>
 M.pure (AV.agg [nth (acells v13) 0, nth (acells v13) 1, nth (acells v13) 2, nth (acells v13) 3])) (bnd (lft (fieldAddrA T 28 (AV.ip (acells a2)) 0)) fun v14 =>
 bnd (lft (loadA T 3 v14)) fun v15 =>
 bnd (lft (binA T .eql 3 v15 (AV.int .i64 14))) fun v16 =>
 condM v16 (fx (L88_0 call fx) [a0, AV.ip (acells a2), AV.ip (acells v6), AV.int .i64 0, AV.int .i64 0, AV.int .i64 0, AV.sl [], AV.sl []]) (jn (K88_0 call fx) fun v115 =>
 bnd (lft (binA T .eql 3 v15 (AV.int .i64 10))) fun v116 =>
 condM v116 (v115 [a0, AV.ip (acells a1), AV.ip (acells a2), AV.ip (acells v6), v116, AV.int .i64 0, AV.int .i64 0, AV.sl [], AV.sl []]) (bnd (lft (binA T .eql 3 v15 (AV.int .i64 11))) fun v117 =>
 condM v117 (v115 [a0, AV.ip (acells a1), AV.ip (acells a2), AV.ip (acells v6), v117, AV.int .i64 0, AV.int .i64 0, AV.sl [], AV.sl []]) (bnd (lft (binA T .eql 3 v15 (AV.int .i64 8))) fun v118 =>
 condM v118 (v115 [a0, AV.ip (acells a1), AV.ip (acells a2), AV.ip (acells v6), v118, AV.int .i64 0, AV.int .i64 0, AV.sl [], AV.sl []]) (bnd (lft (binA T .eql 3 v15 (AV.int .i64 9))) fun v119 =>
 v115 [a0, AV.ip (acells a1), AV.ip (acells a2), AV.ip (acells v6), v119, AV.int .i64 0, AV.int .i64 0, AV.sl [], AV.sl []])))))
theorem E88 (call : CC) (fx : Fix AV) (a0 a1 a2 : AV) : evBody (pg.cx call Try.f88.ntmps ann88) fx Try.f88 (own 88) [a0, a1, a2] = S88 call fx a0 a1 a2 := by kernel_rfl
theorem C88 (a0 a1 a2 : AV) : callW pg 88 [a0, a1, a2] = S88 (callW pg) fixW a0 a1 a2 := (callW_heap hOther rfl rfl rfl _).trans (E88 _ _ a0 a1 a2)
noncomputable def L91_0 (_call : CC) (_fx : Fix AV) (v0 : List AV → M AV) (v1 : List AV) : M AV :=
 bnd (lft (lenA T 25 (nth v1 0))) fun v2 =>
 bnd (lft (binA T .lss 3 (nth v1 1) v2)) fun v3 =>
 condM v3 (bnd (lft (binA T .sub 3 (nth v1 1) (AV.int .i64 1))) fun v4 =>
 bnd (lft (indexAddrA T 25 (nth v1 0) v4)) fun v5 =>
 bnd (lft (loadA T 9 v5)) fun v6 =>
 bnd (lft (indexAddrA T 25 (nth v1 0) (nth v1 1))) fun v7 =>
 bnd (lft (loadA T 9 v7)) fun v8 =>
 bnd (lft (binA T .geq 9 v6 v8)) fun v9 =>
 condM v9 (M.pure (AV.bool false)) (bnd (lft (binA T .add 3 (nth v1 1) (AV.int .i64 1))) fun v10 =>
 v0 [nth v1 0, v10])) (M.pure (AV.bool true))
noncomputable def S91 (call : CC) (fx : Fix AV) (a0 : AV) : M AV :=
 fx (L91_0 call fx) [a0, AV.int .i64 1]
theorem E91 (call : CC) (fx : Fix AV) (a0 : AV) : evBody (pg.cx call Try.f91.ntmps ann91) fx Try.f91 (own 91) [a0] = S91 call fx a0 := by kernel_rfl
theorem C91 (a0 : AV) : callW pg 91 [a0] = isoP (S91 (callW pg) fixW (cl noHs a0)) := (callW_iso hOther rfl rfl rfl _).trans (congrArg isoP (E91 _ _ (cl noHs a0)))
noncomputable def S95 (_call : CC) (_fx : Fix AV) (a0 : AV) : M AV :=
 bnd (lft (lenA T 23 a0)) fun v0 =>
 bnd (lft (lenA T 23 a0)) fun v1 =>
 bnd (lft (sliceA T 23 a0 none (some v0) (some v1))) fun v2 =>
 M.pure v2
theorem E95 (call : CC) (fx : Fix AV) (a0 : AV) : evBody (pg.cx call Try.f95.ntmps ann95) fx Try.f95 (own 95) [a0] = S95 call fx a0 := by kernel_rfl
theorem C95 (a0 : AV) : callW pg 95 [a0] = isoP (S95 (callW pg) fixW (cl noHs a0)) := (callW_iso hOther rfl rfl rfl _).trans (congrArg isoP (E95 _ _ (cl noHs a0)))
end Go.Proofs.Ytgbopmciiadmlaa

namespace Go.Proofs.Ytgbopmciiadmlaa
open Go Go.Av
set_option maxRecDepth 100000
noncomputable def L10_0 (call : CC) (_fx : Fix AV) (v3 : List AV → M AV) (v23 : List AV → M AV) (v24 : List AV) : M AV :=
 bnd (lft (binA T .lss 3 (nth v24 6) (nth v24 5))) fun v25 =>
 condM v25 (bnd (lft (indexAddrA T 26 (nth v24 4) (nth v24 6))) fun v26 =>
 bnd (lft (loadA T 28 v26)) fun v27 =>
 bnd (cellsM 6 v27) fun v28 =>
 bnd (lft (loadA T 28 (AV.ip (acells v28)))) fun v29 =>
 bnd (call 19 [v29, AV.sl [], AV.sl []]) fun v30 =>
 bnd (lft (extractA v30 0)) fun v31 =>
 bnd (lft (extractA v30 1)) fun v32 =>
 bnd (cellsM 4 v31) fun v33 =>
 bnd (lft (binA T .neq 33 v32 (AV.int .i64 0))) fun v34 =>
 condM v34 (M.pure (AV.tup [AV.sl [], v32])) (bnd (lft (loadA T 39 (AV.ip (acells v33)))) fun v35 =>
 bnd (lft (buildSliceA T 23 1 [(0, v35)])) fun v36 =>
 bnd (lft (appA T 23 (nth v24 8) v36)) fun v37 =>
 bnd (cell1M v37) fun _v38 =>
 bnd (lft (binA T .add 3 (nth v24 6) (AV.int .i64 1))) fun v39 =>
 v23 [nth v24 0, nth v24 1, nth v24 2, nth v24 3, nth v24 4, nth v24 5, v39, nth v24 7, v37])) (bnd (lft (buildSliceA T 32 1 [(0, AV.agg [nth v24 7, nth v24 8])])) fun v40 =>
 bnd (lft (appA T 32 (nth v24 0) v40)) fun v41 =>
 bnd (lft (binA T .add 3 (nth v24 3) (AV.int .i64 1))) fun v42 =>
 v3 [v41, nth v24 1, nth v24 2, v42])
noncomputable def L10_1 (call : CC) (fx : Fix AV) (v3 : List AV → M AV) (v4 : List AV) : M AV :=
 bnd (lft (binA T .lss 3 (nth v4 3) (nth v4 2))) fun v5 =>
 condM v5 (bnd (lft (indexAddrA T 22 (nth v4 1) (nth v4 3))) fun v6 =>
 bnd (lft (loadA T 63 v6)) fun v7 =>
 bnd (cellsM 9 v7) fun v8 =>
 bnd (lft (fieldAddrA T 63 (AV.ip (acells v8)) 0)) fun v9 =>
 bnd (lft (loadA T 9 v9)) fun v10 =>
 bnd (lft (buildA T true 47 [(0, v10)])) fun v11 =>
 bnd (cellsNil 2 [1] v11) fun v12 =>
 bnd (lft (fieldAddrA T 63 (AV.ip (acells v8)) 3)) fun v13 =>
 bnd (lft (loadA T 26 v13)) fun v14 =>
 bnd (lft (lenA T 26 v14)) fun v15 =>
 bnd (lft (fieldAddrA T 63 (AV.ip (acells v8)) 2)) fun v16 =>
 bnd (lft (loadA T 58 v16)) fun v17 =>
 bnd (lft (lenA T 58 v17)) fun v18 =>
 bnd (lft (binA T .neq 3 v15 v18)) fun v19 =>
 condM v19 (M.pure (AV.tup [AV.sl [], AV.int .i64 13])) (bnd (lft (fieldAddrA T 63 (AV.ip (acells v8)) 3)) fun v20 =>
 bnd (lft (loadA T 26 v20)) fun v21 =>
 bnd (lft (lenA T 26 v21)) fun v22 =>
 fx (L10_0 call fx v3) [nth v4 0, nth v4 1, nth v4 2, nth v4 3, v21, v22, AV.int .i64 0, nth (acells v12) 0, AV.sl []])) (M.pure (AV.tup [nth v4 0, AV.int .i64 0]))
theorem XL10_0 {call : CC} {v3 : List AV → M AV} {v3s : Nat → List AV → M AV} (hv3 : LimF v3 fun n => v3s n) : Cont1 (L10_0 call fixW v3) fun n => L10_0 call fixW (v3s n) := by
 intro v23 v23s hself v24
 unfold L10_0
 exact (lb fun _ => (condM_lim (lb fun _ => (lb fun _ => (lb fun _ => (lb fun _ => (lb fun _ => (lb fun _ => (lb fun _ => (lb fun _ => (lb fun _ => (condM_lim (LimM.const _) (lb fun _ => (lb fun _ => (lb fun _ => (lb fun _ => (lb fun _ => (hself _)))))))))))))))) (lb fun _ => (lb fun _ => (lb fun _ => (hv3 _))))))
theorem YL10_0 {call : CC} {v3 : List AV → M AV} {v3s : Nat → List AV → M AV} (hv3 : LimF v3 fun n => v3s n) : LimF (fixW (L10_0 call fixW v3)) fun n => fixW (L10_0 call fixW (v3s n)) := fixW_limF (XL10_0 hv3) (XL10_0 (LimF.const _)) fun _ => XL10_0 (LimF.const _)
theorem FL10_0 (call : CC) (v3 : List AV → M AV) (vs : List AV) : fixW (L10_0 call fixW v3) vs = L10_0 call fixW v3 (fixW (L10_0 call fixW v3)) vs := fixW_eq (XL10_0 (LimF.const _)) vs
theorem XL10_1 {call : CC} : Cont1 (L10_1 call fixW ) fun _n => L10_1 call fixW  := by
 intro v3 v3s hself v4
 unfold L10_1
 exact (lb fun _ => (condM_lim (lb fun _ => (lb fun _ => (lb fun _ => (lb fun _ => (lb fun _ => (lb fun _ => (lb fun _ => (lb fun _ => (lb fun _ => (lb fun _ => (lb fun _ => (lb fun _ => (lb fun _ => (lb fun _ => (condM_lim (LimM.const _) (lb fun _ => (lb fun _ => (lb fun _ => ((YL10_0 hself) _))))))))))))))))))) (LimM.const _)))
theorem FL10_1 (call : CC) (vs : List AV) : fixW (L10_1 call fixW ) vs = L10_1 call fixW  (fixW (L10_1 call fixW )) vs := fixW_eq (XL10_1 ) vs
noncomputable def S10 (call : CC) (fx : Fix AV) (a0 : AV) : M AV :=
 bnd (call 32 [a0]) fun v0 =>
 bnd (lft (binA T .neq 33 v0 (AV.int .i64 0))) fun v1 =>
 condM v1 (M.pure (AV.tup [AV.sl [], v0])) (bnd (lft (lenA T 22 a0)) fun v2 =>
 fx (L10_1 call fx) [AV.sl [], a0, v2, AV.int .i64 0])
theorem E10 (call : CC) (fx : Fix AV) (a0 : AV) : evBody (pg.cx call Try.f10.ntmps ann10) fx Try.f10 (own 10) [a0] = S10 call fx a0 := by kernel_rfl
theorem C10 (a0 : AV) : callW pg 10 [a0] = isoP (S10 (callW pg) fixW (cl noHs a0)) := (callW_iso hOther rfl rfl rfl _).trans (congrArg isoP (E10 _ _ (cl noHs a0)))
noncomputable def L11_0 (call : CC) (_fx : Fix AV) (v2 : List AV → M AV) (v20 : List AV → M AV) (v21 : List AV) : M AV :=
 bnd (lft (fieldAddrA T 63 (nth v21 3) 3)) fun v22 =>
 bnd (lft (loadA T 26 v22)) fun v23 =>
 bnd (lft (lenA T 26 v23)) fun v24 =>
 bnd (lft (binA T .lss 3 (nth v21 4) v24)) fun v25 =>
 condM v25 (bnd (lft (fieldAddrA T 63 (nth v21 3) 3)) fun v26 =>
 bnd (lft (loadA T 26 v26)) fun v27 =>
 bnd (lft (indexAddrA T 26 v27 (nth v21 4))) fun v28 =>
 bnd (lft (loadA T 28 v28)) fun v29 =>
 bnd (call 20 [v29, AV.sl [], AV.sl []]) fun v30 =>
 bnd (lft (extractA v30 0)) fun v31 =>
 bnd (lft (extractA v30 1)) fun v32 =>
 bnd (cellsM 4 v31) fun v33 =>
 bnd (lft (binA T .neq 33 v32 (AV.int .i64 0))) fun v34 =>
 condM v34 (M.pure (AV.tup [AV.sl [], v32])) (bnd (lft (loadA T 39 (AV.ip (acells v33)))) fun v35 =>
 bnd (lft (buildSliceA T 23 1 [(0, v35)])) fun v36 =>
 bnd (lft (appA T 23 (nth v21 6) v36)) fun v37 =>
 bnd (cell1M v37) fun _v38 =>
 bnd (lft (binA T .add 3 (nth v21 4) (AV.int .i64 1))) fun v39 =>
 v20 [nth v21 0, nth v21 1, nth v21 2, nth v21 3, v39, nth v21 5, v37])) (bnd (lft (buildSliceA T 32 1 [(0, AV.agg [nth v21 5, nth v21 6])])) fun v40 =>
 bnd (lft (appA T 32 (nth v21 1) v40)) fun v41 =>
 bnd (lft (binA T .add 3 (nth v21 2) (AV.int .i64 1))) fun v42 =>
 v2 [nth v21 0, v41, v42])
noncomputable def L11_1 (call : CC) (fx : Fix AV) (v2 : List AV → M AV) (v3 : List AV) : M AV :=
 bnd (lft (lenA T 22 (nth v3 0))) fun v4 =>
 bnd (lft (binA T .lss 3 (nth v3 2) v4)) fun v5 =>
 condM v5 (bnd (lft (indexAddrA T 22 (nth v3 0) (nth v3 2))) fun v6 =>
 bnd (lft (loadA T 63 v6)) fun v7 =>
 bnd (cellsM 9 v7) fun v8 =>
 bnd (lft (fieldAddrA T 63 (AV.ip (acells v8)) 3)) fun v9 =>
 bnd (lft (loadA T 26 v9)) fun v10 =>
 bnd (lft (lenA T 26 v10)) fun v11 =>
 bnd (lft (fieldAddrA T 63 (AV.ip (acells v8)) 2)) fun v12 =>
 bnd (lft (loadA T 58 v12)) fun v13 =>
 bnd (lft (lenA T 58 v13)) fun v14 =>
 bnd (lft (binA T .neq 3 v11 v14)) fun v15 =>
 condM v15 (M.pure (AV.tup [AV.sl [], AV.int .i64 13])) (bnd (lft (fieldAddrA T 63 (AV.ip (acells v8)) 0)) fun v16 =>
 bnd (lft (loadA T 9 v16)) fun v17 =>
 bnd (lft (buildA T true 47 [(0, v17)])) fun v18 =>
 bnd (cellsNil 2 [1] v18) fun v19 =>
 fx (L11_0 call fx v2) [nth v3 0, nth v3 1, nth v3 2, AV.ip (acells v8), AV.int .i64 0, nth (acells v19) 0, AV.sl []])) (M.pure (AV.tup [nth v3 1, AV.int .i64 0]))
theorem XL11_0 {call : CC} {v2 : List AV → M AV} {v2s : Nat → List AV → M AV} (hv2 : LimF v2 fun n => v2s n) : Cont1 (L11_0 call fixW v2) fun n => L11_0 call fixW (v2s n) := by
 intro v20 v20s hself v21
 unfold L11_0
 exact (lb fun _ => (lb fun _ => (lb fun _ => (lb fun _ => (condM_lim (lb fun _ => (lb fun _ => (lb fun _ => (lb fun _ => (lb fun _ => (lb fun _ => (lb fun _ => (lb fun _ => (lb fun _ => (condM_lim (LimM.const _) (lb fun _ => (lb fun _ => (lb fun _ => (lb fun _ => (lb fun _ => (hself _)))))))))))))))) (lb fun _ => (lb fun _ => (lb fun _ => (hv2 _)))))))))
theorem YL11_0 {call : CC} {v2 : List AV → M AV} {v2s : Nat → List AV → M AV} (hv2 : LimF v2 fun n => v2s n) : LimF (fixW (L11_0 call fixW v2)) fun n => fixW (L11_0 call fixW (v2s n)) := fixW_limF (XL11_0 hv2) (XL11_0 (LimF.const _)) fun _ => XL11_0 (LimF.const _)
theorem FL11_0 (call : CC) (v2 : List AV → M AV) (vs : List AV) : fixW (L11_0 call fixW v2) vs = L11_0 call fixW v2 (fixW (L11_0 call fixW v2)) vs := fixW_eq (XL11_0 (LimF.const _)) vs
theorem XL11_1 {call : CC} : Cont1 (L11_1 call fixW ) fun _n => L11_1 call fixW  := by
 intro v2 v2s hself v3
 unfold L11_1
 exact (lb fun _ => (lb fun _ => (condM_lim (lb fun _ => (lb fun _ => (lb fun _ => (lb fun _ => (lb fun _ => (lb fun _ => (lb fun _ => (lb fun _ => (lb fun _ => (lb fun _ => (condM_lim (LimM.const _) (lb fun _ => (lb fun _ => (lb fun _ => (lb fun _ => ((YL11_0 hself) _)))))))))))))))) (LimM.const _))))
theorem FL11_1 (call : CC) (vs : List AV) : fixW (L11_1 call fixW ) vs = L11_1 call fixW  (fixW (L11_1 call fixW )) vs := fixW_eq (XL11_1 ) vs
noncomputable def S11 (call : CC) (fx : Fix AV) (a0 : AV) : M AV :=
 bnd (call 33 [a0]) fun v0 =>
 bnd (lft (binA T .neq 33 v0 (AV.int .i64 0))) fun v1 =>
 condM v1 (M.pure (AV.tup [AV.sl [], v0])) (fx (L11_1 call fx) [a0, AV.sl [], AV.int .i64 0])
theorem E11 (call : CC) (fx : Fix AV) (a0 : AV) : evBody (pg.cx call Try.f11.ntmps ann11) fx Try.f11 (own 11) [a0] = S11 call fx a0 := by kernel_rfl
theorem C11 (a0 : AV) : callW pg 11 [a0] = isoP (S11 (callW pg) fixW (cl noHs a0)) := (callW_iso hOther rfl rfl rfl _).trans (congrArg isoP (E11 _ _ (cl noHs a0)))
noncomputable def K18_0 (_call : CC) (_fx : Fix AV) (v46 : List AV) : M AV :=
 bnd (lft (nilChkA (nth v46 0))) fun v47 =>
 bnd (lft (fieldAddrA T 95 v47 1)) fun v48 =>
 bnd (loadH T 43 v48) fun v49 =>
 bnd (cellsNil 8 [] v49) fun v50 =>
 M.pure (AV.agg [nth (acells v50) 0, nth (acells v50) 1, nth (acells v50) 2, nth (acells v50) 3, nth (acells v50) 4, nth (acells v50) 5, nth (acells v50) 6, nth (acells v50) 7])
noncomputable def S18 (call : CC) (fx : Fix AV) (a0 a1 a2 a3 a4 a5 a6 : AV) : M AV :=
 bnd (call 33 [a0]) fun v0 =>
 bnd (lft (binA T .neq 33 v0 (AV.int .i64 0))) fun v1 =>
 condM v1 (bnd (lft (buildA T false 43 [(0, v0)])) fun v2 =>
 bnd (cellsNil 8 [] v2) fun v3 =>
 M.pure (AV.agg [nth (acells v3) 0, nth (acells v3) 1, nth (acells v3) 2, nth (acells v3) 3, nth (acells v3) 4, nth (acells v3) 5, nth (acells v3) 6, nth (acells v3) 7])) (bnd (lft (binA T .lss 3 a6 (AV.int .i64 0))) fun v4 =>
 bnd (guardM v4 false 1 (bnd (lft (binA T .gtr 3 a6 (AV.int .i64 100000))) fun v5 =>
 M.pure [v5])) fun v6 =>
 bnd (lft (pickA v4 (AV.bool true) (nth v6 0))) fun v7 =>
 bnd (guardM v7 false 1 (bnd (call 43 [a0, a1]) fun v8 =>
 bnd (lft (unA UnOp.not v8)) fun v9 =>
 M.pure [v9])) fun v10 =>
 bnd (lft (pickA v7 (AV.bool true) (nth v10 0))) fun v11 =>
 condM v11 (bnd (lft (buildA T false 43 [(0, AV.int .i64 1)])) fun v12 =>
 bnd (cellsNil 8 [] v12) fun v13 =>
 M.pure (AV.agg [nth (acells v13) 0, nth (acells v13) 1, nth (acells v13) 2, nth (acells v13) 3, nth (acells v13) 4, nth (acells v13) 5, nth (acells v13) 6, nth (acells v13) 7])) (bnd (call 44 [a0, a2]) fun v14 =>
 bnd (call 45 [a0, v14, a3]) fun v15 =>
 bnd (lft (binA T .lss 3 v15 (AV.int .i64 0))) fun v16 =>
 condM v16 (bnd (lft (buildA T false 43 [(0, AV.int .i64 4)])) fun v17 =>
 bnd (cellsNil 8 [] v17) fun v18 =>
 M.pure (AV.agg [nth (acells v18) 0, nth (acells v18) 1, nth (acells v18) 2, nth (acells v18) 3, nth (acells v18) 4, nth (acells v18) 5, nth (acells v18) 6, nth (acells v18) 7])) (bnd (lft (indexAddrA T 22 a0 v14)) fun v19 =>
 bnd (lft (fieldAddrA T 63 v19 4)) fun v20 =>
 bnd (lft (loadA T 59 v20)) fun v21 =>
 bnd (lft (indexAddrA T 59 v21 v15)) fun v22 =>
 bnd (lft (loadA T 67 v22)) fun v23 =>
 bnd (cellsM 12 v23) fun v24 =>
 bnd (lft (lenA T 23 a4)) fun v25 =>
 bnd (lft (fieldAddrA T 67 (AV.ip (acells v24)) 2)) fun v26 =>
 bnd (lft (loadA T 58 v26)) fun v27 =>
 bnd (lft (lenA T 58 v27)) fun v28 =>
 bnd (lft (binA T .neq 3 v25 v28)) fun v29 =>
 bnd (guardM v29 false 1 (bnd (call 46 [a4]) fun v30 =>
 bnd (lft (unA UnOp.not v30)) fun v31 =>
 M.pure [v31])) fun v32 =>
 bnd (lft (pickA v29 (AV.bool true) (nth v32 0))) fun v33 =>
 condM v33 (bnd (lft (buildA T false 43 [(0, AV.int .i64 13)])) fun v34 =>
 bnd (cellsNil 8 [] v34) fun v35 =>
 M.pure (AV.agg [nth (acells v35) 0, nth (acells v35) 1, nth (acells v35) 2, nth (acells v35) 3, nth (acells v35) 4, nth (acells v35) 5, nth (acells v35) 6, nth (acells v35) 7])) (bnd (lft (buildA T true 95 [(0, a0), (2, a5), (4, a6)])) fun v36 =>
 bnd (newH (acells v36)) fun v37 =>
 bnd (call 16 [a1]) fun v38 =>
 bnd (lft (nilChkA v37)) fun v39 =>
 bnd (lft (fieldAddrA T 95 v39 1)) fun v40 =>
 bnd (lft (fieldAddrA T 43 v40 4)) fun v41 =>
 bnd (storeH T 32 v41 v38) fun _v42 =>
 bnd (lft (loadA T 67 (AV.ip (acells v24)))) fun v43 =>
 bnd (call 47 [v37, v14, v43, a4]) fun v44 =>
 bnd (cellsM 4 v44) fun v45 =>
 jn (K18_0 call fx) fun v51 =>
 bnd (lft (nilChkA v37)) fun v52 =>
 bnd (lft (fieldAddrA T 95 v52 1)) fun v53 =>
 bnd (lft (fieldAddrA T 43 v53 0)) fun v54 =>
 bnd (loadH T 33 v54) fun v55 =>
 bnd (lft (binA T .eql 33 v55 (AV.int .i64 0))) fun v56 =>
 condM v56 (bnd (lft (loadA T 39 (AV.ip (acells v45)))) fun v57 =>
 bnd (lft (nilChkA v37)) fun v58 =>
 bnd (lft (fieldAddrA T 95 v58 1)) fun v59 =>
 bnd (lft (fieldAddrA T 43 v59 1)) fun v60 =>
 bnd (storeH T 39 v60 v57) fun _v61 =>
 v51 [v37, AV.int .i64 0, AV.int .i64 0, AV.int .i64 0, AV.sl [], AV.sl [], AV.sl [], AV.sl [], AV.sl []]) (v51 [v37, AV.int .i64 0, AV.int .i64 0, AV.int .i64 0, AV.sl [], AV.sl [], AV.sl [], AV.sl [], AV.sl []])))))
theorem E18 (call : CC) (fx : Fix AV) (a0 a1 a2 a3 a4 a5 a6 : AV) : evBody (pg.cx call Try.f18.ntmps ann18) fx Try.f18 (own 18) [a0, a1, a2, a3, a4, a5, a6] = S18 call fx a0 a1 a2 a3 a4 a5 a6 := by kernel_rfl
theorem C18 (a0 a1 a2 a3 a4 a5 a6 : AV) : callW pg 18 [a0, a1, a2, a3, a4, a5, a6] = isoP (S18 (callW pg) fixW (cl noHs a0) (cl noHs a1) (cl noHs a2) (cl noHs a3) (cl noHs a4) (cl noHs a5) (cl noHs a6)) := (callW_iso hOther rfl rfl rfl _).trans (congrArg isoP (E18 _ _ (cl noHs a0) (cl noHs a1) (cl noHs a2) (cl noHs a3) (cl noHs a4) (cl noHs a5) (cl noHs a6)))
noncomputable def S20 (call : CC) (_fx : Fix AV) (a0 a1 a2 : AV) : M AV :=
 bnd (lft (lenA T 25 a1)) fun v0 =>
 bnd (lft (lenA T 23 a2)) fun v1 =>
 bnd (lft (binA T .neq 3 v0 v1)) fun v2 =>
 bnd (guardM v2 false 1 (bnd (call 46 [a2]) fun v3 =>
 bnd (lft (unA UnOp.not v3)) fun v4 =>
 M.pure [v4])) fun v5 =>
 bnd (lft (pickA v2 (AV.bool true) (nth v5 0))) fun v6 =>
 condM v6 (bnd (lft (buildA T false 39 [])) fun v7 =>
 bnd (cellsNil 4 [] v7) fun v8 =>
 M.pure (AV.tup [AV.agg [nth (acells v8) 0, nth (acells v8) 1, nth (acells v8) 2, nth (acells v8) 3], AV.int .i64 1])) (bnd (lft (buildA T true 95 [(4, AV.int .i64 100000)])) fun v9 =>
 bnd (newH (acells v9)) fun v10 =>
 bnd (lft (buildA T false 101 [(0, AV.int .i64 (-1)), (1, a1), (2, a2)])) fun v11 =>
 bnd (lft (loadA T 28 (AV.ip (acells a0)))) fun v12 =>
 bnd (call 51 [v10, v11, v12]) fun v13 =>
 bnd (cellsM 4 v13) fun v14 =>
 bnd (lft (nilChkA v10)) fun v15 =>
 bnd (lft (fieldAddrA T 95 v15 1)) fun v16 =>
 bnd (lft (fieldAddrA T 43 v16 0)) fun v17 =>
 bnd (loadH T 33 v17) fun v18 =>
 bnd (lft (binA T .neq 33 v18 (AV.int .i64 0))) fun v19 =>
 condM v19 (bnd (lft (buildA T false 39 [])) fun v20 =>
 bnd (lft (nilChkA v10)) fun v21 =>
 bnd (lft (fieldAddrA T 95 v21 1)) fun v22 =>
 bnd (lft (fieldAddrA T 43 v22 0)) fun v23 =>
 bnd (loadH T 33 v23) fun v24 =>
 bnd (cellsNil 4 [] v20) fun v25 =>
 M.pure (AV.tup [AV.agg [nth (acells v25) 0, nth (acells v25) 1, nth (acells v25) 2, nth (acells v25) 3], v24])) (bnd (lft (loadA T 39 (AV.ip (acells v14)))) fun v26 =>
 bnd (cellsNil 4 [] v26) fun v27 =>
 M.pure (AV.tup [AV.agg [nth (acells v27) 0, nth (acells v27) 1, nth (acells v27) 2, nth (acells v27) 3], AV.int .i64 0])))
theorem E20 (call : CC) (fx : Fix AV) (a0 a1 a2 : AV) : evBody (pg.cx call Try.f20.ntmps ann20) fx Try.f20 (own 20) [a0, a1, a2] = S20 call fx a0 a1 a2 := by kernel_rfl
theorem C20 (a0 a1 a2 : AV) : callW pg 20 [a0, a1, a2] = isoP (S20 (callW pg) fixW (cl noHs a0) (cl noHs a1) (cl noHs a2)) := (callW_iso hOther rfl rfl rfl _).trans (congrArg isoP (E20 _ _ (cl noHs a0) (cl noHs a1) (cl noHs a2)))
noncomputable def L25_0 (call : CC) (_fx : Fix AV) (v32 : List AV → M AV) (v33 : List AV) : M AV :=
 bnd (lft (fieldAddrA T 43 (nth v33 1) 3)) fun v34 =>
 bnd (lft (loadA T 41 v34)) fun v35 =>
 bnd (lft (lenA T 41 v35)) fun v36 =>
 bnd (lft (binA T .lss 3 (nth v33 2) v36)) fun v37 =>
 condM v37 (bnd (lft (fieldAddrA T 43 (nth v33 0) 3)) fun v38 =>
 bnd (lft (loadA T 41 v38)) fun v39 =>
 bnd (lft (indexAddrA T 41 v39 (nth v33 2))) fun v40 =>
 bnd (lft (fieldAddrA T 69 v40 0)) fun v41 =>
 bnd (lft (loadA T 9 v41)) fun v42 =>
 bnd (lft (fieldAddrA T 43 (nth v33 1) 3)) fun v43 =>
 bnd (lft (loadA T 41 v43)) fun v44 =>
 bnd (lft (indexAddrA T 41 v44 (nth v33 2))) fun v45 =>
 bnd (lft (fieldAddrA T 69 v45 0)) fun v46 =>
 bnd (lft (loadA T 9 v46)) fun v47 =>
 bnd (lft (binA T .neq 9 v42 v47)) fun v48 =>
 bnd (guardM v48 false 1 (bnd (lft (fieldAddrA T 43 (nth v33 0) 3)) fun v49 =>
 bnd (lft (loadA T 41 v49)) fun v50 =>
 bnd (lft (indexAddrA T 41 v50 (nth v33 2))) fun v51 =>
 bnd (lft (fieldAddrA T 69 v51 1)) fun v52 =>
 bnd (lft (loadA T 9 v52)) fun v53 =>
 bnd (lft (fieldAddrA T 43 (nth v33 1) 3)) fun v54 =>
 bnd (lft (loadA T 41 v54)) fun v55 =>
 bnd (lft (indexAddrA T 41 v55 (nth v33 2))) fun v56 =>
 bnd (lft (fieldAddrA T 69 v56 1)) fun v57 =>
 bnd (lft (loadA T 9 v57)) fun v58 =>
 bnd (lft (binA T .neq 9 v53 v58)) fun v59 =>
 M.pure [v59])) fun v60 =>
 bnd (lft (pickA v48 (AV.bool true) (nth v60 0))) fun v61 =>
 bnd (guardM v61 false 1 (bnd (lft (fieldAddrA T 43 (nth v33 0) 3)) fun v62 =>
 bnd (lft (loadA T 41 v62)) fun v63 =>
 bnd (lft (indexAddrA T 41 v63 (nth v33 2))) fun v64 =>
 bnd (lft (fieldAddrA T 69 v64 2)) fun v65 =>
 bnd (lft (loadA T 23 v65)) fun v66 =>
 bnd (lft (fieldAddrA T 43 (nth v33 1) 3)) fun v67 =>
 bnd (lft (loadA T 41 v67)) fun v68 =>
 bnd (lft (indexAddrA T 41 v68 (nth v33 2))) fun v69 =>
 bnd (lft (fieldAddrA T 69 v69 2)) fun v70 =>
 bnd (lft (loadA T 23 v70)) fun v71 =>
 bnd (noPan (call 26 [v66, v71])) fun v72 =>
 bnd (lft (unA UnOp.not v72)) fun v73 =>
 M.pure [v73])) fun v74 =>
 bnd (lft (pickA v61 (AV.bool true) (nth v74 0))) fun v75 =>
 condM v75 (M.pure (AV.bool false)) (bnd (lft (binA T .add 3 (nth v33 2) (AV.int .i64 1))) fun v76 =>
 v32 [nth v33 0, nth v33 1, v76])) (M.pure (AV.bool true))
noncomputable def L25_1 (call : CC) (fx : Fix AV) (v16 : List AV → M AV) (v17 : List AV) : M AV :=
 bnd (lft (fieldAddrA T 43 (nth v17 1) 2)) fun v18 =>
 bnd (lft (loadA T 40 v18)) fun v19 =>
 bnd (lft (lenA T 40 v19)) fun v20 =>
 bnd (lft (binA T .lss 3 (nth v17 2) v20)) fun v21 =>
 condM v21 (bnd (lft (fieldAddrA T 43 (nth v17 0) 2)) fun v22 =>
 bnd (lft (loadA T 40 v22)) fun v23 =>
 bnd (lft (indexAddrA T 40 v23 (nth v17 2))) fun v24 =>
 bnd (lft (loadA T 55 v24)) fun v25 =>
 bnd (lft (fieldAddrA T 43 (nth v17 1) 2)) fun v26 =>
 bnd (lft (loadA T 40 v26)) fun v27 =>
 bnd (lft (indexAddrA T 40 v27 (nth v17 2))) fun v28 =>
 bnd (lft (loadA T 55 v28)) fun v29 =>
 bnd (lft (binA T .neq 55 v25 v29)) fun v30 =>
 condM v30 (M.pure (AV.bool false)) (bnd (lft (binA T .add 3 (nth v17 2) (AV.int .i64 1))) fun v31 =>
 v16 [nth v17 0, nth v17 1, v31])) (fx (L25_0 call fx) [nth v17 0, nth v17 1, AV.int .i64 0])
theorem XL25_0 {call : CC} : Cont1 (L25_0 call fixW ) fun _n => L25_0 call fixW  := by
 intro v32 v32s hself v33
 unfold L25_0
 exact (lb fun _ => (lb fun _ => (lb fun _ => (lb fun _ => (condM_lim (lb fun _ => (lb fun _ => (lb fun _ => (lb fun _ => (lb fun _ => (lb fun _ => (lb fun _ => (lb fun _ => (lb fun _ => (lb fun _ => (lb fun _ => (lb fun _ => (lb fun _ => (lb fun _ => (lb fun _ => (condM_lim (LimM.const _) (lb fun _ => (hself _)))))))))))))))))) (LimM.const _))))))
theorem FL25_0 (call : CC) (vs : List AV) : fixW (L25_0 call fixW ) vs = L25_0 call fixW  (fixW (L25_0 call fixW )) vs := fixW_eq (XL25_0 ) vs
theorem XL25_1 {call : CC} : Cont1 (L25_1 call fixW ) fun _n => L25_1 call fixW  := by
 intro v16 v16s hself v17
 unfold L25_1
 exact (lb fun _ => (lb fun _ => (lb fun _ => (lb fun _ => (condM_lim (lb fun _ => (lb fun _ => (lb fun _ => (lb fun _ => (lb fun _ => (lb fun _ => (lb fun _ => (lb fun _ => (lb fun _ => (condM_lim (LimM.const _) (lb fun _ => (hself _)))))))))))) (LimM.const _))))))
theorem FL25_1 (call : CC) (vs : List AV) : fixW (L25_1 call fixW ) vs = L25_1 call fixW  (fixW (L25_1 call fixW )) vs := fixW_eq (XL25_1 ) vs
noncomputable def S25 (call : CC) (fx : Fix AV) (a0 a1 : AV) : M AV :=
 bnd (lft (fieldAddrA T 43 (AV.ip (acells a1)) 2)) fun v0 =>
 bnd (lft (loadA T 40 v0)) fun v1 =>
 bnd (lft (lenA T 40 v1)) fun v2 =>
 bnd (lft (fieldAddrA T 43 (AV.ip (acells a0)) 2)) fun v3 =>
 bnd (lft (loadA T 40 v3)) fun v4 =>
 bnd (lft (lenA T 40 v4)) fun v5 =>
 bnd (lft (binA T .gtr 3 v2 v5)) fun v6 =>
 bnd (guardM v6 false 1 (bnd (lft (fieldAddrA T 43 (AV.ip (acells a1)) 3)) fun v7 =>
 bnd (lft (loadA T 41 v7)) fun v8 =>
 bnd (lft (lenA T 41 v8)) fun v9 =>
 bnd (lft (fieldAddrA T 43 (AV.ip (acells a0)) 3)) fun v10 =>
 bnd (lft (loadA T 41 v10)) fun v11 =>
 bnd (lft (lenA T 41 v11)) fun v12 =>
 bnd (lft (binA T .gtr 3 v9 v12)) fun v13 =>
 M.pure [v13])) fun v14 =>
 bnd (lft (pickA v6 (AV.bool true) (nth v14 0))) fun v15 =>
 condM v15 (M.pure (AV.bool false)) (fx (L25_1 call fx) [AV.ip (acells a0), AV.ip (acells a1), AV.int .i64 0])
theorem E25 (call : CC) (fx : Fix AV) (a0 a1 : AV) : evBody (pg.cx call Try.f25.ntmps ann25) fx Try.f25 (own 25) [a0, a1] = S25 call fx a0 a1 := by kernel_rfl
theorem C25 (a0 a1 : AV) : callW pg 25 [a0, a1] = isoP (S25 (callW pg) fixW (cl noHs a0) (cl noHs a1)) := (callW_iso hOther rfl rfl rfl _).trans (congrArg isoP (E25 _ _ (cl noHs a0) (cl noHs a1)))
noncomputable def L31_0 (call : CC) (_fx : Fix AV) (v2 : List AV → M AV) (v3 : List AV) : M AV :=
 bnd (lft (fieldAddrA T 39 (nth v3 2) 3)) fun v4 =>
 bnd (lft (loadA T 23 v4)) fun v5 =>
 bnd (lft (lenA T 23 v5)) fun v6 =>
 bnd (lft (binA T .lss 3 (nth v3 4) v6)) fun v7 =>
 bnd (guardM v7 true 1 (bnd (lft (binA T .leq 3 (nth v3 3) (nth v3 0))) fun v8 =>
 M.pure [v8])) fun v9 =>
 bnd (lft (pickA v7 (nth v9 0) (AV.bool false))) fun v10 =>
 condM v10 (bnd (lft (fieldAddrA T 39 (nth v3 2) 3)) fun v11 =>
 bnd (lft (loadA T 23 v11)) fun v12 =>
 bnd (lft (indexAddrA T 23 v12 (nth v3 4))) fun v13 =>
 bnd (lft (loadA T 39 v13)) fun v14 =>
 bnd (lft (binA T .sub 3 (nth v3 0) (nth v3 3))) fun v15 =>
 bnd (lft (binA T .sub 3 (nth v3 1) (AV.int .i64 1))) fun v16 =>
 bnd (call 31 [v14, v15, v16]) fun v17 =>
 bnd (lft (binA T .add 3 (nth v3 3) v17)) fun v18 =>
 bnd (lft (binA T .add 3 (nth v3 4) (AV.int .i64 1))) fun v19 =>
 v2 [nth v3 0, nth v3 1, nth v3 2, v18, v19]) (M.pure (nth v3 3))
theorem XL31_0 {call : CC} : Cont1 (L31_0 call fixW ) fun _n => L31_0 call fixW  := by
 intro v2 v2s hself v3
 unfold L31_0
 exact (lb fun _ => (lb fun _ => (lb fun _ => (lb fun _ => (lb fun _ => (lb fun _ => (condM_lim (lb fun _ => (lb fun _ => (lb fun _ => (lb fun _ => (lb fun _ => (lb fun _ => (lb fun _ => (lb fun _ => (lb fun _ => (hself _)))))))))) (LimM.const _))))))))
theorem FL31_0 (call : CC) (vs : List AV) : fixW (L31_0 call fixW ) vs = L31_0 call fixW  (fixW (L31_0 call fixW )) vs := fixW_eq (XL31_0 ) vs
noncomputable def S31 (call : CC) (fx : Fix AV) (a0 a1 a2 : AV) : M AV :=
 bnd (lft (binA T .lss 3 a2 (AV.int .i64 1))) fun v0 =>
 condM v0 (bnd (lft (binA T .add 3 a1 (AV.int .i64 1))) fun v1 =>
 M.pure v1) (fx (L31_0 call fx) [a1, a2, AV.ip (acells a0), AV.int .i64 1, AV.int .i64 0])
theorem E31 (call : CC) (fx : Fix AV) (a0 a1 a2 : AV) : evBody (pg.cx call Try.f31.ntmps ann31) fx Try.f31 (own 31) [a0, a1, a2] = S31 call fx a0 a1 a2 := by kernel_rfl
theorem C31 (a0 a1 a2 : AV) : callW pg 31 [a0, a1, a2] = isoP (S31 (callW pg) fixW (cl noHs a0) (cl noHs a1) (cl noHs a2)) := (callW_iso hOther rfl rfl rfl _).trans (congrArg isoP (E31 _ _ (cl noHs a0) (cl noHs a1) (cl noHs a2)))
noncomputable def L33_0 (call : CC) (_fx : Fix AV) (v2 : List AV → M AV) (v3 : List AV) : M AV :=
 bnd (lft (lenA T 22 (nth v3 0))) fun v4 =>
 bnd (lft (binA T .lss 3 (nth v3 1) v4)) fun v5 =>
 condM v5 (bnd (lft (indexAddrA T 22 (nth v3 0) (nth v3 1))) fun v6 =>
 bnd (lft (fieldAddrA T 63 v6 0)) fun v7 =>
 bnd (lft (loadA T 9 v7)) fun v8 =>
 bnd (call 44 [nth v3 0, v8]) fun v9 =>
 bnd (lft (binA T .neq 3 v9 (nth v3 1))) fun v10 =>
 condM v10 (M.pure (AV.int .i64 5)) (bnd (lft (binA T .add 3 (nth v3 1) (AV.int .i64 1))) fun v11 =>
 v2 [nth v3 0, v11])) (M.pure (AV.int .i64 0))
theorem XL33_0 {call : CC} : Cont1 (L33_0 call fixW ) fun _n => L33_0 call fixW  := by
 intro v2 v2s hself v3
 unfold L33_0
 exact (lb fun _ => (lb fun _ => (condM_lim (lb fun _ => (lb fun _ => (lb fun _ => (lb fun _ => (lb fun _ => (condM_lim (LimM.const _) (lb fun _ => (hself _)))))))) (LimM.const _))))
theorem FL33_0 (call : CC) (vs : List AV) : fixW (L33_0 call fixW ) vs = L33_0 call fixW  (fixW (L33_0 call fixW )) vs := fixW_eq (XL33_0 ) vs
noncomputable def S33 (call : CC) (fx : Fix AV) (a0 : AV) : M AV :=
 bnd (lft (lenA T 22 a0)) fun v0 =>
 bnd (lft (binA T .gtr 3 v0 (AV.int .i64 20))) fun v1 =>
 condM v1 (M.pure (AV.int .i64 6)) (fx (L33_0 call fx) [a0, AV.int .i64 0])
theorem E33 (call : CC) (fx : Fix AV) (a0 : AV) : evBody (pg.cx call Try.f33.ntmps ann33) fx Try.f33 (own 33) [a0] = S33 call fx a0 := by kernel_rfl
theorem C33 (a0 : AV) : callW pg 33 [a0] = isoP (S33 (callW pg) fixW (cl noHs a0)) := (callW_iso hOther rfl rfl rfl _).trans (congrArg isoP (E33 _ _ (cl noHs a0)))
noncomputable def S35 (call : CC) (_fx : Fix AV) (a0 a1 : AV) : M AV :=
 bnd (lft (nilChkA a0)) fun v0 =>
 bnd (lft (fieldAddrA T 81 v0 0)) fun v1 =>
 bnd (loadH T 22 v1) fun v2 =>
 bnd (call 63 [v2, AV.fn (Fn.func 64) [] [AV.ip (acells a1)]]) fun v3 =>
 M.pure v3
theorem E35 (call : CC) (fx : Fix AV) (a0 a1 : AV) : evBody (pg.cx call Try.f35.ntmps ann35) fx Try.f35 (own 35) [a0, a1] = S35 call fx a0 a1 := by kernel_rfl
theorem C35 (a0 a1 : AV) : callW pg 35 [a0, a1] = S35 (callW pg) fixW a0 a1 := (callW_heap hOther rfl rfl rfl _).trans (E35 _ _ a0 a1)
noncomputable def S36 (call : CC) (_fx : Fix AV) (a0 a1 a2 : AV) : M AV :=
 bnd (lft (binA T .lss 3 a1 (AV.int .i64 0))) fun v0 =>
 condM v0 (bnd (lft (buildA T false 67 [])) fun v1 =>
 bnd (cellsNil 12 [] v1) fun v2 =>
 M.pure (AV.tup [AV.agg [nth (acells v2) 0, nth (acells v2) 1, nth (acells v2) 2, nth (acells v2) 3, nth (acells v2) 4, nth (acells v2) 5, nth (acells v2) 6, nth (acells v2) 7, nth (acells v2) 8, nth (acells v2) 9, nth (acells v2) 10, nth (acells v2) 11], AV.bool false])) (bnd (lft (nilChkA a0)) fun v3 =>
 bnd (lft (fieldAddrA T 81 v3 0)) fun v4 =>
 bnd (loadH T 22 v4) fun v5 =>
 bnd (lft (indexAddrA T 22 v5 a1)) fun v6 =>
 bnd (lft (fieldAddrA T 63 v6 4)) fun v7 =>
 bnd (lft (loadA T 59 v7)) fun v8 =>
 bnd (call 65 [v8, AV.fn (Fn.func 66) [] [AV.ip (acells a2)]]) fun v9 =>
 bnd (lft (binA T .lss 3 v9 (AV.int .i64 0))) fun v10 =>
 condM v10 (bnd (lft (buildA T false 67 [])) fun v11 =>
 bnd (cellsNil 12 [] v11) fun v12 =>
 M.pure (AV.tup [AV.agg [nth (acells v12) 0, nth (acells v12) 1, nth (acells v12) 2, nth (acells v12) 3, nth (acells v12) 4, nth (acells v12) 5, nth (acells v12) 6, nth (acells v12) 7, nth (acells v12) 8, nth (acells v12) 9, nth (acells v12) 10, nth (acells v12) 11], AV.bool false])) (bnd (lft (indexAddrA T 59 v8 v9)) fun v13 =>
 bnd (lft (loadA T 67 v13)) fun v14 =>
 bnd (cellsNil 12 [] v14) fun v15 =>
 M.pure (AV.tup [AV.agg [nth (acells v15) 0, nth (acells v15) 1, nth (acells v15) 2, nth (acells v15) 3, nth (acells v15) 4, nth (acells v15) 5, nth (acells v15) 6, nth (acells v15) 7, nth (acells v15) 8, nth (acells v15) 9, nth (acells v15) 10, nth (acells v15) 11], AV.bool true])))
theorem E36 (call : CC) (fx : Fix AV) (a0 a1 a2 : AV) : evBody (pg.cx call Try.f36.ntmps ann36) fx Try.f36 (own 36) [a0, a1, a2] = S36 call fx a0 a1 a2 := by kernel_rfl
theorem C36 (a0 a1 a2 : AV) : callW pg 36 [a0, a1, a2] = S36 (callW pg) fixW a0 a1 a2 := (callW_heap hOther rfl rfl rfl _).trans (E36 _ _ a0 a1 a2)
noncomputable def S37 (call : CC) (_fx : Fix AV) (a0 a1 : AV) : M AV :=
 bnd (call 67 [a0, a1]) fun v0 =>
 bnd (lft (binA T .geq 3 v0 (AV.int .i64 0))) fun v1 =>
 M.pure v1
theorem E37 (call : CC) (fx : Fix AV) (a0 a1 : AV) : evBody (pg.cx call Try.f37.ntmps ann37) fx Try.f37 (own 37) [a0, a1] = S37 call fx a0 a1 := by kernel_rfl
theorem C37 (a0 a1 : AV) : callW pg 37 [a0, a1] = isoP (S37 (callW pg) fixW (cl noHs a0) (cl noHs a1)) := (callW_iso hOther rfl rfl rfl _).trans (congrArg isoP (E37 _ _ (cl noHs a0) (cl noHs a1)))
noncomputable def L46_0 (call : CC) (_fx : Fix AV) (v0 : List AV → M AV) (v1 : List AV) : M AV :=
 bnd (lft (lenA T 23 (nth v1 0))) fun v2 =>
 bnd (lft (binA T .lss 3 (nth v1 1) v2)) fun v3 =>
 condM v3 (bnd (lft (indexAddrA T 23 (nth v1 0) (nth v1 1))) fun v4 =>
 bnd (lft (loadA T 39 v4)) fun v5 =>
 bnd (call 22 [v5]) fun v6 =>
 bnd (lft (unA UnOp.not v6)) fun v7 =>
 condM v7 (M.pure (AV.bool false)) (bnd (lft (binA T .add 3 (nth v1 1) (AV.int .i64 1))) fun v8 =>
 v0 [nth v1 0, v8])) (M.pure (AV.bool true))
theorem XL46_0 {call : CC} : Cont1 (L46_0 call fixW ) fun _n => L46_0 call fixW  := by
 intro v0 v0s hself v1
 unfold L46_0
 exact (lb fun _ => (lb fun _ => (condM_lim (lb fun _ => (lb fun _ => (lb fun _ => (lb fun _ => (condM_lim (LimM.const _) (lb fun _ => (hself _))))))) (LimM.const _))))
theorem FL46_0 (call : CC) (vs : List AV) : fixW (L46_0 call fixW ) vs = L46_0 call fixW  (fixW (L46_0 call fixW )) vs := fixW_eq (XL46_0 ) vs
noncomputable def S46 (call : CC) (fx : Fix AV) (a0 : AV) : M AV :=
 fx (L46_0 call fx) [a0, AV.int .i64 0]
theorem E46 (call : CC) (fx : Fix AV) (a0 : AV) : evBody (pg.cx call Try.f46.ntmps ann46) fx Try.f46 (own 46) [a0] = S46 call fx a0 := by kernel_rfl
theorem C46 (a0 : AV) : callW pg 46 [a0] = isoP (S46 (callW pg) fixW (cl noHs a0)) := (callW_iso hOther rfl rfl rfl _).trans (congrArg isoP (E46 _ _ (cl noHs a0)))
noncomputable def L47_0 (call : CC) (_fx : Fix AV) (v16 : List AV → M AV) (v17 : List AV) : M AV :=
 bnd (lft (lenA T 23 (nth v17 1))) fun v18 =>
 bnd (lft (binA T .lss 3 (nth v17 3) v18)) fun v19 =>
 condM v19 (bnd (lft (fieldAddrA T 67 (nth v17 2) 2)) fun v20 =>
 bnd (lft (loadA T 58 v20)) fun v21 =>
 bnd (lft (indexAddrA T 58 v21 (nth v17 3))) fun v22 =>
 bnd (lft (fieldAddrA T 104 v22 0)) fun v23 =>
 bnd (lft (loadA T 9 v23)) fun v24 =>
 bnd (lft (indexAddrA T 23 (nth v17 1) (nth v17 3))) fun v25 =>
 bnd (lft (loadA T 39 v25)) fun v26 =>
 bnd (noPan (call 72 [AV.agg [nth v17 8, nth v17 9, nth v17 10], v24, v26])) fun v27 =>
 bnd (cellsNil 3 [] v27) fun v28 =>
 bnd (lft (binA T .add 3 (nth v17 3) (AV.int .i64 1))) fun v29 =>
 v16 [nth v17 0, nth v17 1, nth v17 2, v29, nth v17 4, nth v17 5, nth v17 6, nth v17 7, nth (acells v28) 0, nth (acells v28) 1, nth (acells v28) 2]) (bnd (lft (nilChkA (nth v17 0))) fun v30 =>
 bnd (lft (fieldAddrA T 95 v30 5)) fun v31 =>
 bnd (loadH T 3 v31) fun v32 =>
 bnd (lft (binA T .add 3 v32 (AV.int .i64 1))) fun v33 =>
 bnd (lft (nilChkA (nth v17 0))) fun v34 =>
 bnd (lft (fieldAddrA T 95 v34 5)) fun v35 =>
 bnd (storeH T 3 v35 v33) fun _v36 =>
 bnd (lft (fieldAddrA T 67 (nth v17 2) 5)) fun v37 =>
 bnd (lft (loadA T 28 v37)) fun v38 =>
 bnd (call 51 [nth v17 0, AV.agg [nth v17 8, nth v17 9, nth v17 10], v38]) fun v39 =>
 bnd (cellsM 4 v39) fun v40 =>
 bnd (lft (nilChkA (nth v17 0))) fun v41 =>
 bnd (lft (fieldAddrA T 95 v41 5)) fun v42 =>
 bnd (loadH T 3 v42) fun v43 =>
 bnd (lft (binA T .sub 3 v43 (AV.int .i64 1))) fun v44 =>
 bnd (lft (nilChkA (nth v17 0))) fun v45 =>
 bnd (lft (fieldAddrA T 95 v45 5)) fun v46 =>
 bnd (storeH T 3 v46 v44) fun _v47 =>
 bnd (lft (loadA T 39 (AV.ip (acells v40)))) fun v48 =>
 bnd (cellsNil 4 [] v48) fun v49 =>
 M.pure (AV.agg [nth (acells v49) 0, nth (acells v49) 1, nth (acells v49) 2, nth (acells v49) 3]))
noncomputable def K47_0 (call : CC) (fx : Fix AV) (v13 : List AV) : M AV :=
 bnd (lft (buildA T false 101 [(0, nth v13 1)])) fun v14 =>
 bnd (cellsNil 3 [] v14) fun v15 =>
 fx (L47_0 call fx) [nth v13 0, nth v13 2, nth v13 3, AV.int .i64 0, nth v13 4, nth v13 5, nth v13 6, nth v13 7, nth (acells v15) 0, nth (acells v15) 1, nth (acells v15) 2]
theorem XL47_0 {call : CC} : Cont1 (L47_0 call fixW ) fun _n => L47_0 call fixW  := by
 intro v16 v16s hself v17
 unfold L47_0
 exact (lb fun _ => (lb fun _ => (condM_lim (lb fun _ => (lb fun _ => (lb fun _ => (lb fun _ => (lb fun _ => (lb fun _ => (lb fun _ => (lb fun _ => (lb fun _ => (lb fun _ => (hself _))))))))))) (LimM.const _))))
theorem FL47_0 (call : CC) (vs : List AV) : fixW (L47_0 call fixW ) vs = L47_0 call fixW  (fixW (L47_0 call fixW )) vs := fixW_eq (XL47_0 ) vs
noncomputable def S47 (call : CC) (fx : Fix AV) (a0 a1 a2 a3 : AV) : M AV :=
 bnd (lft (nilChkA a0)) fun v0 =>
 bnd (lft (fieldAddrA T 95 v0 1)) fun v1 =>
 bnd (lft (fieldAddrA T 43 v1 0)) fun v2 =>
 bnd (loadH T 33 v2) fun v3 =>
 bnd (lft (binA T .neq 33 v3 (AV.int .i64 0))) fun v4 =>
 condM v4 (bnd (lft (buildA T false 39 [])) fun v5 =>
 bnd (cellsNil 4 [] v5) fun v6 =>
 M.pure (AV.agg [nth (acells v6) 0, nth (acells v6) 1, nth (acells v6) 2, nth (acells v6) 3])) (bnd (lft (nilChkA a0)) fun v7 =>
 bnd (lft (fieldAddrA T 95 v7 5)) fun v8 =>
 bnd (loadH T 3 v8) fun v9 =>
 bnd (lft (binA T .geq 3 v9 (AV.int .i64 60))) fun v10 =>
 condM v10 (bnd (call 71 [a0, AV.int .i64 6]) fun v11 =>
 bnd (cellsNil 4 [] v11) fun v12 =>
 M.pure (AV.agg [nth (acells v12) 0, nth (acells v12) 1, nth (acells v12) 2, nth (acells v12) 3])) (jn (K47_0 call fx) fun v50 =>
 bnd (lft (fieldAddrA T 67 (AV.ip (acells a2)) 1)) fun v51 =>
 bnd (lft (loadA T 4 v51)) fun v52 =>
 condM v52 (bnd (lft (nilChkA a0)) fun v53 =>
 bnd (lft (fieldAddrA T 95 v53 1)) fun v54 =>
 bnd (lft (fieldAddrA T 43 v54 3)) fun v55 =>
 bnd (loadH T 41 v55) fun v56 =>
 bnd (lft (nilChkA a0)) fun v57 =>
 bnd (lft (fieldAddrA T 95 v57 0)) fun v58 =>
 bnd (loadH T 22 v58) fun v59 =>
 bnd (lft (indexAddrA T 22 v59 a1)) fun v60 =>
 bnd (lft (fieldAddrA T 63 v60 0)) fun v61 =>
 bnd (lft (loadA T 9 v61)) fun v62 =>
 bnd (lft (fieldAddrA T 67 (AV.ip (acells a2)) 0)) fun v63 =>
 bnd (lft (loadA T 9 v63)) fun v64 =>
 bnd (lft (buildSliceA T 23 0 [])) fun v65 =>
 bnd (lft (appA T 23 v65 a3)) fun v66 =>
 bnd (lft (buildA T false 69 [(0, v62), (1, v64), (2, v66)])) fun v67 =>
 bnd (lft (buildSliceA T 41 1 [(0, v67)])) fun v68 =>
 bnd (appH T 41 false v56 v68) fun v69 =>
 bnd (lft (nilChkA a0)) fun v70 =>
 bnd (lft (fieldAddrA T 95 v70 1)) fun v71 =>
 bnd (lft (fieldAddrA T 43 v71 3)) fun v72 =>
 bnd (storeH T 41 v72 v69) fun _v73 =>
 v50 [a0, a1, a3, AV.ip (acells a2), AV.int .i64 0, AV.int .i64 0, AV.sl [], AV.sl []]) (v50 [a0, a1, a3, AV.ip (acells a2), AV.int .i64 0, AV.int .i64 0, AV.sl [], AV.sl []])))
theorem E47 (call : CC) (fx : Fix AV) (a0 a1 a2 a3 : AV) : evBody (pg.cx call Try.f47.ntmps ann47) fx Try.f47 (own 47) [a0, a1, a2, a3] = S47 call fx a0 a1 a2 a3 := by kernel_rfl
theorem C47 (a0 a1 a2 a3 : AV) : callW pg 47 [a0, a1, a2, a3] = S47 (callW pg) fixW a0 a1 a2 a3 := (callW_heap hOther rfl rfl rfl _).trans (E47 _ _ a0 a1 a2 a3)
noncomputable def S48 (call : CC) (_fx : Fix AV) (a0 : AV) : M AV :=
 bnd (lft (loadA T 39 (AV.ip (acells a0)))) fun v0 =>
 bnd (call 21 [v0]) fun v1 =>
 bnd (lft (unA UnOp.not v1)) fun v2 =>
 M.pure v2
theorem E48 (call : CC) (fx : Fix AV) (a0 : AV) : evBody (pg.cx call Try.f48.ntmps ann48) fx Try.f48 (own 48) [a0] = S48 call fx a0 := by kernel_rfl
theorem C48 (a0 : AV) : callW pg 48 [a0] = isoP (S48 (callW pg) fixW (cl noHs a0)) := (callW_iso hOther rfl rfl rfl _).trans (congrArg isoP (E48 _ _ (cl noHs a0)))
noncomputable def L53_0 (call : CC) (_fx : Fix AV) (v59 : List AV → M AV) (v60 : List AV) : M AV :=
 bnd (lft (fieldAddrA T 39 (nth v60 1) 3)) fun v61 =>
 bnd (lft (loadA T 23 v61)) fun v62 =>
 bnd (lft (lenA T 23 v62)) fun v63 =>
 bnd (lft (binA T .lss 3 (nth v60 2) v63)) fun v64 =>
 condM v64 (bnd (lft (fieldAddrA T 39 (nth v60 1) 3)) fun v65 =>
 bnd (lft (loadA T 23 v65)) fun v66 =>
 bnd (lft (indexAddrA T 23 v66 (nth v60 2))) fun v67 =>
 bnd (lft (loadA T 39 v67)) fun v68 =>
 bnd (lft (binA T .sub 3 (nth v60 0) (AV.int .i64 1))) fun v69 =>
 bnd (call 53 [v68, v69]) fun v70 =>
 bnd (lft (unA UnOp.not v70)) fun v71 =>
 condM v71 (M.pure (AV.bool false)) (bnd (lft (binA T .add 3 (nth v60 2) (AV.int .i64 1))) fun v72 =>
 v59 [nth v60 0, nth v60 1, v72])) (M.pure (AV.bool true))
theorem XL53_0 {call : CC} : Cont1 (L53_0 call fixW ) fun _n => L53_0 call fixW  := by
 intro v59 v59s hself v60
 unfold L53_0
 exact (lb fun _ => (lb fun _ => (lb fun _ => (lb fun _ => (condM_lim (lb fun _ => (lb fun _ => (lb fun _ => (lb fun _ => (lb fun _ => (lb fun _ => (lb fun _ => (condM_lim (LimM.const _) (lb fun _ => (hself _)))))))))) (LimM.const _))))))
theorem FL53_0 (call : CC) (vs : List AV) : fixW (L53_0 call fixW ) vs = L53_0 call fixW  (fixW (L53_0 call fixW )) vs := fixW_eq (XL53_0 ) vs
noncomputable def S53 (call : CC) (fx : Fix AV) (a0 a1 : AV) : M AV :=
 bnd (lft (binA T .lss 3 a1 (AV.int .i64 1))) fun v0 =>
 bnd (guardM v0 false 1 (bnd (lft (fieldAddrA T 39 (AV.ip (acells a0)) 0)) fun v1 =>
 bnd (lft (loadA T 3 v1)) fun v2 =>
 bnd (lft (binA T .lss 3 v2 (AV.int .i64 0))) fun v3 =>
 M.pure [v3])) fun v4 =>
 bnd (lft (pickA v0 (AV.bool true) (nth v4 0))) fun v5 =>
 bnd (guardM v5 false 1 (bnd (lft (fieldAddrA T 39 (AV.ip (acells a0)) 0)) fun v6 =>
 bnd (lft (loadA T 3 v6)) fun v7 =>
 bnd (lft (binA T .geq 3 v7 (AV.int .i64 3))) fun v8 =>
 M.pure [v8])) fun v9 =>
 bnd (lft (pickA v5 (AV.bool true) (nth v9 0))) fun v10 =>
 bnd (guardM v10 false 1 (bnd (lft (fieldAddrA T 39 (AV.ip (acells a0)) 2)) fun v11 =>
 bnd (lft (loadA T 25 v11)) fun v12 =>
 bnd (lft (lenA T 25 v12)) fun v13 =>
 bnd (lft (fieldAddrA T 39 (AV.ip (acells a0)) 3)) fun v14 =>
 bnd (lft (loadA T 23 v14)) fun v15 =>
 bnd (lft (lenA T 23 v15)) fun v16 =>
 bnd (lft (binA T .neq 3 v13 v16)) fun v17 =>
 M.pure [v17])) fun v18 =>
 bnd (lft (pickA v10 (AV.bool true) (nth v18 0))) fun v19 =>
 condM v19 (M.pure (AV.bool false)) (bnd (lft (fieldAddrA T 39 (AV.ip (acells a0)) 0)) fun v20 =>
 bnd (lft (loadA T 3 v20)) fun v21 =>
 bnd (lft (binA T .eql 3 v21 (AV.int .i64 0))) fun v22 =>
 condM v22 (bnd (lft (fieldAddrA T 39 (AV.ip (acells a0)) 2)) fun v23 =>
 bnd (lft (loadA T 25 v23)) fun v24 =>
 bnd (lft (lenA T 25 v24)) fun v25 =>
 bnd (lft (binA T .eql 3 v25 (AV.int .i64 0))) fun v26 =>
 M.pure v26) (bnd (lft (fieldAddrA T 39 (AV.ip (acells a0)) 0)) fun v27 =>
 bnd (lft (loadA T 3 v27)) fun v28 =>
 bnd (lft (binA T .eql 3 v28 (AV.int .i64 1))) fun v29 =>
 condM v29 (bnd (lft (fieldAddrA T 39 (AV.ip (acells a0)) 2)) fun v30 =>
 bnd (lft (loadA T 25 v30)) fun v31 =>
 bnd (lft (lenA T 25 v31)) fun v32 =>
 bnd (lft (binA T .eql 3 v32 (AV.int .i64 0))) fun v33 =>
 bnd (guardM v33 true 1 (bnd (lft (fieldAddrA T 39 (AV.ip (acells a0)) 1)) fun v34 =>
 bnd (lft (loadA T 3 v34)) fun v35 =>
 bnd (lft (binA T .geq 3 v35 (AV.int .i64 0))) fun v36 =>
 M.pure [v36])) fun v37 =>
 bnd (lft (pickA v33 (nth v37 0) (AV.bool false))) fun v38 =>
 bnd (guardM v38 true 1 (bnd (lft (fieldAddrA T 39 (AV.ip (acells a0)) 1)) fun v39 =>
 bnd (lft (loadA T 3 v39)) fun v40 =>
 bnd (lft (binA T .leq 3 v40 (AV.int .i64 1))) fun v41 =>
 M.pure [v41])) fun v42 =>
 bnd (lft (pickA v38 (nth v42 0) (AV.bool false))) fun v43 =>
 M.pure v43) (bnd (lft (fieldAddrA T 39 (AV.ip (acells a0)) 1)) fun v44 =>
 bnd (lft (loadA T 3 v44)) fun v45 =>
 bnd (lft (binA T .neq 3 v45 (AV.int .i64 0))) fun v46 =>
 bnd (guardM v46 false 1 (bnd (lft (fieldAddrA T 39 (AV.ip (acells a0)) 2)) fun v47 =>
 bnd (lft (loadA T 25 v47)) fun v48 =>
 bnd (lft (lenA T 25 v48)) fun v49 =>
 bnd (lft (binA T .gtr 3 v49 (AV.int .i64 8))) fun v50 =>
 M.pure [v50])) fun v51 =>
 bnd (lft (pickA v46 (AV.bool true) (nth v51 0))) fun v52 =>
 bnd (guardM v52 false 1 (bnd (lft (fieldAddrA T 39 (AV.ip (acells a0)) 2)) fun v53 =>
 bnd (lft (loadA T 25 v53)) fun v54 =>
 bnd (call 91 [v54]) fun v55 =>
 bnd (lft (unA UnOp.not v55)) fun v56 =>
 M.pure [v56])) fun v57 =>
 bnd (lft (pickA v52 (AV.bool true) (nth v57 0))) fun v58 =>
 condM v58 (M.pure (AV.bool false)) (fx (L53_0 call fx) [a1, AV.ip (acells a0), AV.int .i64 0]))))
theorem E53 (call : CC) (fx : Fix AV) (a0 a1 : AV) : evBody (pg.cx call Try.f53.ntmps ann53) fx Try.f53 (own 53) [a0, a1] = S53 call fx a0 a1 := by kernel_rfl
theorem C53 (a0 a1 : AV) : callW pg 53 [a0, a1] = isoP (S53 (callW pg) fixW (cl noHs a0) (cl noHs a1)) := (callW_iso hOther rfl rfl rfl _).trans (congrArg isoP (E53 _ _ (cl noHs a0) (cl noHs a1)))
noncomputable def L65_0 (call : CC) (_fx : Fix AV) (v1 : List AV → M AV) (v2 : List AV) : M AV :=
 bnd (lft (binA T .lss 3 (nth v2 3) (nth v2 2))) fun v3 =>
 condM v3 (bnd (lft (indexAddrA T 59 (nth v2 0) (nth v2 3))) fun v4 =>
 bnd (lft (loadA T 67 v4)) fun v5 =>
 bnd (callV call (nth v2 1) [v5]) fun v6 =>
 condM v6 (M.pure (nth v2 3)) (bnd (lft (binA T .add 3 (nth v2 3) (AV.int .i64 1))) fun v7 =>
 v1 [nth v2 0, nth v2 1, nth v2 2, v7])) (M.pure (AV.int .i64 (-1)))
theorem XL65_0 {call : CC} : Cont1 (L65_0 call fixW ) fun _n => L65_0 call fixW  := by
 intro v1 v1s hself v2
 unfold L65_0
 exact (lb fun _ => (condM_lim (lb fun _ => (lb fun _ => (lb fun _ => (condM_lim (LimM.const _) (lb fun _ => (hself _)))))) (LimM.const _)))
theorem FL65_0 (call : CC) (vs : List AV) : fixW (L65_0 call fixW ) vs = L65_0 call fixW  (fixW (L65_0 call fixW )) vs := fixW_eq (XL65_0 ) vs
noncomputable def S65 (call : CC) (fx : Fix AV) (a0 a1 : AV) : M AV :=
 bnd (lft (lenA T 59 a0)) fun v0 =>
 fx (L65_0 call fx) [a0, a1, v0, AV.int .i64 0]
theorem E65 (call : CC) (fx : Fix AV) (a0 a1 : AV) : evBody (pg.cx call Try.f65.ntmps ann65) fx Try.f65 (own 65) [a0, a1] = S65 call fx a0 a1 := by kernel_rfl
theorem C65 (a0 a1 : AV) : callW pg 65 [a0, a1] = isoP (S65 (callW pg) fixW (cl noHs a0) (cl noHs a1)) := (callW_iso hOther rfl rfl rfl _).trans (congrArg isoP (E65 _ _ (cl noHs a0) (cl noHs a1)))
noncomputable def S69 (_call : CC) (_fx : Fix AV) (a0 a1 : AV) : M AV :=
 bnd (lft (unA UnOp.not a0)) fun v0 =>
 condM v0 (bnd (lft (mkIfaceA T 33 a1)) fun v1 =>
 bnd (panM v1) fun _v2 =>
 M.pure (AV.tup [])) (M.pure (AV.tup []))
theorem E69 (call : CC) (fx : Fix AV) (a0 a1 : AV) : evBody (pg.cx call Try.f69.ntmps ann69) fx Try.f69 (own 69) [a0, a1] = S69 call fx a0 a1 := by kernel_rfl
theorem C69 (a0 a1 : AV) : callW pg 69 [a0, a1] = isoP (S69 (callW pg) fixW (cl noHs a0) (cl noHs a1)) := (callW_iso hOther rfl rfl rfl _).trans (congrArg isoP (E69 _ _ (cl noHs a0) (cl noHs a1)))
noncomputable def S77 (call : CC) (_fx : Fix AV) (a0 a1 a2 : AV) : M AV :=
 bnd (lft (loadA T 98 (AV.ip (acells a1)))) fun v0 =>
 bnd (lft (loadA T 28 (AV.ip (acells a2)))) fun v1 =>
 bnd (call 50 [a0, v0, v1]) fun v2 =>
 bnd (cellsM 4 v2) fun v3 =>
 bnd (lft (fieldAddrA T 39 (AV.ip (acells v3)) 0)) fun v4 =>
 bnd (lft (loadA T 3 v4)) fun v5 =>
 bnd (lft (binA T .eql 3 v5 (AV.int .i64 1))) fun v6 =>
 bnd (call 69 [v6, AV.int .i64 13]) fun _v7 =>
 bnd (lft (fieldAddrA T 39 (AV.ip (acells v3)) 1)) fun v8 =>
 bnd (lft (loadA T 3 v8)) fun v9 =>
 bnd (lft (binA T .eql 3 v9 (AV.int .i64 1))) fun v10 =>
 M.pure v10
theorem E77 (call : CC) (fx : Fix AV) (a0 a1 a2 : AV) : evBody (pg.cx call Try.f77.ntmps ann77) fx Try.f77 (own 77) [a0, a1, a2] = S77 call fx a0 a1 a2 := by kernel_rfl
theorem C77 (a0 a1 a2 : AV) : callW pg 77 [a0, a1, a2] = S77 (callW pg) fixW a0 a1 a2 := (callW_heap hOther rfl rfl rfl _).trans (E77 _ _ a0 a1 a2)
noncomputable def K81_0 (call : CC) (_fx : Fix AV) (v33 : List AV) : M AV :=
 bnd (lft (nilChkA (nth v33 0))) fun v34 =>
 bnd (lft (fieldAddrA T 81 v34 4)) fun v35 =>
 bnd (lft (fieldAddrA T 43 v35 2)) fun v36 =>
 bnd (loadH T 40 v36) fun v37 =>
 bnd (lft (fieldAddrA T 28 (nth v33 1) 1)) fun v38 =>
 bnd (lft (loadA T 3 v38)) fun v39 =>
 bnd (lft (fieldAddrA T 39 (nth v33 2) 1)) fun v40 =>
 bnd (lft (loadA T 3 v40)) fun v41 =>
 bnd (lft (buildA T false 55 [(0, v39), (1, v41), (2, nth v33 3)])) fun v42 =>
 bnd (lft (buildSliceA T 40 1 [(0, v42)])) fun v43 =>
 bnd (appH T 40 false v37 v43) fun v44 =>
 bnd (lft (nilChkA (nth v33 0))) fun v45 =>
 bnd (lft (fieldAddrA T 81 v45 4)) fun v46 =>
 bnd (lft (fieldAddrA T 43 v46 2)) fun v47 =>
 bnd (storeH T 40 v47 v44) fun _v48 =>
 bnd (call 74 [nth v33 3]) fun v49 =>
 bnd (cellsNil 4 [] v49) fun v50 =>
 M.pure (AV.agg [nth (acells v50) 0, nth (acells v50) 1, nth (acells v50) 2, nth (acells v50) 3])
noncomputable def K81_1 (_call : CC) (_fx : Fix AV) (v93 : List AV) : M AV :=
 bnd (lft (indexAddrA T 23 (nth v93 1) (nth v93 0))) fun v94 =>
 bnd (loadH T 39 v94) fun v95 =>
 bnd (cellsNil 4 [] v95) fun v96 =>
 M.pure (AV.agg [nth (acells v96) 0, nth (acells v96) 1, nth (acells v96) 2, nth (acells v96) 3])
noncomputable def S81 (call : CC) (fx : Fix AV) (a0 a1 a2 : AV) : M AV :=
 bnd (lft (fieldAddrA T 28 (AV.ip (acells a2)) 0)) fun v0 =>
 bnd (lft (loadA T 3 v0)) fun v1 =>
 bnd (lft (binA T .eql 3 v1 (AV.int .i64 16))) fun v2 =>
 condM v2 (bnd (lft (loadA T 98 (AV.ip (acells a1)))) fun v3 =>
 bnd (lft (fieldAddrA T 28 (AV.ip (acells a2)) 5)) fun v4 =>
 bnd (lft (loadA T 26 v4)) fun v5 =>
 bnd (lft (indexAddrA T 26 v5 (AV.int .i64 0))) fun v6 =>
 bnd (lft (loadA T 28 v6)) fun v7 =>
 bnd (call 50 [a0, v3, v7]) fun v8 =>
 bnd (cellsM 4 v8) fun v9 =>
 bnd (lft (fieldAddrA T 39 (AV.ip (acells v9)) 0)) fun v10 =>
 bnd (lft (loadA T 3 v10)) fun v11 =>
 bnd (lft (binA T .eql 3 v11 (AV.int .i64 0))) fun v12 =>
 bnd (call 69 [v12, AV.int .i64 13]) fun _v13 =>
 bnd (lft (fieldAddrA T 28 (AV.ip (acells a2)) 1)) fun v14 =>
 bnd (lft (loadA T 3 v14)) fun v15 =>
 bnd (lft (binA T .eql 3 v15 (AV.int .i64 1))) fun v16 =>
 bnd (guardM v16 false 1 (bnd (lft (fieldAddrA T 28 (AV.ip (acells a2)) 1)) fun v17 =>
 bnd (lft (loadA T 3 v17)) fun v18 =>
 bnd (lft (binA T .eql 3 v18 (AV.int .i64 2))) fun v19 =>
 M.pure [v19])) fun v20 =>
 bnd (lft (pickA v16 (AV.bool true) (nth v20 0))) fun v21 =>
 bnd (guardM v21 false 1 (bnd (lft (fieldAddrA T 28 (AV.ip (acells a2)) 1)) fun v22 =>
 bnd (lft (loadA T 3 v22)) fun v23 =>
 bnd (lft (binA T .eql 3 v23 (AV.int .i64 4))) fun v24 =>
 M.pure [v24])) fun v25 =>
 bnd (lft (pickA v21 (AV.bool true) (nth v25 0))) fun v26 =>
 bnd (guardM v26 false 1 (bnd (lft (fieldAddrA T 28 (AV.ip (acells a2)) 1)) fun v27 =>
 bnd (lft (loadA T 3 v27)) fun v28 =>
 bnd (lft (binA T .eql 3 v28 (AV.int .i64 8))) fun v29 =>
 M.pure [v29])) fun v30 =>
 bnd (lft (pickA v26 (AV.bool true) (nth v30 0))) fun v31 =>
 bnd (call 69 [v31, AV.int .i64 14]) fun _v32 =>
 jn (K81_0 call fx) fun v51 =>
 bnd (lft (nilChkA a0)) fun v52 =>
 bnd (lft (fieldAddrA T 81 v52 1)) fun v53 =>
 bnd (loadH T 24 v53) fun v54 =>
 bnd (lft (lenA T 24 v54)) fun v55 =>
 bnd (lft (binA T .gtr 3 v55 (AV.int .i64 0))) fun v56 =>
 condM v56 (bnd (lft (nilChkA a0)) fun v57 =>
 bnd (lft (fieldAddrA T 81 v57 1)) fun v58 =>
 bnd (loadH T 24 v58) fun v59 =>
 bnd (lft (indexAddrA T 24 v59 (AV.int .i64 0))) fun v60 =>
 bnd (lft (loadA T 3 v60)) fun v61 =>
 bnd (lft (nilChkA a0)) fun v62 =>
 bnd (lft (fieldAddrA T 81 v62 1)) fun v63 =>
 bnd (loadH T 24 v63) fun v64 =>
 bnd (lft (sliceA T 24 v64 (some (AV.int .i64 1)) none none)) fun v65 =>
 bnd (lft (nilChkA a0)) fun v66 =>
 bnd (lft (fieldAddrA T 81 v66 1)) fun v67 =>
 bnd (storeH T 24 v67 v65) fun _v68 =>
 v51 [a0, AV.ip (acells a2), AV.ip (acells v9), v61, AV.int .i64 0, AV.int .i64 0, AV.sl [], AV.sl []]) (v51 [a0, AV.ip (acells a2), AV.ip (acells v9), AV.int .i64 0, AV.int .i64 0, AV.int .i64 0, AV.sl [], AV.sl []])) (bnd (lft (fieldAddrA T 98 (AV.ip (acells a1)) 0)) fun v69 =>
 bnd (lft (loadA T 3 v69)) fun v70 =>
 bnd (lft (binA T .geq 3 v70 (AV.int .i64 0))) fun v71 =>
 bnd (call 69 [v71, AV.int .i64 12]) fun _v72 =>
 bnd (lft (nilChkA a0)) fun v73 =>
 bnd (lft (fieldAddrA T 81 v73 0)) fun v74 =>
 bnd (loadH T 22 v74) fun v75 =>
 bnd (lft (fieldAddrA T 98 (AV.ip (acells a1)) 0)) fun v76 =>
 bnd (lft (loadA T 3 v76)) fun v77 =>
 bnd (lft (indexAddrA T 22 v75 v77)) fun v78 =>
 bnd (lft (fieldAddrA T 63 v78 2)) fun v79 =>
 bnd (lft (loadA T 58 v79)) fun v80 =>
 bnd (noPan (call 98 [v80, AV.fn (Fn.func 99) [] [AV.ip (acells a2)]])) fun v81 =>
 bnd (lft (binA T .geq 3 v81 (AV.int .i64 0))) fun v82 =>
 bnd (call 69 [v82, AV.int .i64 12]) fun _v83 =>
 bnd (lft (nilChkA a0)) fun v84 =>
 bnd (lft (fieldAddrA T 81 v84 4)) fun v85 =>
 bnd (lft (fieldAddrA T 43 v85 4)) fun v86 =>
 bnd (loadH T 32 v86) fun v87 =>
 bnd (lft (fieldAddrA T 98 (AV.ip (acells a1)) 0)) fun v88 =>
 bnd (lft (loadA T 3 v88)) fun v89 =>
 bnd (lft (indexAddrA T 32 v87 v89)) fun v90 =>
 bnd (lft (fieldAddrA T 47 v90 1)) fun v91 =>
 bnd (loadH T 23 v91) fun v92 =>
 jn (K81_1 call fx) fun v97 =>
 bnd (lft (fieldAddrA T 28 (AV.ip (acells a2)) 0)) fun v98 =>
 bnd (lft (loadA T 3 v98)) fun v99 =>
 bnd (lft (binA T .eql 3 v99 (AV.int .i64 18))) fun v100 =>
 condM v100 (bnd (lft (loadA T 98 (AV.ip (acells a1)))) fun v101 =>
 bnd (lft (fieldAddrA T 28 (AV.ip (acells a2)) 5)) fun v102 =>
 bnd (lft (loadA T 26 v102)) fun v103 =>
 bnd (lft (indexAddrA T 26 v103 (AV.int .i64 0))) fun v104 =>
 bnd (lft (loadA T 28 v104)) fun v105 =>
 bnd (call 50 [a0, v101, v105]) fun v106 =>
 bnd (lft (indexAddrA T 23 v92 v81)) fun v107 =>
 bnd (storeH T 39 v107 v106) fun _v108 =>
 v97 [v81, v92, AV.int .i64 0, AV.int .i64 0, AV.sl [], AV.sl []]) (v97 [v81, v92, AV.int .i64 0, AV.int .i64 0, AV.sl [], AV.sl []]))
theorem E81 (call : CC) (fx : Fix AV) (a0 a1 a2 : AV) : evBody (pg.cx call Try.f81.ntmps ann81) fx Try.f81 (own 81) [a0, a1, a2] = S81 call fx a0 a1 a2 := by kernel_rfl
theorem C81 (a0 a1 a2 : AV) : callW pg 81 [a0, a1, a2] = S81 (callW pg) fixW a0 a1 a2 := (callW_heap hOther rfl rfl rfl _).trans (E81 _ _ a0 a1 a2)
noncomputable def K83_0 (_call : CC) (_fx : Fix AV) (v2 : List AV) : M AV :=
 bnd (cellsNil 4 [] (AV.agg [nth v2 4, nth v2 5, nth v2 6, nth v2 7])) fun v3 =>
 M.pure (AV.agg [nth (acells v3) 0, nth (acells v3) 1, nth (acells v3) 2, nth (acells v3) 3])
noncomputable def S83 (call : CC) (fx : Fix AV) (a0 : AV) : M AV :=
 bnd (lft (buildA T false 39 [(0, AV.int .i64 1)])) fun v0 =>
 bnd (cellsNil 4 [] v0) fun v1 =>
 jn (K83_0 call fx) fun v4 =>
 condM a0 (bnd (cell1M (AV.int .i64 1)) fun v5 =>
 v4 [AV.int .i64 0, AV.int .i64 0, AV.sl [], AV.sl [], nth (acells v1) 0, v5, nth (acells v1) 2, nth (acells v1) 3]) (v4 [AV.int .i64 0, AV.int .i64 0, AV.sl [], AV.sl [], nth (acells v1) 0, nth (acells v1) 1, nth (acells v1) 2, nth (acells v1) 3])
theorem E83 (call : CC) (fx : Fix AV) (a0 : AV) : evBody (pg.cx call Try.f83.ntmps ann83) fx Try.f83 (own 83) [a0] = S83 call fx a0 := by kernel_rfl
theorem C83 (a0 : AV) : callW pg 83 [a0] = isoP (S83 (callW pg) fixW (cl noHs a0)) := (callW_iso hOther rfl rfl rfl _).trans (congrArg isoP (E83 _ _ (cl noHs a0)))
noncomputable def L89_0 (_call : CC) (_fx : Fix AV) (v0 : List AV → M AV) (v1 : List AV) : M AV :=
 bnd (lft (lenA T 25 (nth v1 0))) fun v2 =>
 bnd (lft (binA T .lss 3 (nth v1 1) v2)) fun v3 =>
 condM v3 (bnd (lft (binA T .sub 3 (nth v1 1) (AV.int .i64 1))) fun v4 =>
 bnd (lft (indexAddrA T 25 (nth v1 0) v4)) fun v5 =>
 bnd (lft (loadA T 9 v5)) fun v6 =>
 bnd (lft (indexAddrA T 25 (nth v1 0) (nth v1 1))) fun v7 =>
 bnd (lft (loadA T 9 v7)) fun v8 =>
 bnd (lft (binA T .geq 9 v6 v8)) fun v9 =>
 condM v9 (M.pure (AV.bool false)) (bnd (lft (binA T .add 3 (nth v1 1) (AV.int .i64 1))) fun v10 =>
 v0 [nth v1 0, v10])) (M.pure (AV.bool true))
theorem XL89_0 {call : CC} : Cont1 (L89_0 call fixW ) fun _n => L89_0 call fixW  := by
 intro v0 v0s hself v1
 unfold L89_0
 exact (lb fun _ => (lb fun _ => (condM_lim (lb fun _ => (lb fun _ => (lb fun _ => (lb fun _ => (lb fun _ => (lb fun _ => (condM_lim (LimM.const _) (lb fun _ => (hself _))))))))) (LimM.const _))))
theorem FL89_0 (call : CC) (vs : List AV) : fixW (L89_0 call fixW ) vs = L89_0 call fixW  (fixW (L89_0 call fixW )) vs := fixW_eq (XL89_0 ) vs
noncomputable def S89 (call : CC) (fx : Fix AV) (a0 : AV) : M AV :=
 fx (L89_0 call fx) [a0, AV.int .i64 1]
theorem E89 (call : CC) (fx : Fix AV) (a0 : AV) : evBody (pg.cx call Try.f89.ntmps ann89) fx Try.f89 (own 89) [a0] = S89 call fx a0 := by kernel_rfl
theorem C89 (a0 : AV) : callW pg 89 [a0] = isoP (S89 (callW pg) fixW (cl noHs a0)) := (callW_iso hOther rfl rfl rfl _).trans (congrArg isoP (E89 _ _ (cl noHs a0)))
noncomputable def L92_0 (_call : CC) (_fx : Fix AV) (v4 : List AV → M AV) (v5 : List AV) : M AV :=
 bnd (lft (binA T .lss 3 (nth v5 3) (nth v5 2))) fun v6 =>
 condM v6 (bnd (lft (indexAddrA T 25 (nth v5 0) (nth v5 3))) fun v7 =>
 bnd (lft (loadA T 9 v7)) fun v8 =>
 bnd (lft (indexAddrA T 25 (nth v5 1) (nth v5 3))) fun v9 =>
 bnd (lft (loadA T 9 v9)) fun v10 =>
 bnd (lft (binA T .neq 9 v8 v10)) fun v11 =>
 condM v11 (M.pure (AV.bool false)) (bnd (lft (binA T .add 3 (nth v5 3) (AV.int .i64 1))) fun v12 =>
 v4 [nth v5 0, nth v5 1, nth v5 2, v12])) (M.pure (AV.bool true))
theorem XL92_0 {call : CC} : Cont1 (L92_0 call fixW ) fun _n => L92_0 call fixW  := by
 intro v4 v4s hself v5
 unfold L92_0
 exact (lb fun _ => (condM_lim (lb fun _ => (lb fun _ => (lb fun _ => (lb fun _ => (lb fun _ => (condM_lim (LimM.const _) (lb fun _ => (hself _)))))))) (LimM.const _)))
theorem FL92_0 (call : CC) (vs : List AV) : fixW (L92_0 call fixW ) vs = L92_0 call fixW  (fixW (L92_0 call fixW )) vs := fixW_eq (XL92_0 ) vs
noncomputable def S92 (call : CC) (fx : Fix AV) (a0 a1 : AV) : M AV :=
 bnd (lft (lenA T 25 a0)) fun v0 =>
 bnd (lft (lenA T 25 a1)) fun v1 =>
 bnd (lft (binA T .neq 3 v0 v1)) fun v2 =>
 condM v2 (M.pure (AV.bool false)) (bnd (lft (lenA T 25 a0)) fun v3 =>
 fx (L92_0 call fx) [a0, a1, v3, AV.int .i64 0])
theorem E92 (call : CC) (fx : Fix AV) (a0 a1 : AV) : evBody (pg.cx call Try.f92.ntmps ann92) fx Try.f92 (own 92) [a0, a1] = S92 call fx a0 a1 := by kernel_rfl
theorem C92 (a0 a1 : AV) : callW pg 92 [a0, a1] = isoP (S92 (callW pg) fixW (cl noHs a0) (cl noHs a1)) := (callW_iso hOther rfl rfl rfl _).trans (congrArg isoP (E92 _ _ (cl noHs a0) (cl noHs a1)))
noncomputable def S99 (_call : CC) (_fx : Fix AV) (a0 a1 : AV) : M AV :=
 bnd (lft (fieldAddrA T 104 (AV.ip (acells a0)) 0)) fun v0 =>
 bnd (lft (loadA T 9 v0)) fun v1 =>
 bnd (lft (fieldAddrA T 28 a1 2)) fun v2 =>
 bnd (lft (loadA T 9 v2)) fun v3 =>
 bnd (lft (binA T .eql 9 v1 v3)) fun v4 =>
 M.pure v4
theorem E99 (call : CC) (fx : Fix AV) (a0 a1 : AV) : evBody (pg.cx call Try.f99.ntmps ann99) fx Try.f99 (own 99) [a0, a1] = S99 call fx a0 a1 := by kernel_rfl
theorem C99 (a0 a1 : AV) : callW pg 99 [a0, a1] = isoP (S99 (callW pg) fixW (cl noHs a0) (cl noHs a1)) := (callW_iso hOther rfl rfl rfl _).trans (congrArg isoP (E99 _ _ (cl noHs a0) (cl noHs a1)))
noncomputable def L102_0 (call : CC) (_fx : Fix AV) (v1 : List AV → M AV) (v2 : List AV) : M AV :=
 bnd (lft (fieldAddrA T 39 (nth v2 1) 3)) fun v3 =>
 bnd (lft (loadA T 23 v3)) fun v4 =>
 bnd (lft (lenA T 23 v4)) fun v5 =>
 bnd (lft (binA T .lss 3 (nth v2 3) v5)) fun v6 =>
 condM v6 (bnd (lft (fieldAddrA T 39 (nth v2 1) 3)) fun v7 =>
 bnd (lft (loadA T 23 v7)) fun v8 =>
 bnd (lft (indexAddrA T 23 v8 (nth v2 3))) fun v9 =>
 bnd (lft (loadA T 39 v9)) fun v10 =>
 bnd (lft (binA T .sub 3 (nth v2 0) (AV.int .i64 1))) fun v11 =>
 bnd (call 102 [v10, v11]) fun v12 =>
 bnd (lft (minsA true [nth v2 2, v12])) fun v13 =>
 bnd (lft (binA T .add 3 (nth v2 3) (AV.int .i64 1))) fun v14 =>
 v1 [nth v2 0, nth v2 1, v13, v14]) (bnd (lft (binA T .add 3 (nth v2 2) (AV.int .i64 1))) fun v15 =>
 M.pure v15)
theorem XL102_0 {call : CC} : Cont1 (L102_0 call fixW ) fun _n => L102_0 call fixW  := by
 intro v1 v1s hself v2
 unfold L102_0
 exact (lb fun _ => (lb fun _ => (lb fun _ => (lb fun _ => (condM_lim (lb fun _ => (lb fun _ => (lb fun _ => (lb fun _ => (lb fun _ => (lb fun _ => (lb fun _ => (lb fun _ => (hself _))))))))) (LimM.const _))))))
theorem FL102_0 (call : CC) (vs : List AV) : fixW (L102_0 call fixW ) vs = L102_0 call fixW  (fixW (L102_0 call fixW )) vs := fixW_eq (XL102_0 ) vs
noncomputable def S102 (call : CC) (fx : Fix AV) (a0 a1 : AV) : M AV :=
 bnd (lft (binA T .leq 3 a1 (AV.int .i64 1))) fun v0 =>
 condM v0 (M.pure (AV.int .i64 1)) (fx (L102_0 call fx) [a1, AV.ip (acells a0), AV.int .i64 0, AV.int .i64 0])
theorem E102 (call : CC) (fx : Fix AV) (a0 a1 : AV) : evBody (pg.cx call Try.f102.ntmps ann102) fx Try.f102 (own 102) [a0, a1] = S102 call fx a0 a1 := by kernel_rfl
theorem C102 (a0 a1 : AV) : callW pg 102 [a0, a1] = isoP (S102 (callW pg) fixW (cl noHs a0) (cl noHs a1)) := (callW_iso hOther rfl rfl rfl _).trans (congrArg isoP (E102 _ _ (cl noHs a0) (cl noHs a1)))
end Go.Proofs.Ytgbopmciiadmlaa

namespace Go.Proofs.Ytgbopmciiadmlaa
open Go Go.Av Go.Av.Ap
set_option maxRecDepth 100000
@[simp] theorem FA28_0 (cs : List AV) : fieldAddrA T 28 (.ip cs) 0 = some (.ip (cs.drop 0)) := rfl
@[simp] theorem FH28_0 (l k : Nat) : fieldAddrA T 28 (.hp l k) 0 = some (.hp l (k + 0)) := rfl
@[simp] theorem FA28_1 (cs : List AV) : fieldAddrA T 28 (.ip cs) 1 = some (.ip (cs.drop 1)) := rfl
@[simp] theorem FH28_1 (l k : Nat) : fieldAddrA T 28 (.hp l k) 1 = some (.hp l (k + 1)) := rfl
@[simp] theorem FA28_2 (cs : List AV) : fieldAddrA T 28 (.ip cs) 2 = some (.ip (cs.drop 2)) := rfl
@[simp] theorem FH28_2 (l k : Nat) : fieldAddrA T 28 (.hp l k) 2 = some (.hp l (k + 2)) := rfl
@[simp] theorem FA28_3 (cs : List AV) : fieldAddrA T 28 (.ip cs) 3 = some (.ip (cs.drop 3)) := rfl
@[simp] theorem FH28_3 (l k : Nat) : fieldAddrA T 28 (.hp l k) 3 = some (.hp l (k + 3)) := rfl
@[simp] theorem FA28_4 (cs : List AV) : fieldAddrA T 28 (.ip cs) 4 = some (.ip (cs.drop 4)) := rfl
@[simp] theorem FH28_4 (l k : Nat) : fieldAddrA T 28 (.hp l k) 4 = some (.hp l (k + 4)) := rfl
@[simp] theorem FA28_5 (cs : List AV) : fieldAddrA T 28 (.ip cs) 5 = some (.ip (cs.drop 5)) := rfl
@[simp] theorem FH28_5 (l k : Nat) : fieldAddrA T 28 (.hp l k) 5 = some (.hp l (k + 5)) := rfl
@[simp] theorem FA39_0 (cs : List AV) : fieldAddrA T 39 (.ip cs) 0 = some (.ip (cs.drop 0)) := rfl
@[simp] theorem FH39_0 (l k : Nat) : fieldAddrA T 39 (.hp l k) 0 = some (.hp l (k + 0)) := rfl
@[simp] theorem FA39_1 (cs : List AV) : fieldAddrA T 39 (.ip cs) 1 = some (.ip (cs.drop 1)) := rfl
@[simp] theorem FH39_1 (l k : Nat) : fieldAddrA T 39 (.hp l k) 1 = some (.hp l (k + 1)) := rfl
@[simp] theorem FA39_2 (cs : List AV) : fieldAddrA T 39 (.ip cs) 2 = some (.ip (cs.drop 2)) := rfl
@[simp] theorem FH39_2 (l k : Nat) : fieldAddrA T 39 (.hp l k) 2 = some (.hp l (k + 2)) := rfl
@[simp] theorem FA39_3 (cs : List AV) : fieldAddrA T 39 (.ip cs) 3 = some (.ip (cs.drop 3)) := rfl
@[simp] theorem FH39_3 (l k : Nat) : fieldAddrA T 39 (.hp l k) 3 = some (.hp l (k + 3)) := rfl
@[simp] theorem FA43_0 (cs : List AV) : fieldAddrA T 43 (.ip cs) 0 = some (.ip (cs.drop 0)) := rfl
@[simp] theorem FH43_0 (l k : Nat) : fieldAddrA T 43 (.hp l k) 0 = some (.hp l (k + 0)) := rfl
@[simp] theorem FA43_1 (cs : List AV) : fieldAddrA T 43 (.ip cs) 1 = some (.ip (cs.drop 1)) := rfl
@[simp] theorem FH43_1 (l k : Nat) : fieldAddrA T 43 (.hp l k) 1 = some (.hp l (k + 1)) := rfl
@[simp] theorem FA43_2 (cs : List AV) : fieldAddrA T 43 (.ip cs) 2 = some (.ip (cs.drop 5)) := rfl
@[simp] theorem FH43_2 (l k : Nat) : fieldAddrA T 43 (.hp l k) 2 = some (.hp l (k + 5)) := rfl
@[simp] theorem FA43_3 (cs : List AV) : fieldAddrA T 43 (.ip cs) 3 = some (.ip (cs.drop 6)) := rfl
@[simp] theorem FH43_3 (l k : Nat) : fieldAddrA T 43 (.hp l k) 3 = some (.hp l (k + 6)) := rfl
@[simp] theorem FA43_4 (cs : List AV) : fieldAddrA T 43 (.ip cs) 4 = some (.ip (cs.drop 7)) := rfl
@[simp] theorem FH43_4 (l k : Nat) : fieldAddrA T 43 (.hp l k) 4 = some (.hp l (k + 7)) := rfl
@[simp] theorem FA47_0 (cs : List AV) : fieldAddrA T 47 (.ip cs) 0 = some (.ip (cs.drop 0)) := rfl
@[simp] theorem FH47_0 (l k : Nat) : fieldAddrA T 47 (.hp l k) 0 = some (.hp l (k + 0)) := rfl
@[simp] theorem FA47_1 (cs : List AV) : fieldAddrA T 47 (.ip cs) 1 = some (.ip (cs.drop 1)) := rfl
@[simp] theorem FH47_1 (l k : Nat) : fieldAddrA T 47 (.hp l k) 1 = some (.hp l (k + 1)) := rfl
@[simp] theorem FA55_2 (cs : List AV) : fieldAddrA T 55 (.ip cs) 2 = some (.ip (cs.drop 2)) := rfl
@[simp] theorem FH55_2 (l k : Nat) : fieldAddrA T 55 (.hp l k) 2 = some (.hp l (k + 2)) := rfl
@[simp] theorem FA61_0 (cs : List AV) : fieldAddrA T 61 (.ip cs) 0 = some (.ip (cs.drop 0)) := rfl
@[simp] theorem FH61_0 (l k : Nat) : fieldAddrA T 61 (.hp l k) 0 = some (.hp l (k + 0)) := rfl
@[simp] theorem FA61_1 (cs : List AV) : fieldAddrA T 61 (.ip cs) 1 = some (.ip (cs.drop 1)) := rfl
@[simp] theorem FH61_1 (l k : Nat) : fieldAddrA T 61 (.hp l k) 1 = some (.hp l (k + 1)) := rfl
@[simp] theorem FA61_2 (cs : List AV) : fieldAddrA T 61 (.ip cs) 2 = some (.ip (cs.drop 2)) := rfl
@[simp] theorem FH61_2 (l k : Nat) : fieldAddrA T 61 (.hp l k) 2 = some (.hp l (k + 2)) := rfl
@[simp] theorem FA63_0 (cs : List AV) : fieldAddrA T 63 (.ip cs) 0 = some (.ip (cs.drop 0)) := rfl
@[simp] theorem FH63_0 (l k : Nat) : fieldAddrA T 63 (.hp l k) 0 = some (.hp l (k + 0)) := rfl
@[simp] theorem FA63_1 (cs : List AV) : fieldAddrA T 63 (.ip cs) 1 = some (.ip (cs.drop 1)) := rfl
@[simp] theorem FH63_1 (l k : Nat) : fieldAddrA T 63 (.hp l k) 1 = some (.hp l (k + 1)) := rfl
@[simp] theorem FA63_2 (cs : List AV) : fieldAddrA T 63 (.ip cs) 2 = some (.ip (cs.drop 2)) := rfl
@[simp] theorem FH63_2 (l k : Nat) : fieldAddrA T 63 (.hp l k) 2 = some (.hp l (k + 2)) := rfl
@[simp] theorem FA63_3 (cs : List AV) : fieldAddrA T 63 (.ip cs) 3 = some (.ip (cs.drop 3)) := rfl
@[simp] theorem FH63_3 (l k : Nat) : fieldAddrA T 63 (.hp l k) 3 = some (.hp l (k + 3)) := rfl
@[simp] theorem FA63_4 (cs : List AV) : fieldAddrA T 63 (.ip cs) 4 = some (.ip (cs.drop 4)) := rfl
@[simp] theorem FH63_4 (l k : Nat) : fieldAddrA T 63 (.hp l k) 4 = some (.hp l (k + 4)) := rfl
@[simp] theorem FA63_6 (cs : List AV) : fieldAddrA T 63 (.ip cs) 6 = some (.ip (cs.drop 6)) := rfl
@[simp] theorem FH63_6 (l k : Nat) : fieldAddrA T 63 (.hp l k) 6 = some (.hp l (k + 6)) := rfl
@[simp] theorem FA65_1 (cs : List AV) : fieldAddrA T 65 (.ip cs) 1 = some (.ip (cs.drop 1)) := rfl
@[simp] theorem FH65_1 (l k : Nat) : fieldAddrA T 65 (.hp l k) 1 = some (.hp l (k + 1)) := rfl
@[simp] theorem FA67_0 (cs : List AV) : fieldAddrA T 67 (.ip cs) 0 = some (.ip (cs.drop 0)) := rfl
@[simp] theorem FH67_0 (l k : Nat) : fieldAddrA T 67 (.hp l k) 0 = some (.hp l (k + 0)) := rfl
@[simp] theorem FA67_1 (cs : List AV) : fieldAddrA T 67 (.ip cs) 1 = some (.ip (cs.drop 1)) := rfl
@[simp] theorem FH67_1 (l k : Nat) : fieldAddrA T 67 (.hp l k) 1 = some (.hp l (k + 1)) := rfl
@[simp] theorem FA67_2 (cs : List AV) : fieldAddrA T 67 (.ip cs) 2 = some (.ip (cs.drop 2)) := rfl
@[simp] theorem FH67_2 (l k : Nat) : fieldAddrA T 67 (.hp l k) 2 = some (.hp l (k + 2)) := rfl
@[simp] theorem FA67_3 (cs : List AV) : fieldAddrA T 67 (.ip cs) 3 = some (.ip (cs.drop 3)) := rfl
@[simp] theorem FH67_3 (l k : Nat) : fieldAddrA T 67 (.hp l k) 3 = some (.hp l (k + 3)) := rfl
@[simp] theorem FA67_5 (cs : List AV) : fieldAddrA T 67 (.ip cs) 5 = some (.ip (cs.drop 6)) := rfl
@[simp] theorem FH67_5 (l k : Nat) : fieldAddrA T 67 (.hp l k) 5 = some (.hp l (k + 6)) := rfl
@[simp] theorem FA69_0 (cs : List AV) : fieldAddrA T 69 (.ip cs) 0 = some (.ip (cs.drop 0)) := rfl
@[simp] theorem FH69_0 (l k : Nat) : fieldAddrA T 69 (.hp l k) 0 = some (.hp l (k + 0)) := rfl
@[simp] theorem FA69_1 (cs : List AV) : fieldAddrA T 69 (.ip cs) 1 = some (.ip (cs.drop 1)) := rfl
@[simp] theorem FH69_1 (l k : Nat) : fieldAddrA T 69 (.hp l k) 1 = some (.hp l (k + 1)) := rfl
@[simp] theorem FA69_2 (cs : List AV) : fieldAddrA T 69 (.ip cs) 2 = some (.ip (cs.drop 2)) := rfl
@[simp] theorem FH69_2 (l k : Nat) : fieldAddrA T 69 (.hp l k) 2 = some (.hp l (k + 2)) := rfl
@[simp] theorem FA81_0 (cs : List AV) : fieldAddrA T 81 (.ip cs) 0 = some (.ip (cs.drop 0)) := rfl
@[simp] theorem FH81_0 (l k : Nat) : fieldAddrA T 81 (.hp l k) 0 = some (.hp l (k + 0)) := rfl
@[simp] theorem FA81_1 (cs : List AV) : fieldAddrA T 81 (.ip cs) 1 = some (.ip (cs.drop 1)) := rfl
@[simp] theorem FH81_1 (l k : Nat) : fieldAddrA T 81 (.hp l k) 1 = some (.hp l (k + 1)) := rfl
@[simp] theorem FA81_2 (cs : List AV) : fieldAddrA T 81 (.ip cs) 2 = some (.ip (cs.drop 2)) := rfl
@[simp] theorem FH81_2 (l k : Nat) : fieldAddrA T 81 (.hp l k) 2 = some (.hp l (k + 2)) := rfl
@[simp] theorem FA81_3 (cs : List AV) : fieldAddrA T 81 (.ip cs) 3 = some (.ip (cs.drop 3)) := rfl
@[simp] theorem FH81_3 (l k : Nat) : fieldAddrA T 81 (.hp l k) 3 = some (.hp l (k + 3)) := rfl
@[simp] theorem FA81_4 (cs : List AV) : fieldAddrA T 81 (.ip cs) 4 = some (.ip (cs.drop 4)) := rfl
@[simp] theorem FH81_4 (l k : Nat) : fieldAddrA T 81 (.hp l k) 4 = some (.hp l (k + 4)) := rfl
@[simp] theorem FA95_0 (cs : List AV) : fieldAddrA T 95 (.ip cs) 0 = some (.ip (cs.drop 0)) := rfl
@[simp] theorem FH95_0 (l k : Nat) : fieldAddrA T 95 (.hp l k) 0 = some (.hp l (k + 0)) := rfl
@[simp] theorem FA95_1 (cs : List AV) : fieldAddrA T 95 (.ip cs) 1 = some (.ip (cs.drop 1)) := rfl
@[simp] theorem FH95_1 (l k : Nat) : fieldAddrA T 95 (.hp l k) 1 = some (.hp l (k + 1)) := rfl
@[simp] theorem FA95_2 (cs : List AV) : fieldAddrA T 95 (.ip cs) 2 = some (.ip (cs.drop 9)) := rfl
@[simp] theorem FH95_2 (l k : Nat) : fieldAddrA T 95 (.hp l k) 2 = some (.hp l (k + 9)) := rfl
@[simp] theorem FA95_3 (cs : List AV) : fieldAddrA T 95 (.ip cs) 3 = some (.ip (cs.drop 10)) := rfl
@[simp] theorem FH95_3 (l k : Nat) : fieldAddrA T 95 (.hp l k) 3 = some (.hp l (k + 10)) := rfl
@[simp] theorem FA95_4 (cs : List AV) : fieldAddrA T 95 (.ip cs) 4 = some (.ip (cs.drop 11)) := rfl
@[simp] theorem FH95_4 (l k : Nat) : fieldAddrA T 95 (.hp l k) 4 = some (.hp l (k + 11)) := rfl
@[simp] theorem FA95_5 (cs : List AV) : fieldAddrA T 95 (.ip cs) 5 = some (.ip (cs.drop 12)) := rfl
@[simp] theorem FH95_5 (l k : Nat) : fieldAddrA T 95 (.hp l k) 5 = some (.hp l (k + 12)) := rfl
@[simp] theorem FA98_0 (cs : List AV) : fieldAddrA T 98 (.ip cs) 0 = some (.ip (cs.drop 0)) := rfl
@[simp] theorem FH98_0 (l k : Nat) : fieldAddrA T 98 (.hp l k) 0 = some (.hp l (k + 0)) := rfl
@[simp] theorem FA98_1 (cs : List AV) : fieldAddrA T 98 (.ip cs) 1 = some (.ip (cs.drop 1)) := rfl
@[simp] theorem FH98_1 (l k : Nat) : fieldAddrA T 98 (.hp l k) 1 = some (.hp l (k + 1)) := rfl
@[simp] theorem FA98_2 (cs : List AV) : fieldAddrA T 98 (.ip cs) 2 = some (.ip (cs.drop 2)) := rfl
@[simp] theorem FH98_2 (l k : Nat) : fieldAddrA T 98 (.hp l k) 2 = some (.hp l (k + 2)) := rfl
@[simp] theorem FA101_0 (cs : List AV) : fieldAddrA T 101 (.ip cs) 0 = some (.ip (cs.drop 0)) := rfl
@[simp] theorem FH101_0 (l k : Nat) : fieldAddrA T 101 (.hp l k) 0 = some (.hp l (k + 0)) := rfl
@[simp] theorem FA101_1 (cs : List AV) : fieldAddrA T 101 (.ip cs) 1 = some (.ip (cs.drop 1)) := rfl
@[simp] theorem FH101_1 (l k : Nat) : fieldAddrA T 101 (.hp l k) 1 = some (.hp l (k + 1)) := rfl
@[simp] theorem FA101_2 (cs : List AV) : fieldAddrA T 101 (.ip cs) 2 = some (.ip (cs.drop 2)) := rfl
@[simp] theorem FH101_2 (l k : Nat) : fieldAddrA T 101 (.hp l k) 2 = some (.hp l (k + 2)) := rfl
@[simp] theorem FA104_0 (cs : List AV) : fieldAddrA T 104 (.ip cs) 0 = some (.ip (cs.drop 0)) := rfl
@[simp] theorem FH104_0 (l k : Nat) : fieldAddrA T 104 (.hp l k) 0 = some (.hp l (k + 0)) := rfl
@[simp] theorem FA104_1 (cs : List AV) : fieldAddrA T 104 (.ip cs) 1 = some (.ip (cs.drop 1)) := rfl
@[simp] theorem FH104_1 (l k : Nat) : fieldAddrA T 104 (.hp l k) 1 = some (.hp l (k + 1)) := rfl
@[simp] theorem LD3 (x : AV) (l : List AV) : loadA T 3 (.ip (x :: l)) = some x := rfl
@[simp] theorem LD4 (x : AV) (l : List AV) : loadA T 4 (.ip (x :: l)) = some x := rfl
@[simp] theorem LD9 (x : AV) (l : List AV) : loadA T 9 (.ip (x :: l)) = some x := rfl
@[simp] theorem LD22 (x : AV) (l : List AV) : loadA T 22 (.ip (x :: l)) = some x := rfl
@[simp] theorem LD23 (x : AV) (l : List AV) : loadA T 23 (.ip (x :: l)) = some x := rfl
@[simp] theorem LD24 (x : AV) (l : List AV) : loadA T 24 (.ip (x :: l)) = some x := rfl
@[simp] theorem LD25 (x : AV) (l : List AV) : loadA T 25 (.ip (x :: l)) = some x := rfl
@[simp] theorem LD26 (x : AV) (l : List AV) : loadA T 26 (.ip (x :: l)) = some x := rfl
@[simp] theorem LD28 (cs : List AV) : loadA T 28 (.ip cs) = if 6 ≤ cs.length then some (.agg (cs.take 6)) else none := rfl
@[simp] theorem LD32 (x : AV) (l : List AV) : loadA T 32 (.ip (x :: l)) = some x := rfl
@[simp] theorem LD33 (x : AV) (l : List AV) : loadA T 33 (.ip (x :: l)) = some x := rfl
@[simp] theorem LD39 (cs : List AV) : loadA T 39 (.ip cs) = if 4 ≤ cs.length then some (.agg (cs.take 4)) else none := rfl
@[simp] theorem LD40 (x : AV) (l : List AV) : loadA T 40 (.ip (x :: l)) = some x := rfl
@[simp] theorem LD41 (x : AV) (l : List AV) : loadA T 41 (.ip (x :: l)) = some x := rfl
@[simp] theorem LD43 (cs : List AV) : loadA T 43 (.ip cs) = if 8 ≤ cs.length then some (.agg (cs.take 8)) else none := rfl
@[simp] theorem LD47 (cs : List AV) : loadA T 47 (.ip cs) = if 2 ≤ cs.length then some (.agg (cs.take 2)) else none := rfl
@[simp] theorem LD55 (cs : List AV) : loadA T 55 (.ip cs) = if 3 ≤ cs.length then some (.agg (cs.take 3)) else none := rfl
@[simp] theorem LD58 (x : AV) (l : List AV) : loadA T 58 (.ip (x :: l)) = some x := rfl
@[simp] theorem LD59 (x : AV) (l : List AV) : loadA T 59 (.ip (x :: l)) = some x := rfl
@[simp] theorem LD63 (cs : List AV) : loadA T 63 (.ip cs) = if 9 ≤ cs.length then some (.agg (cs.take 9)) else none := rfl
@[simp] theorem LD65 (cs : List AV) : loadA T 65 (.ip cs) = if 2 ≤ cs.length then some (.agg (cs.take 2)) else none := rfl
@[simp] theorem LD67 (cs : List AV) : loadA T 67 (.ip cs) = if 12 ≤ cs.length then some (.agg (cs.take 12)) else none := rfl
@[simp] theorem LD79 (x : AV) (l : List AV) : loadA T 79 (.ip (x :: l)) = some x := rfl
@[simp] theorem LD98 (cs : List AV) : loadA T 98 (.ip cs) = if 3 ≤ cs.length then some (.agg (cs.take 3)) else none := rfl
@[simp] theorem LD101 (cs : List AV) : loadA T 101 (.ip cs) = if 3 ≤ cs.length then some (.agg (cs.take 3)) else none := rfl
@[simp] theorem LD104 (cs : List AV) : loadA T 104 (.ip cs) = if 3 ≤ cs.length then some (.agg (cs.take 3)) else none := rfl
@[simp] theorem LEN22 (es : List AV) : lenA T 22 (.sl es) = some (.int .i64 es.length) := rfl
@[simp] theorem LENN22 : lenA T 22 .hn = some (.int .i64 0) := rfl
@[simp] theorem LENH22 (l k n s : Nat) (a : Bool) : lenA T 22 (.hs l k n s a) = some (.int .i64 n) := rfl
@[simp] theorem LENE22 (l : List Mod) : lenA T 22 (mods l) = some (.int .i64 l.length) := (LEN22 _).trans (by simp)
@[simp] theorem LEN23 (es : List AV) : lenA T 23 (.sl es) = some (.int .i64 es.length) := rfl
@[simp] theorem LENN23 : lenA T 23 .hn = some (.int .i64 0) := rfl
@[simp] theorem LENH23 (l k n s : Nat) (a : Bool) : lenA T 23 (.hs l k n s a) = some (.int .i64 n) := rfl
@[simp] theorem LENE23 (l : List Val) : lenA T 23 (vals l) = some (.int .i64 l.length) := (LEN23 _).trans (by simp [valsAv_map])
@[simp] theorem LEN24 (es : List AV) : lenA T 24 (.sl es) = some (.int .i64 es.length) := rfl
@[simp] theorem LENN24 : lenA T 24 .hn = some (.int .i64 0) := rfl
@[simp] theorem LENH24 (l k n s : Nat) (a : Bool) : lenA T 24 (.hs l k n s a) = some (.int .i64 n) := rfl
@[simp] theorem LENE24 (l : List Int) : lenA T 24 (ints l) = some (.int .i64 l.length) := (LEN24 _).trans (by simp)
@[simp] theorem LEN25 (es : List AV) : lenA T 25 (.sl es) = some (.int .i64 es.length) := rfl
@[simp] theorem LENN25 : lenA T 25 .hn = some (.int .i64 0) := rfl
@[simp] theorem LENH25 (l k n s : Nat) (a : Bool) : lenA T 25 (.hs l k n s a) = some (.int .i64 n) := rfl
@[simp] theorem LENE25 (l : List Str) : lenA T 25 (strs l) = some (.int .i64 l.length) := (LEN25 _).trans (by simp)
@[simp] theorem LEN26 (es : List AV) : lenA T 26 (.sl es) = some (.int .i64 es.length) := rfl
@[simp] theorem LENN26 : lenA T 26 .hn = some (.int .i64 0) := rfl
@[simp] theorem LENH26 (l k n s : Nat) (a : Bool) : lenA T 26 (.hs l k n s a) = some (.int .i64 n) := rfl
@[simp] theorem LENE26 (l : List Exp) : lenA T 26 (exps l) = some (.int .i64 l.length) := (LEN26 _).trans (by simp [expsAv_map])
@[simp] theorem LEN32 (es : List AV) : lenA T 32 (.sl es) = some (.int .i64 es.length) := rfl
@[simp] theorem LENN32 : lenA T 32 .hn = some (.int .i64 0) := rfl
@[simp] theorem LENH32 (l k n s : Nat) (a : Bool) : lenA T 32 (.hs l k n s a) = some (.int .i64 n) := rfl
@[simp] theorem LENE32 (l : List Vars) : lenA T 32 (varss l) = some (.int .i64 l.length) := (LEN32 _).trans (by simp)
@[simp] theorem LEN40 (es : List AV) : lenA T 40 (.sl es) = some (.int .i64 es.length) := rfl
@[simp] theorem LENN40 : lenA T 40 .hn = some (.int .i64 0) := rfl
@[simp] theorem LENH40 (l k n s : Nat) (a : Bool) : lenA T 40 (.hs l k n s a) = some (.int .i64 n) := rfl
@[simp] theorem LENE40 (l : List Deed) : lenA T 40 (deeds l) = some (.int .i64 l.length) := (LEN40 _).trans (by simp)
@[simp] theorem LEN41 (es : List AV) : lenA T 41 (.sl es) = some (.int .i64 es.length) := rfl
@[simp] theorem LENN41 : lenA T 41 .hn = some (.int .i64 0) := rfl
@[simp] theorem LENH41 (l k n s : Nat) (a : Bool) : lenA T 41 (.hs l k n s a) = some (.int .i64 n) := rfl
@[simp] theorem LENE41 (l : List Ap.Call) : lenA T 41 (Ap.calls l) = some (.int .i64 l.length) := (LEN41 _).trans (by simp)
@[simp] theorem LEN58 (es : List AV) : lenA T 58 (.sl es) = some (.int .i64 es.length) := rfl
@[simp] theorem LENN58 : lenA T 58 .hn = some (.int .i64 0) := rfl
@[simp] theorem LENH58 (l k n s : Nat) (a : Bool) : lenA T 58 (.hs l k n s a) = some (.int .i64 n) := rfl
@[simp] theorem LENE58 (l : List Fld) : lenA T 58 (flds l) = some (.int .i64 l.length) := (LEN58 _).trans (by simp [fldsAv_map])
@[simp] theorem LEN59 (es : List AV) : lenA T 59 (.sl es) = some (.int .i64 es.length) := rfl
@[simp] theorem LENN59 : lenA T 59 .hn = some (.int .i64 0) := rfl
@[simp] theorem LENH59 (l k n s : Nat) (a : Bool) : lenA T 59 (.hs l k n s a) = some (.int .i64 n) := rfl
@[simp] theorem LENE59 (l : List Fun) : lenA T 59 (funs l) = some (.int .i64 l.length) := (LEN59 _).trans (by simp)
theorem IX22 {l : List Mod} {n : Int} (h0 : 0 ≤ n) (h : n < (l.length : Int)) : indexAddrA T 22 (mods l) (.int .i64 n) = some (.ip (acells (Mod.av l[n.toNat]!))) := indexAddrA_int (T := T) (t := 22) (e := 63) rfl rfl rfl (fun _ => by first | rfl | (simp; done) | (simp; rfl)) h0 h
theorem IX23 {l : List Val} {n : Int} (h0 : 0 ≤ n) (h : n < (l.length : Int)) : indexAddrA T 23 (vals l) (.int .i64 n) = some (.ip (acells (Val.av l[n.toNat]!))) := by rw [vals, valsAv_map]; exact indexAddrA_int (T := T) (t := 23) (e := 39) rfl rfl rfl (fun _ => by first | rfl | (simp; done) | (simp; rfl)) h0 h
theorem IX24 {l : List Int} {n : Int} (h0 : 0 ≤ n) (h : n < (l.length : Int)) : indexAddrA T 24 (ints l) (.int .i64 n) = some (.ip (acells (AV.int .i64 l[n.toNat]!))) := indexAddrA_int (T := T) (t := 24) (e := 3) rfl rfl rfl (fun _ => by first | rfl | (simp; done) | (simp; rfl)) h0 h
theorem IX25 {l : List Str} {n : Int} (h0 : 0 ≤ n) (h : n < (l.length : Int)) : indexAddrA T 25 (strs l) (.int .i64 n) = some (.ip (acells (AV.str l[n.toNat]!))) := indexAddrA_int (T := T) (t := 25) (e := 9) rfl rfl rfl (fun _ => by first | rfl | (simp; done) | (simp; rfl)) h0 h
theorem IX26 {l : List Exp} {n : Int} (h0 : 0 ≤ n) (h : n < (l.length : Int)) : indexAddrA T 26 (exps l) (.int .i64 n) = some (.ip (acells (Exp.av l[n.toNat]!))) := by rw [exps, expsAv_map]; exact indexAddrA_int (T := T) (t := 26) (e := 28) rfl rfl rfl (fun _ => by first | rfl | (simp; done) | (simp; rfl)) h0 h
theorem IX32 {l : List Vars} {n : Int} (h0 : 0 ≤ n) (h : n < (l.length : Int)) : indexAddrA T 32 (varss l) (.int .i64 n) = some (.ip (acells (Vars.av l[n.toNat]!))) := indexAddrA_int (T := T) (t := 32) (e := 47) rfl rfl rfl (fun _ => by first | rfl | (simp; done) | (simp; rfl)) h0 h
theorem IX40 {l : List Deed} {n : Int} (h0 : 0 ≤ n) (h : n < (l.length : Int)) : indexAddrA T 40 (deeds l) (.int .i64 n) = some (.ip (acells (Deed.av l[n.toNat]!))) := indexAddrA_int (T := T) (t := 40) (e := 55) rfl rfl rfl (fun _ => by first | rfl | (simp; done) | (simp; rfl)) h0 h
theorem IX41 {l : List Ap.Call} {n : Int} (h0 : 0 ≤ n) (h : n < (l.length : Int)) : indexAddrA T 41 (Ap.calls l) (.int .i64 n) = some (.ip (acells (Ap.Call.av l[n.toNat]!))) := indexAddrA_int (T := T) (t := 41) (e := 69) rfl rfl rfl (fun _ => by first | rfl | (simp; done) | (simp; rfl)) h0 h
theorem IX58 {l : List Fld} {n : Int} (h0 : 0 ≤ n) (h : n < (l.length : Int)) : indexAddrA T 58 (flds l) (.int .i64 n) = some (.ip (acells (fldAv l[n.toNat]!))) := by rw [flds, fldsAv_map]; exact indexAddrA_int (T := T) (t := 58) (e := 104) rfl rfl rfl (fun _ => by first | rfl | (simp; done) | (simp; rfl)) h0 h
theorem IX59 {l : List Fun} {n : Int} (h0 : 0 ≤ n) (h : n < (l.length : Int)) : indexAddrA T 59 (funs l) (.int .i64 n) = some (.ip (acells (Fun.av l[n.toNat]!))) := indexAddrA_int (T := T) (t := 59) (e := 67) rfl rfl rfl (fun _ => by first | rfl | (simp; done) | (simp; rfl)) h0 h
theorem AP23 {a b : List Val} (h : (a.length + b.length) * 64 ≤ 140737488355328) : appA T 23 (vals a) (vals b) = some (vals (a ++ b)) := by
 have := appA_map (T := T) (t := 23) (e := 39) rfl rfl rfl (f := Val.av) (fun _ => by first | rfl | (simp; done) | (simp; rfl)) (a := a) (b := b) h (by decide)
 simpa [vals, valsAv_map] using this
theorem AP25 {a b : List Str} (h : (a.length + b.length) * 16 ≤ 140737488355328) : appA T 25 (strs a) (strs b) = some (strs (a ++ b)) := by
 have := appA_map (T := T) (t := 25) (e := 9) rfl rfl rfl (f := AV.str) (fun _ => by first | rfl | (simp; done) | (simp; rfl)) (a := a) (b := b) h (by decide)
 simpa [strs] using this
theorem AP26 {a b : List Exp} (h : (a.length + b.length) * 96 ≤ 140737488355328) : appA T 26 (exps a) (exps b) = some (exps (a ++ b)) := by
 have := appA_map (T := T) (t := 26) (e := 28) rfl rfl rfl (f := Exp.av) (fun _ => by first | rfl | (simp; done) | (simp; rfl)) (a := a) (b := b) h (by decide)
 simpa [exps, expsAv_map] using this
theorem AP32 {a b : List Vars} (h : (a.length + b.length) * 40 ≤ 140737488355328) : appA T 32 (varss a) (varss b) = some (varss (a ++ b)) := by
 have := appA_map (T := T) (t := 32) (e := 47) rfl rfl rfl (f := Vars.av) (fun _ => by first | rfl | (simp; done) | (simp; rfl)) (a := a) (b := b) h (by decide)
 simpa [varss] using this
end Go.Proofs.Ytgbopmciiadmlaa

namespace Go.Proofs.Ytgbopmciiadmlaa
open Go Go.Av Go.Av.Ap
theorem asc_step (l : List Str) (i k : Nat) (hk : k = i + 1) (h : k < l.length) : asc (l.drop i) = (strLess (l[i]'(by omega)) l[k] && asc (l.drop k)) := by
 subst hk
 have e1 : l.drop i = l[i] :: l.drop (i + 1) := List.drop_eq_getElem_cons (by omega)
 have e2 : l.drop (i + 1) = l[i + 1] :: l.drop (i + 2) := List.drop_eq_getElem_cons h
 rw [e1, e2]
 rfl
theorem loop89 (call) (l : List Str) (hb : l.length ≤ 4611686018427387904) : ∀ (n : Nat) (i : Int), l.length - i.toNat = n → 1 ≤ i → fixW (L89_0 call fixW) [strs l, .int .i64 i] = M.pure (.bool (asc (l.drop (i.toNat - 1)))) := by
 intro n
 induction n with
 | zero =>
  intro i hn hi
  rw [FL89_0]
  simp only [L89_0]
  have h1 : ¬ (i < (l.length : Int)) := by omega
  have h2 : asc (l.drop (i.toNat - 1)) = true := by
   have : (l.drop (i.toNat - 1)).length ≤ 1 := by simp; omega
   match hq : l.drop (i.toNat - 1), this with
   | [], _ => rfl
   | [x], _ => rfl
   | x :: y :: r, h => simp at h
  simp [h1, h2]
 | succ n ih =>
  intro i hn hi
  have h1 : i < (l.length : Int) := by omega
  rw [FL89_0]
  simp only [L89_0]
  simp (disch := omega) [h1, wrap_in, IX25]
  rw [ih (i + 1) (by omega) (by omega), asc_step l (i.toNat - 1) i.toNat (by omega) (by omega), show (i + 1).toNat - 1 = i.toNat by omega]
  cases strLess l[i.toNat - 1] l[i.toNat] <;> simp
theorem t89 (l : List Str) (hb : l.length ≤ 4611686018427387904) : callW pg 89 [strs l] = M.pure (.bool (asc l)) := by
 rw [C89]
 simp [S89, loop89 (callW pg) l hb (l.length - 1) 1 rfl (by omega)]
theorem loop67 (f : AV) (F : Val → Bool) (l : List Val) (hb : l.length ≤ 4611686018427387904) (hf : ∀ x ∈ l, callV (callW pg) f [Val.av x] = M.pure (.bool (F x))) : ∀ (n : Nat) (i : Int), l.length - i.toNat = n → 0 ≤ i → i ≤ l.length →
  fixW (L67_0 (callW pg) fixW) [vals l, f, .int .i64 l.length, .int .i64 i] = M.pure (.int .i64 (idxAt F (l.drop i.toNat) i)) := by
 intro n
 induction n with
 | zero =>
  intro i hn hi hl
  rw [FL67_0]
  simp only [L67_0]
  have h1 : ¬ (i < (l.length : Int)) := by omega
  have h2 : l.drop i.toNat = [] := List.drop_eq_nil_of_le (by omega)
  simp [h1, h2, idxAt]
 | succ n ih =>
  intro i hn hi hl
  have h1 : i < (l.length : Int) := by omega
  have hlt : i.toNat < l.length := by omega
  have h2 : idxAt F (l.drop i.toNat) i = if F l[i.toNat] = true then i else idxAt F (l.drop (i.toNat + 1)) (i + 1) := by rw [List.drop_eq_getElem_cons hlt]; rfl
  have h3 := hf l[i.toNat] (List.getElem_mem hlt)
  have h4 := ih (i + 1) (by omega) (by omega) (by omega)
  rw [show (i + 1).toNat = i.toNat + 1 by omega] at h4
  rw [FL67_0]
  simp only [L67_0]
  simp (disch := omega) [h1, wrap_in, IX23, h3, h2]
  cases F l[i.toNat]
  ·simpa using h4
  ·simp
theorem t67 (f : AV) (F : Val → Bool) (l : List Val) (hb : l.length ≤ 4611686018427387904) (hc : ∀ g, cl g f = f) (hf : ∀ x ∈ l, callV (callW pg) f [Val.av x] = M.pure (.bool (F x))) : callW pg 67 [vals l, f] = M.pure (.int .i64 (idxAt F l 0)) := by
 rw [C67]
 simp [S67, hc, loop67 f F l hb hf l.length 0 rfl (by omega) (by omega)]
theorem t37 (f : AV) (F : Val → Bool) (l : List Val) (hb : l.length ≤ 4611686018427387904) (hc : ∀ g, cl g f = f) (hf : ∀ x ∈ l, callV (callW pg) f [Val.av x] = M.pure (.bool (F x))) : callW pg 37 [vals l, f] = M.pure (.bool (l.any F)) := by
 rw [C37]
 simp [S37, hc, t67 f F l hb hc hf, idxAt_any]
theorem drop_beq {α : Type} [BEq α] (a b : List α) (i : Nat) (h1 : i < a.length) (h2 : i < b.length) : (a.drop i == b.drop i) = (a[i] == b[i] && a.drop (i + 1) == b.drop (i + 1)) := by
 rw [List.drop_eq_getElem_cons h1, List.drop_eq_getElem_cons h2]
 rfl
theorem loop92 (a b : List Str) (hb : a.length ≤ 4611686018427387904) (hab : a.length = b.length) : ∀ (n : Nat) (i : Int), a.length - i.toNat = n → 0 ≤ i → i ≤ a.length →
  fixW (L92_0 (callW pg) fixW) [strs a, strs b, .int .i64 a.length, .int .i64 i] = M.pure (.bool (a.drop i.toNat == b.drop i.toNat)) := by
 intro n
 induction n with
 | zero =>
  intro i hn hi hl
  rw [FL92_0]
  simp only [L92_0]
  have h1 : ¬ (i < (a.length : Int)) := by omega
  have h2 : a.drop i.toNat = [] := List.drop_eq_nil_of_le (by omega)
  have h3 : b.drop i.toNat = [] := List.drop_eq_nil_of_le (by omega)
  simp [h1, h2, h3]
 | succ n ih =>
  intro i hn hi hl
  have h1 : i < (a.length : Int) := by omega
  have h1' : i < (b.length : Int) := by omega
  have hlt : i.toNat < a.length := by omega
  have h4 := ih (i + 1) (by omega) (by omega) (by omega)
  rw [show (i + 1).toNat = i.toNat + 1 by omega] at h4
  rw [FL92_0, drop_beq a b i.toNat hlt (by omega)]
  simp only [L92_0]
  simp (disch := omega) [h1, wrap_in, IX25, h4]
  by_cases h : a[i.toNat] = b[i.toNat]
  ·simp [h]
  ·have h' : (a[i.toNat] == b[i.toNat]) = false := beq_eq_false_iff_ne.2 h
   simp [h, h']
theorem t92 (a b : List Str) (hb : a.length ≤ 4611686018427387904) : callW pg 92 [strs a, strs b] = M.pure (.bool (a == b)) := by
 rw [C92]
 by_cases h : a.length = b.length
 ·have := loop92 a b hb h a.length 0 rfl (by omega) (by omega)
  simp [S92, h] at this ⊢
  simp [this]
 ·have h2 : (a == b) = false := by
   rw [beq_eq_false_iff_ne]
   intro hh; exact h (by rw [hh])
  have h3 : ((a.length : Int) != (b.length : Int)) = true := by simp; omega
  simp [S92, h3, h2]
theorem t52 : ∀ (d : Nat), d ≤ 4 → ∀ (v : Val), v.sz ≤ 4611686018427387904 → callW pg 52 [v.av, .int .i64 d] = M.pure (.bool (fitsP d v))
 | 0, _, v, _ => by
  rw [C52]
  simp [S52, fitsP]
 | d + 1, hd, v, hv => by
  have ih := t52 d (by omega)
  have h1 := t89 v.names (Nat.le_trans v.sz_names hv)
  have hf : ∀ x ∈ v.values, callV (callW pg) (.fn (.func 90) [] [.ip [.int .i64 ((d : Int) + 1)]]) [x.av] = M.pure (.bool !(fitsP d x)) := by
   intro x hx
   have hsz := Val.sz_mem hx
   have := ih x (by omega)
   show callW pg 90 [x.av, .ip [.int .i64 ((d : Int) + 1)]] = _
   rw [C90]
   simp (disch := omega) [S90, cl, cls, wrap_in, this, show (d : Int) + 1 - 1 = d by omega]
  have h2 := t37 (.fn (.func 90) [] [.ip [.int .i64 ((d : Int) + 1)]]) (fun x => !(fitsP d x)) v.values (by have := v.sz_len; omega) (fun g => rfl) hf
  have h0 : ¬ ((d : Int) + 1 = 0) := by omega
  rw [C52]
  simp [S52, fitsP, h0, h1, h2]
  have hall : (!v.values.any fun x => !fitsP d x) = v.values.all (fitsP d) := by simp [List.not_any_eq_all_not]
  rw [hall]
  split
  ·rfl
  ·congr 2
   rw [show (v.kind == 2) = decide (v.kind = 2) from rfl, show (v.n == 0) = decide (v.n = 0) from rfl, show (v.names.length == v.values.length) = decide (v.names.length = v.values.length) by rw [Bool.eq_iff_iff]; simp,
    show (!decide ((8 : Int) < (v.names.length : Int))) = decide (v.names.length ≤ 8) by rw [Bool.eq_iff_iff]; simp; omega]
theorem loop93 (f : AV) (F : Val → Val → Bool) (a : List Val) (b : List Val) (hb : a.length ≤ 4611686018427387904) (hab : a.length = b.length) (hf : ∀ x ∈ a, ∀ y ∈ b, callV (callW pg) f [Val.av x, Val.av y] = M.pure (.bool (F x y))) : ∀ (n : Nat) (i : Int), a.length - i.toNat = n → 0 ≤ i → i ≤ a.length →
  fixW (L93_0 (callW pg) fixW) [vals b, f, vals a, .int .i64 a.length, .int .i64 i] = M.pure (.bool (all2 F (a.drop i.toNat) (b.drop i.toNat))) := by
 intro n
 induction n with
 | zero =>
  intro i hn hi hl
  rw [FL93_0]
  simp only [L93_0]
  have h1 : ¬ (i < (a.length : Int)) := by omega
  have h2 : a.drop i.toNat = [] := List.drop_eq_nil_of_le (by omega)
  have h3 : b.drop i.toNat = [] := List.drop_eq_nil_of_le (by omega)
  simp [h1, h2, h3, all2]
 | succ n ih =>
  intro i hn hi hl
  have h1 : i < (a.length : Int) := by omega
  have h1' : i < (b.length : Int) := by omega
  have hlt : i.toNat < a.length := by omega
  have hlt' : i.toNat < b.length := by omega
  have h3 := hf a[i.toNat] (List.getElem_mem hlt) b[i.toNat] (List.getElem_mem hlt')
  have h4 := ih (i + 1) (by omega) (by omega) (by omega)
  rw [show (i + 1).toNat = i.toNat + 1 by omega] at h4
  rw [FL93_0, all2_drop F a b i.toNat hlt hlt']
  simp only [L93_0]
  simp (disch := omega) [h1, wrap_in, IX23, IX23, h4]
  rw [h3]
  cases F a[i.toNat] b[i.toNat] <;> simp
theorem t93 (f : AV) (F : Val → Val → Bool) (a : List Val) (b : List Val) (hb : a.length ≤ 4611686018427387904) (hc : ∀ g, cl g f = f) (hf : ∀ x ∈ a, ∀ y ∈ b, callV (callW pg) f [Val.av x, Val.av y] = M.pure (.bool (F x y))) : callW pg 93 [vals a, vals b, f] = M.pure (.bool (all2 F a b)) := by
 rw [C93]
 by_cases h : a.length = b.length
 ·have := loop93 f F a b hb h hf a.length 0 rfl (by omega) (by omega)
  simp [S93, h, hc] at this ⊢
  simp [this]
 ·have h3 : (a.length != b.length) = true := by simp [h]
  simp [S93, h3, all2_length F a b h]
mutual
def sameP : Val → Val → Bool
 | .mk k n ns vs, .mk k' n' ns' vs' => k == k' && n == n' && ns == ns' && samesP vs vs'
def samesP : List Val → List Val → Bool
 | [], [] => true
 | v :: vs, w :: ws => sameP v w && samesP vs ws
 | _, _ => false
end
theorem samesP_all2 : (a b : List Val) → samesP a b = all2 sameP a b
 | [], [] => rfl
 | [], _ :: _ => rfl
 | _ :: _, [] => rfl
 | v :: a, w :: b => by simp only [samesP, all2, samesP_all2 a b]
theorem sameP_eq (v w : Val) : sameP v w = (v.kind == w.kind && v.n == w.n && v.names == w.names && all2 sameP v.values w.values) := by
 cases v; cases w; simp only [sameP, samesP_all2, Val.kind, Val.n, Val.names, Val.values]
theorem t54 : ∀ (n : Nat) (v w : Val), v.sz ≤ n → v.sz ≤ 4611686018427387904 → callW pg 54 [v.av, w.av] = M.pure (.bool (sameP v w)) := by
 intro n
 induction n with
 | zero => intro v w h; have := v.sz_pos; omega
 | succ n ih =>
  intro v w hn hv
  have h1 := t92 v.names w.names (Nat.le_trans v.sz_names hv)
  have h2 := t93 (.fn (.func 54) [] []) sameP v.values w.values (by have := v.sz_len; omega) (fun g => rfl) (fun x hx y _ => by
   have := Val.sz_mem hx
   exact ih x y (by omega) (by omega))
  rw [C54, sameP_eq]
  simp [S54, h1, h2]
theorem t21 (v : Val) (hv : v.sz ≤ 4611686018427387904) : callW pg 21 [v.av] = M.pure (.bool (fitsP 4 v)) := by
 rw [C21]
 have := t52 4 (by omega) v hv
 simp at this
 simp [S21, this]
theorem t23 (v w : Val) (hv : v.sz ≤ 4611686018427387904) (hw : w.sz ≤ 4611686018427387904) : callW pg 23 [v.av, w.av] = M.pure (.bool (fitsP 4 v && fitsP 4 w && sameP v w)) := by
 rw [C23]
 simp [S23, t21 v hv, t21 w hw, t54 v.sz v w (Nat.le_refl _) hv]
end Go.Proofs.Ytgbopmciiadmlaa

namespace Go.Proofs.Ytgbopmciiadmlaa
open Go Go.Av Go.Av.Ap
theorem t91 (l : List Str) (hb : l.length ≤ 4611686018427387904) : callW pg 91 [strs l] = M.pure (.bool (asc l)) := by
 have h : fixW (L91_0 (callW pg) fixW) = fixW (L89_0 (callW pg) fixW) := rfl
 rw [C91]
 simp [S91, h, loop89 (callW pg) l hb (l.length - 1) 1 rfl (by omega)]
def fitsR : Nat → Val → Bool
 | 0, _ => false
 | d + 1, v => if (v.kind < 0 ∨ 3 ≤ v.kind) ∨ ¬v.names.length = v.values.length then false
  else if v.kind = 0 then v.names.length == 0
  else if v.kind = 1 then v.names.length == 0 && decide (0 ≤ v.n) && decide (v.n ≤ 1)
  else if (¬v.n = 0 ∨ 8 < v.names.length) ∨ asc v.names = false then false
  else v.values.all (fitsR d)
theorem t53 : ∀ (d : Nat), d ≤ 4 → ∀ (v : Val), v.sz ≤ 4611686018427387904 → callW pg 53 [v.av, .int .i64 d] = M.pure (.bool (fitsR d v))
 | 0, _, v, _ => by
  rw [C53]
  simp [S53, fitsR]
 | d + 1, hd, v, hv => by
  have ih := t53 d (by omega)
  have h1 := t91 v.names (Nat.le_trans v.sz_names hv)
  have hlen := v.sz_len
  have hloop := fix_all (FL53_0 (callW pg)) (fun k => [.int .i64 ((d : Int) + 1), .ip (acells v.av), .int .i64 (k : Int)]) v.values.length (fun k => fitsR d v.values[k]!)
   (by simp [L53_0]) (fun k hk => by
    have hx := ih v.values[k] (by have := Val.sz_mem (List.getElem_mem hk); omega)
    have hk' : (k : Int) < (v.values.length : Int) := by omega
    simp only [L53_0]
    simp (disch := omega) [hk', wrap_in, IX23, hx, show (d : Int) + 1 - 1 = d by omega]
    cases fitsR d v.values[k] <;> simp) 0 (Nat.zero_le _)
  simp only [Nat.sub_zero, all_range'] at hloop
  have h0 : ¬ ((d : Int) + 1 < 1) := by omega
  have h8 : ((8 : Int) < (v.names.length : Int)) = (8 < v.names.length) := by rw [eq_iff_iff]; omega
  simp at hloop
  rw [C53]
  simp [S53, fitsR, h0, h1, hloop, h8]
theorem t22 (v : Val) (hv : v.sz ≤ 4611686018427387904) : callW pg 22 [v.av] = M.pure (.bool (fitsR 4 v)) := by
 rw [C22]
 have := t53 4 (by omega) v hv
 simp at this
 simp [S22, this]
theorem t46 (l : List Val) (hl : valsSz l ≤ 4611686018427387904) : callW pg 46 [vals l] = M.pure (.bool (l.all (fitsR 4))) := by
 have hlen := valsSz_len l
 have hloop := fix_all (FL46_0 (callW pg)) (fun k => [vals l, .int .i64 (k : Int)]) l.length (fun k => fitsR 4 l[k]!)
  (by simp [L46_0]) (fun k hk => by
   have hx := t22 l[k] (by have := valsSz_mem (List.getElem_mem hk); omega)
   have hk' : (k : Int) < (l.length : Int) := by omega
   simp only [L46_0]
   simp (disch := omega) [hk', wrap_in, IX23, hx]
   cases fitsR 4 l[k] <;> simp) 0 (Nat.zero_le _)
 simp only [Nat.sub_zero, all_range'] at hloop
 simp at hloop
 rw [C46]
 simp [S46, hloop]
def evenV : Nat → Val → Bool
 | 0, _ => true
 | n + 1, v => v.names.length == v.values.length && v.values.all (evenV n)
theorem t55 : ∀ (n : Nat) (v w : Val), v.sz ≤ n → v.sz ≤ 4611686018427387904 → evenV n v = true → evenV n w = true → callW pg 55 [v.av, w.av] = M.pure (.bool (sameP v w)) := by
 intro n
 induction n with
 | zero => intro v w h; have := v.sz_pos; omega
 | succ n ih =>
  intro v w hn hv ev ew
  simp only [evenV, Bool.and_eq_true, beq_iff_eq, List.all_eq_true] at ev ew
  have hlen := v.sz_len
  rw [C55, sameP_eq]
  by_cases hl : v.names.length = w.names.length
  ·have hvw : v.values.length = w.values.length := by omega
   have hloop := fix_all (FL55_0 (callW pg)) (fun k => [.ip (acells v.av), .ip (acells w.av), .int .i64 (k : Int)]) v.names.length (fun k => v.names[k]! == w.names[k]! && sameP v.values[k]! w.values[k]!)
    (by simp [L55_0]) (fun k hk => by
     have a1 : k < v.values.length := by omega
     have a2 : k < w.values.length := by omega
     have a3 : k < w.names.length := by omega
     have hx := ih v.values[k] w.values[k] (by have := Val.sz_mem (List.getElem_mem a1); omega) (by have := Val.sz_mem (List.getElem_mem a1); omega) (ev.2 _ (List.getElem_mem a1)) (ew.2 _ (List.getElem_mem a2))
     simp only [L55_0]
     simp (disch := omega) [hk, wrap_in, IX23, IX25, hx]
     cases v.names[k] == w.names[k] <;> cases sameP v.values[k] w.values[k] <;> simp) 0 (Nat.zero_le _)
   have hall : (List.range' 0 v.names.length).all (fun k => v.names[k]! == w.names[k]! && sameP v.values[k]! w.values[k]!) = (v.names == w.names && all2 sameP v.values w.values) := by
    rw [show (v.names == w.names) = all2 (fun a b => a == b) v.names w.names from ?_]
    ·rw [← all_range2 _ v.names w.names hl, ← all_range2 _ v.values w.values hvw, ← ev.1]
     rw [Bool.eq_iff_iff]
     simp only [List.all_eq_true, Bool.and_eq_true]
     exact ⟨fun h => ⟨fun k hk => (h k hk).1, fun k hk => (h k hk).2⟩, fun h k hk => ⟨h.1 k hk, h.2 k hk⟩⟩
    ·exact all2_beq _ _
   simp only [Nat.sub_zero, hall] at hloop
   simp at hloop
   simp [S55, hl, hloop]
   congr 2
   rw [show (v.kind == w.kind) = decide (v.kind = w.kind) from rfl, show (v.n == w.n) = decide (v.n = w.n) from rfl]
   simp [Bool.and_assoc]
  ·have hne : (v.names == w.names) = false := by
    rw [beq_eq_false_iff_ne]; intro h; exact hl (by rw [h])
   simp [S55, hl, hne]
theorem fitsR_even : ∀ (d : Nat) (v : Val), fitsR d v = true → ∀ n, evenV n v = true
 | 0, v, h, n => by simp [fitsR] at h
 | d + 1, v, h, 0 => rfl
 | d + 1, v, h, n + 1 => by
  simp only [evenV, Bool.and_eq_true, beq_iff_eq, List.all_eq_true]
  simp only [fitsR] at h
  split at h
  ·cases h
  ·rename_i h1
   have hl : v.names.length = v.values.length := by
    rcases Nat.lt_trichotomy v.names.length v.values.length with h' | h' | h'
    ·exact absurd (.inr (by omega)) h1
    ·exact h'
    ·exact absurd (.inr (by omega)) h1
   refine ⟨hl, fun x hx => ?_⟩
   split at h
   ·have : v.values.length = 0 := by simp at h; rw [h] at hl; simpa using hl.symm
    rw [List.eq_nil_of_length_eq_zero this] at hx; cases hx
   ·split at h
    ·have : v.values.length = 0 := by simp at h; rw [h.1.1] at hl; simpa using hl.symm
     rw [List.eq_nil_of_length_eq_zero this] at hx; cases hx
    ·split at h
     ·cases h
     ·rw [List.all_eq_true] at h
      exact fitsR_even d x (h x hx) n
theorem t24 (v w : Val) (hv : v.sz ≤ 4611686018427387904) (hw : w.sz ≤ 4611686018427387904) : callW pg 24 [v.av, w.av] = M.pure (.bool (fitsR 4 v && fitsR 4 w && sameP v w)) := by
 rw [C24]
 cases h1 : fitsR 4 v with
 | false => simp [S24, t22 v hv, h1]
 | true =>
  cases h2 : fitsR 4 w with
  | false => simp [S24, t22 v hv, t22 w hw, h1, h2]
  | true => simp [S24, t22 v hv, t22 w hw, h1, h2, t55 v.sz v w (Nat.le_refl _) hv (fitsR_even 4 v h1 _) (fitsR_even 4 w h2 _)]
theorem t26 (a b : List Val) (ha : valsSz a ≤ 4611686018427387904) (hb : valsSz b ≤ 4611686018427387904) : callW pg 26 [vals a, vals b] = M.pure (.bool (all2 (fun v w => fitsR 4 v && fitsR 4 w && sameP v w) a b)) := by
 have hla := valsSz_len a
 rw [C26]
 by_cases hl : a.length = b.length
 ·have hloop := fix_all (FL26_0 (callW pg)) (fun k => [vals a, vals b, .int .i64 (k : Int)]) a.length (fun k => fitsR 4 a[k]! && fitsR 4 b[k]! && sameP a[k]! b[k]!)
   (by simp [L26_0]) (fun k hk => by
    have a1 : k < b.length := by omega
    have hx := t24 a[k] b[k] (by have := valsSz_mem (List.getElem_mem hk); omega) (by have := valsSz_mem (List.getElem_mem a1); omega)
    simp only [L26_0]
    simp (disch := omega) [hk, wrap_in, IX23, hx]
    cases fitsR 4 a[k] <;> cases fitsR 4 b[k] <;> cases sameP a[k] b[k] <;> simp) 0 (Nat.zero_le _)
  have := all_range2 (fun v w => fitsR 4 v && fitsR 4 w && sameP v w) a b hl
  simp only [Nat.sub_zero, this] at hloop
  simp at hloop
  simp [S26, hl, hloop]
 ·simp [S26, hl, all2_length _ a b hl]
end Go.Proofs.Ytgbopmciiadmlaa

namespace Go.Proofs.Ytgbopmciiadmlaa
open Go Go.Av Go.Av.Ap
theorem loop63 (f : AV) (F : Mod → Bool) (l : List Mod) (hb : l.length ≤ 4611686018427387904) (hf : ∀ x ∈ l, callV (callW pg) f [Mod.av x] = M.pure (.bool (F x))) : ∀ (n : Nat) (i : Int), l.length - i.toNat = n → 0 ≤ i → i ≤ l.length →
  fixW (L63_0 (callW pg) fixW) [mods l, f, .int .i64 l.length, .int .i64 i] = M.pure (.int .i64 (idxAt F (l.drop i.toNat) i)) := by
 intro n
 induction n with
 | zero =>
  intro i hn hi hl
  rw [FL63_0]
  simp only [L63_0]
  have h1 : ¬ (i < (l.length : Int)) := by omega
  have h2 : l.drop i.toNat = [] := List.drop_eq_nil_of_le (by omega)
  simp [h1, h2, idxAt]
 | succ n ih =>
  intro i hn hi hl
  have h1 : i < (l.length : Int) := by omega
  have hlt : i.toNat < l.length := by omega
  have h2 : idxAt F (l.drop i.toNat) i = if F l[i.toNat] = true then i else idxAt F (l.drop (i.toNat + 1)) (i + 1) := by rw [List.drop_eq_getElem_cons hlt]; rfl
  have h3 := hf l[i.toNat] (List.getElem_mem hlt)
  have h4 := ih (i + 1) (by omega) (by omega) (by omega)
  rw [show (i + 1).toNat = i.toNat + 1 by omega] at h4
  rw [FL63_0]
  simp only [L63_0]
  simp (disch := omega) [h1, wrap_in, IX22, h3, h2]
  cases F l[i.toNat]
  ·simpa using h4
  ·simp
theorem t63 (f : AV) (F : Mod → Bool) (l : List Mod) (hb : l.length ≤ 4611686018427387904) (hc : ∀ g, cl g f = f) (hf : ∀ x ∈ l, callV (callW pg) f [Mod.av x] = M.pure (.bool (F x))) : callW pg 63 [mods l, f] = M.pure (.int .i64 (idxAt F l 0)) := by
 rw [C63]
 simp [S63, hc, loop63 f F l hb hf l.length 0 rfl (by omega) (by omega)]
theorem t58 (f : AV) (F : Mod → Bool) (l : List Mod) (hb : l.length ≤ 4611686018427387904) (hc : ∀ g, cl g f = f) (hf : ∀ x ∈ l, callV (callW pg) f [Mod.av x] = M.pure (.bool (F x))) : callW pg 58 [mods l, f] = M.pure (.bool (l.any F)) := by
 rw [C58]
 simp [S58, hc, t63 f F l hb hc hf, idxAt_any]
theorem loop65 (f : AV) (F : Fun → Bool) (l : List Fun) (hb : l.length ≤ 4611686018427387904) (hf : ∀ x ∈ l, callV (callW pg) f [Fun.av x] = M.pure (.bool (F x))) : ∀ (n : Nat) (i : Int), l.length - i.toNat = n → 0 ≤ i → i ≤ l.length →
  fixW (L65_0 (callW pg) fixW) [funs l, f, .int .i64 l.length, .int .i64 i] = M.pure (.int .i64 (idxAt F (l.drop i.toNat) i)) := by
 intro n
 induction n with
 | zero =>
  intro i hn hi hl
  rw [FL65_0]
  simp only [L65_0]
  have h1 : ¬ (i < (l.length : Int)) := by omega
  have h2 : l.drop i.toNat = [] := List.drop_eq_nil_of_le (by omega)
  simp [h1, h2, idxAt]
 | succ n ih =>
  intro i hn hi hl
  have h1 : i < (l.length : Int) := by omega
  have hlt : i.toNat < l.length := by omega
  have h2 : idxAt F (l.drop i.toNat) i = if F l[i.toNat] = true then i else idxAt F (l.drop (i.toNat + 1)) (i + 1) := by rw [List.drop_eq_getElem_cons hlt]; rfl
  have h3 := hf l[i.toNat] (List.getElem_mem hlt)
  have h4 := ih (i + 1) (by omega) (by omega) (by omega)
  rw [show (i + 1).toNat = i.toNat + 1 by omega] at h4
  rw [FL65_0]
  simp only [L65_0]
  simp (disch := omega) [h1, wrap_in, IX59, h3, h2]
  cases F l[i.toNat]
  ·simpa using h4
  ·simp
theorem t65 (f : AV) (F : Fun → Bool) (l : List Fun) (hb : l.length ≤ 4611686018427387904) (hc : ∀ g, cl g f = f) (hf : ∀ x ∈ l, callV (callW pg) f [Fun.av x] = M.pure (.bool (F x))) : callW pg 65 [funs l, f] = M.pure (.int .i64 (idxAt F l 0)) := by
 rw [C65]
 simp [S65, hc, loop65 f F l hb hf l.length 0 rfl (by omega) (by omega)]
theorem loop98 (f : AV) (F : Fld → Bool) (l : List Fld) (hb : l.length ≤ 4611686018427387904) (hf : ∀ x ∈ l, callV (callW pg) f [fldAv x] = M.pure (.bool (F x))) : ∀ (n : Nat) (i : Int), l.length - i.toNat = n → 0 ≤ i → i ≤ l.length →
  fixW (L98_0 (callW pg) fixW) [flds l, f, .int .i64 l.length, .int .i64 i] = M.pure (.int .i64 (idxAt F (l.drop i.toNat) i)) := by
 intro n
 induction n with
 | zero =>
  intro i hn hi hl
  rw [FL98_0]
  simp only [L98_0]
  have h1 : ¬ (i < (l.length : Int)) := by omega
  have h2 : l.drop i.toNat = [] := List.drop_eq_nil_of_le (by omega)
  simp [h1, h2, idxAt]
 | succ n ih =>
  intro i hn hi hl
  have h1 : i < (l.length : Int) := by omega
  have hlt : i.toNat < l.length := by omega
  have h2 : idxAt F (l.drop i.toNat) i = if F l[i.toNat] = true then i else idxAt F (l.drop (i.toNat + 1)) (i + 1) := by rw [List.drop_eq_getElem_cons hlt]; rfl
  have h3 := hf l[i.toNat] (List.getElem_mem hlt)
  have h4 := ih (i + 1) (by omega) (by omega) (by omega)
  rw [show (i + 1).toNat = i.toNat + 1 by omega] at h4
  rw [FL98_0]
  simp only [L98_0]
  simp (disch := omega) [h1, wrap_in, IX58, h3, h2]
  cases F l[i.toNat]
  ·simpa using h4
  ·simp
theorem t98 (f : AV) (F : Fld → Bool) (l : List Fld) (hb : l.length ≤ 4611686018427387904) (hc : ∀ g, cl g f = f) (hf : ∀ x ∈ l, callV (callW pg) f [fldAv x] = M.pure (.bool (F x))) : callW pg 98 [flds l, f] = M.pure (.int .i64 (idxAt F l 0)) := by
 rw [C98]
 simp [S98, hc, loop98 f F l hb hf l.length 0 rfl (by omega) (by omega)]
theorem t64 (m : Mod) (s : Str) : callW pg 64 [m.av, .ip [.str s]] = M.pure (.bool (m.name == s)) := by
 rw [C64]; simp [S64, cl, cls]
theorem t66 (f : Fun) (s : Str) : callW pg 66 [f.av, .ip [.str s]] = M.pure (.bool (f.name == s)) := by
 rw [C66]; simp [S66, cl, cls]
theorem t59 (m w : Mod) : callW pg 59 [m.av, .ip (acells w.av)] = M.pure (.bool (m.name == w.name)) := by
 rw [C59]; simp [S59, cl, cls]
theorem t63' (p : List Mod) (hp : p.length ≤ 4611686018427387904) (s : Str) : callW pg 63 [mods p, .fn (.func 64) [] [.ip [.str s]]] = M.pure (.int .i64 (modAt p s)) :=
 t63 _ _ p hp (fun _g => rfl) (fun m _ => t64 m s)
theorem t65' (p : List Fun) (hp : p.length ≤ 4611686018427387904) (s : Str) : callW pg 65 [funs p, .fn (.func 66) [] [.ip [.str s]]] = M.pure (.int .i64 (funAt p s)) :=
 t65 _ _ p hp (fun _g => rfl) (fun m _ => t66 m s)
theorem t74 (n : Int) : callW pg 74 [.int .i64 n] = M.pure (Val.mk 0 n [] []).av := by
 rw [C74]
 rfl
theorem t75 (b : Bool) : callW pg 75 [.bool b] = M.pure (truthV b).av := by
 rw [C75]
 cases b <;> rfl
theorem t69 (b : Bool) (n : Int) : callW pg 69 [.bool b, .int .i64 n] = if b = true then M.pure (.tup []) else throwM (.iface 33 (.int .i64 n)) := by
 rw [C69]
 cases b <;> rfl
theorem clip25 (l : List Str) : sliceA T 25 (strs l) none (some (.int .i64 l.length)) (some (.int .i64 l.length)) = some (strs l) := by
 have := sliceA_clip (T := T) (t := 25) (e := 9) rfl rfl rfl (l.map AV.str)
 simpa [strs] using this
theorem clip23 (l : List Val) : sliceA T 23 (vals l) none (some (.int .i64 l.length)) (some (.int .i64 l.length)) = some (vals l) := by
 have := sliceA_clip (T := T) (t := 23) (e := 39) rfl rfl rfl (valsAv l)
 simpa [vals, valsAv_map] using this
theorem t94 (l : List Str) : callW pg 94 [strs l] = M.pure (strs l) := by
 rw [C94]
 simp [S94, clip25, isoP_pure (a := strs l) fun g => cl_strs g l]
theorem t95 (l : List Val) : callW pg 95 [vals l] = M.pure (vals l) := by
 rw [C95]
 simp [S95, clip23]
end Go.Proofs.Ytgbopmciiadmlaa

namespace Go.Proofs.Ytgbopmciiadmlaa
open Go Go.Av Go.Av.Ap
def scopeAv (o : Int) (ns : List Str) (vs : List Val) : AV := .agg [.int .i64 o, strs ns, vals vs]
@[simp] theorem acells_scope (o : Int) (ns : List Str) (vs : List Val) : acells (scopeAv o ns vs) = [.int .i64 o, strs ns, vals vs] := rfl
theorem fold_scope (o : Int) (ns : List Str) (vs : List Val) : AV.agg [.int .i64 o, strs ns, vals vs] = scopeAv o ns vs := rfl
theorem cl_scope (g) (o : Int) (ns : List Str) (vs : List Val) : cl g (scopeAv o ns vs) = scopeAv o ns vs := by
 simp [scopeAv, cl, cls, cl_strs, cl_vals]
theorem okEl_scope (o : Int) (ns : List Str) (vs : List Val) : okEl 3 (scopeAv o ns vs) = true := by simp [okEl, okCell, strs, vals, scopeAv, sizeA, acells]
theorem isoP_scope (o : Int) (ns : List Str) (vs : List Val) : isoP (M.pure (scopeAv o ns vs)) = M.pure (scopeAv o ns vs) := isoP_pure fun g => cl_scope g o ns vs
set_option maxHeartbeats 1000000 in
theorem t73 (n : Int) : callW pg 73 [.int .i64 n] = M.pure (.int .i64 (argsN n)) := by
 rw [C73]
 unfold argsN
 simp only [S73, K73_0, K73_1, K73_2, K73_3, cl, jn_def, bin_eql, bnd_some, condM_bool, nth_zero, nth_succ, beq_iff_eq]
 by_cases h0 : n = 0
 ·simp [h0]
 by_cases h1 : n = 1
 ·simp [h1]
 by_cases h2 : n = 2
 ·simp [h2]
 by_cases h17 : n = 17
 ·simp [h17]
 by_cases h10 : n = 10
 ·simp [h10]
 by_cases h14 : n = 14
 ·simp [h14]
 by_cases h16 : n = 16
 ·simp [h16]
 by_cases h18 : n = 18
 ·simp [h18]
 by_cases h3 : n = 3
 ·simp [h3]
 by_cases h4 : n = 4
 ·simp [h4]
 by_cases h5 : n = 5
 ·simp [h5]
 by_cases h6 : n = 6
 ·simp [h6]
 by_cases h7 : n = 7
 ·simp [h7]
 by_cases h8 : n = 8
 ·simp [h8]
 by_cases h9 : n = 9
 ·simp [h9]
 by_cases h12 : n = 12
 ·simp [h12]
 by_cases h11 : n = 11
 ·simp [h11]
 by_cases h13 : n = 13
 ·simp [h13]
 by_cases h15 : n = 15
 ·simp [h15]
 simp [h0, h1, h2, h17, h10, h14, h16, h18, h3, h4, h5, h6, h7, h8, h9, h12, h11, h13, h15]
theorem t70 (o : Int) (ns : List Str) (vs : List Val) (s : Str) (v : Val) (h1 : ns.length ≤ 1099511627776) (h2 : vs.length ≤ 1099511627776) :
  callW pg 70 [scopeAv o ns vs, .str s, v.av] = M.pure (scopeAv o (ns ++ [s]) (vs ++ [v])) := by
 have hb1 : buildSliceA T 25 1 [(0, .str s)] = some (strs [s]) := rfl
 have hb2 : buildSliceA T 23 1 [(0, v.av)] = some (vals [v]) := by rw [v.av_eq]; simp [vals, valsAv, v.av_eq]; rfl
 have ha1 : appA T 25 (strs ns) (strs [s]) = some (strs (ns ++ [s])) := AP25 (by simp; omega)
 have ha2 : appA T 23 (vals vs) (vals [v]) = some (vals (vs ++ [v])) := AP23 (by simp; omega)
 have hb3 : buildA T false 98 [(0, .int .i64 o), (1, strs (ns ++ [s])), (2, vals (vs ++ [v]))] = some (scopeAv o (ns ++ [s]) (vs ++ [v])) := rfl
 rw [C70, cl_scope]
 simp [S70, cl, t94, t95, hb1, hb2, ha1, ha2, hb3, fold_scope, okEl_scope, isoP_scope]
def errAv (e : Int) : AV := .iface 33 (.int .i64 e)
def mustM (b : Bool) (e : Int) (x : M AV) : M AV := if b = true then x else throwM (errAv e)
theorem bnd_must (b : Bool) (e : Int) (f : AV → M AV) : bnd (callW pg 69 [.bool b, .int .i64 e]) f = mustM b e (f (.tup [])) := by
 rw [t69]
 unfold mustM
 cases b <;> rfl
def pureX : X Val → M AV := fun x => match x ⟨0, 0, [], [], [], []⟩ with
 | .ok v _ => M.pure v.av
 | .er e _ => throwM (errAv e)
theorem t76 (op : Int) (a b : Val) (_h : op = 3 ∨ op = 4 ∨ op = 5 ∨ op = 6 ∨ op = 7) : callW pg 76 [.int .i64 op, a.av, b.av] = pureX (binX op a b) := by
 rw [C76]
 unfold binX
 have hn := t74
 have ht := t75
 simp only [S76, bin_eql, bnd_some, condM_bool, acells_val]
 by_cases h7 : op = 7
 ·by_cases hk : a.kind = b.kind
  ·by_cases h2 : a.kind = 2
   ·have h2' : b.kind = 2 := by omega
    simp [h7, hk, h2', bnd_must, mustM, pureX, X.er]
   ·have h2' : ¬ b.kind = 2 := by omega
    simp [h7, hk, h2', bnd_must, mustM, pureX, X.ok, ht]
  ·simp [h7, hk, bnd_must, mustM, pureX, X.er]
 ·by_cases ha : a.kind = 0
  ·by_cases hb : b.kind = 0
   ·simp only [h7, ha, hb, beq_self_eq_true, and_self, if_true, if_false, beq_iff_eq, FA39_0, FA39_1, List.drop_zero, LD3, bnd_some, bin_eql, guardM_pure1, bnd_pure, pickA_and, nth_zero, bnd_must, mustM, Bool.and_self, List.drop_succ_cons, bin_add, bin_sub, bin_mul, bin_lss, hn, ht]
    by_cases h3 : op = 3
    ·simp [h3, pureX, X.ok, numV, wr]
     rfl
    by_cases h4 : op = 4
    ·simp [h4, pureX, X.ok, numV, wr]
     rfl
    by_cases h5 : op = 5
    ·simp [h5, pureX, X.ok, numV, wr]
     rfl
    simp [h3, h4, h5, pureX, X.ok]
   ·simp [h7, ha, hb, bnd_must, mustM, pureX, X.er]
  ·simp [h7, ha, bnd_must, mustM, pureX, X.er]
theorem t79 (l : List Str) (s : Str) (hb : l.length ≤ 1099511627776) : callW pg 79 [strs l, .str s] = M.pure (.int .i64 (idxAt (fun x => s == x) l 0)) := by
 have hl : ∀ (n : Nat) (i : Int), l.length - i.toNat = n → 0 ≤ i → i ≤ l.length → fixW (L79_0 (callW pg) fixW) [strs l, .str s, .int .i64 l.length, .int .i64 i] = M.pure (.int .i64 (idxAt (fun x => s == x) (l.drop i.toNat) i)) := by
  intro n
  induction n with
  | zero =>
   intro i hn hi hl
   rw [FL79_0]
   simp only [L79_0]
   have h1 : ¬ (i < (l.length : Int)) := by omega
   have h2 : l.drop i.toNat = [] := List.drop_eq_nil_of_le (by omega)
   simp [h1, h2, idxAt]
  | succ n ih =>
   intro i hn hi hl
   have h1 : i < (l.length : Int) := by omega
   have hlt : i.toNat < l.length := by omega
   have h2 : idxAt (fun x => s == x) (l.drop i.toNat) i = if (s == l[i.toNat]) = true then i else idxAt (fun x => s == x) (l.drop (i.toNat + 1)) (i + 1) := by rw [List.drop_eq_getElem_cons hlt]; rfl
   have h4 := ih (i + 1) (by omega) (by omega) (by omega)
   rw [show (i + 1).toNat = i.toNat + 1 by omega] at h4
   rw [FL79_0]
   simp only [L79_0]
   simp (disch := omega) [h1, wrap_in, IX25, h2]
   by_cases h : s = l[i.toNat]
   ·simp [h]
   ·simp [h]
    simpa using h4
 rw [C79]
 simp [S79, cl, hl l.length 0 rfl (by omega) (by omega)]
theorem t97 : ∀ (n : Nat) (v : Val), v.sz ≤ n → v.sz ≤ 1099511627776 → callW pg 97 [v.av] = M.pure (.int .i64 (levelV v : Nat)) := by
 intro n
 induction n with
 | zero => intro v h; have := v.sz_pos; omega
 | succ n ih =>
  intro v hn hv
  have hlen := v.sz_len
  have hlv : ∀ (l : List Val), valsSz l ≤ 1099511627776 → levelsV l ≤ 1099511627776 := by
   intro l
   induction l with
   | nil => intro _; simp [levelsV]
   | cons x l ih2 =>
    intro h
    simp only [valsSz] at h
    have := ih2 (by omega)
    have hx : ∀ (k : Nat) (y : Val), y.sz ≤ k → levelV y ≤ y.sz := by
     intro k
     induction k with
     | zero => intro y hy; have := y.sz_pos; omega
     | succ k ihk =>
      intro y hy
      rw [levelV_eq]
      have h1 := y.sz_values
      have h2 : levelsV y.values ≤ valsSz y.values := (levelsV_le _ _).2 fun z hz => Nat.le_trans (ihk z (by have := Val.sz_mem hz; omega)) (valsSz_mem hz)
      omega
    simp only [levelsV]
    have := hx _ x (Nat.le_refl _)
    omega
  have hl : ∀ (B A : List Val) (c : Nat), A ++ B = v.values → c ≤ 1099511627776 → fixW (L97_0 (callW pg) fixW) [.int .i64 (c : Nat), vals v.values, .int .i64 v.values.length, .int .i64 A.length] = M.pure (.int .i64 ((max c (levelsV B) + 1 : Nat))) := by
   intro B
   induction B with
   | nil =>
    intro A c e hc
    simp only [List.append_nil] at e
    subst e
    rw [FL97_0]
    simp (disch := omega) [L97_0, levelsV, wrap_in]
   | cons x B ih2 =>
    intro A c e hc
    have hll : A.length + (B.length + 1) = v.values.length := by rw [← e]; simp
    have h1 : (A.length : Int) < (v.values.length : Int) := by omega
    have hx : v.values[A.length]! = x := by
     rw [← e, getElem!_pos _ _ (by simp)]
     simp
    have hm : x ∈ v.values := by rw [← e]; simp
    have hx' : v.values[A.length]'(by omega) = x := by rw [← hx, getElem!_pos]
    have h3 := ih x (by have := Val.sz_mem hm; omega) (by have := Val.sz_mem hm; omega)
    have hxb : levelV x ≤ 1099511627776 := Nat.le_trans ((levelsV_le v.values _).1 (hlv v.values (by have := v.sz_values; omega)) x hm) (Nat.le_refl _)
    have h4 := ih2 (A ++ [x]) (max c (levelV x)) (by rw [← e]; simp) (by omega)
    rw [FL97_0]
    have hmx : (max (c : Int) (levelV x : Int)) = ((max c (levelV x) : Nat) : Int) := by omega
    simp (disch := omega) [L97_0, h1, wrap_in, IX23, hx', h3, hmx] at h4 ⊢
    rw [h4]
    simp only [levelsV]
  rw [C97]
  have := hl v.values [] 0 rfl (by omega)
  simp at this
  simp [S97, this, levelV_eq]
theorem t99 (f : Fld) (e : Exp) : callW pg 99 [fldAv f, .ip (acells e.av)] = M.pure (.bool (f.1 == e.s)) := by
 rw [C99]; simp [S99, cl, cls]
theorem t98' (l : List Fld) (hl : l.length ≤ 1099511627776) (e : Exp) : callW pg 98 [flds l, .fn (.func 99) [] [.ip (acells e.av)]] = M.pure (.int .i64 (fldAt l e.s)) :=
 t98 _ _ l (by omega) (fun g => by simp [cl, cls]) (fun f _ => t99 f e)
end Go.Proofs.Ytgbopmciiadmlaa

namespace Go.Proofs.Ytgbopmciiadmlaa
open Go Go.Av Go.Av.Ap
def pvOf (t : Bool) (p : List Mod) : AV := if t = true then (match p with | [] => .hn | _ => mods p) else mods p
theorem pvOf_ne {t : Bool} {p : List Mod} (h : p ≠ []) : pvOf t p = mods p := by
 cases t with
 | false => rfl
 | true => cases p with
  | nil => exact absurd rfl h
  | cons _ _ => rfl
def wvOf (t : Bool) (w : List Int) : AV := if t = true then .hn else ints w
def rowP (p : List Mod) (t : Bool) (m : Ms) (dv cv sv : AV) : List AV := [pvOf t p, wvOf t m.world, .int .i64 m.fuel, .int .i64 m.frames, .int .i64 0, .int .i64 0, .int .i64 0, .hn, .hn, dv, cv, sv]
abbrev RepP (p : List Mod) (nm : SNm) := Rep (rowP p nm.told) nm
structure LimP (p : List Mod) : Prop where
 len : p.length ≤ 1099511627776
 funcs : ∀ m ∈ p, m.funcs.length ≤ 1099511627776 ∧ m.vars.length ≤ 1099511627776
theorem LimP.funcsAt {p : List Mod} (L : LimP p) (i : Nat) : (p[i]?.getD default).funcs.length ≤ 1099511627776 ∧ (p[i]?.getD default).vars.length ≤ 1099511627776 := by
 cases h : p[i]? with
 | none => exact ⟨Nat.zero_le _, Nat.zero_le _⟩
 | some m => exact L.funcs m (List.mem_of_getElem? h)
theorem idxAt_lt {α : Type} (F : α → Bool) : (l : List α) → (i : Int) → idxAt F l i = -1 ∨ (i ≤ idxAt F l i ∧ idxAt F l i < i + l.length)
 | [], i => .inl rfl
 | x :: l, i => by
  simp only [idxAt]
  split
  ·exact .inr ⟨Int.le_refl _, by simp; omega⟩
  ·rcases idxAt_lt F l (i + 1) with h | h
   ·exact .inl h
   ·exact .inr ⟨by omega, by simp; omega⟩
theorem t35 {p : List Mod} {nm : SNm} {m : Ms} {h : Hp} (R : RepP p nm m h) (L : LimP p) (s : Str) : callW pg 35 [.hp 0 0, .str s] h = .ok (.int .i64 (modAt p s)) h := by
 obtain ⟨tag, dv, cv, sv, R⟩ := R
 have h0 : loadH T 22 (.hp 0 (0 + 0)) h = .ok (pvOf nm.told p) h := loadH_one rfl rfl R.r0 rfl
 have hpv : ∀ f : AV, callW pg 63 [pvOf nm.told p, f] = callW pg 63 [mods p, f] := fun f => by
  by_cases hp : p = []
  ·subst hp
   cases nm.told with
   | false => rfl
   | true => rw [C63, C63]; rfl
  ·rw [pvOf_ne hp]
 rw [C35]
 simp only [S35, nilChkA_hp, bnd_some, FH81_0]
 rw [bnd_ok h0, hpv]
 have := t63' p (by have := L.len; omega) s
 simp only [acells_str, this, bnd_pure]
 rfl
def funTup : Option Fun → AV
 | some f => .tup [f.av, .bool true]
 | none => .tup [Fun.av default, .bool false]
theorem t36 {p : List Mod} {nm : SNm} {m : Ms} {h : Hp} (R : RepP p nm m h) (L : LimP p) (a : Int) (ha : a < p.length) (s : Str) : callW pg 36 [.hp 0 0, .int .i64 a, .str s] h = .ok (funTup (funcX p a s)) h := by
 obtain ⟨tag, dv, cv, sv, R⟩ := R
 have h0 : p ≠ [] → loadH T 22 (.hp 0 (0 + 0)) h = .ok (mods p) h := fun hp => loadH_one rfl rfl R.r0 (by rw [← pvOf_ne (t := nm.told) hp]; rfl)
 have hz : buildA T false 67 [] = some (Fun.av default) := rfl
 have hzz : ∀ f : Fun, AV.agg [nth (acells f.av) 0, nth (acells f.av) 1, nth (acells f.av) 2, nth (acells f.av) 3, nth (acells f.av) 4, nth (acells f.av) 5, nth (acells f.av) 6, nth (acells f.av) 7, nth (acells f.av) 8, nth (acells f.av) 9, nth (acells f.av) 10, nth (acells f.av) 11] = f.av := fun f => by simp
 have hcf : ∀ f : Fun, cellsNil 12 [] f.av = M.pure (.agg (acells f.av)) := fun f => cellsNil_of (okEl_fun f)
 have hac : ∀ f : Fun, acells (.agg (acells f.av)) = acells f.av := fun _ => rfl
 rw [C36]
 unfold funcX
 simp only [S36, bin_lss, bnd_some, condM_bool]
 by_cases h1 : a < 0
 ·simp only [h1, decide_true, if_true, hz, bnd_some, hcf, bnd_pure, hac, hzz]
  rfl
 ·simp only [h1, decide_false, Bool.false_eq_true, if_false, nilChkA_hp, bnd_some, FH81_0]
  rw [bnd_ok (h0 (fun e => by subst e; simp at ha; omega))]
  have hi := IX22 (l := p) (n := a) (by omega) ha
  have hlt : a.toNat < p.length := by omega
  have e1 : p[a.toNat]! = p[a.toNat]?.getD default := by rw [getElem!_pos p a.toNat hlt, List.getElem?_eq_getElem hlt]; rfl
  have hlen := (L.funcsAt a.toNat).1
  have hx := t65' (p[a.toNat]?.getD default).funcs (by omega) s
  generalize hm : p[a.toNat]?.getD default = md at hx hlen e1
  rw [hi, e1]
  simp only [bnd_some, acells_mod, FA63_4, List.drop_succ_cons, List.drop_zero, LD59, acells_str, hx, bnd_pure, bin_lss, condM_bool]
  by_cases h2 : funAt md.funcs s < 0
  ·simp only [h2, decide_true, if_true, hz, bnd_some, hcf, bnd_pure, hac, hzz]
   rfl
  ·simp only [h2, decide_false, Bool.false_eq_true, if_false]
   rcases idxAt_lt (fun f => f.name == s) md.funcs 0 with h3 | h3
   ·exact absurd (show funAt md.funcs s < 0 by unfold funAt; rw [h3]; decide) h2
   ·have h4 : funAt md.funcs s < (md.funcs.length : Int) := by unfold funAt; omega
    have h5 : (funAt md.funcs s).toNat < md.funcs.length := by omega
    rw [IX59 (by omega) h4, getElem!_pos md.funcs _ h5, List.getElem?_eq_getElem h5]
    have hld : loadA T 67 (.ip (acells (md.funcs[(funAt md.funcs s).toNat]).av)) = some (md.funcs[(funAt md.funcs s).toNat]).av := by simp
    simp only [bnd_some, hld, hcf, bnd_pure, hac, hzz]
    rfl
end Go.Proofs.Ytgbopmciiadmlaa

namespace Go.Proofs.Ytgbopmciiadmlaa
open Go Go.Av Go.Av.Ap
def OutG {α : Type} (p : List Mod) (nm : SNm) (enc : α → AV) (r : Rs α) (c : R AV) : Prop := match r with
 | .ok v s => ∃ h', c = .ok (enc v) h' ∧ RepP p nm s h'
 | .er e s => ∃ h', c = .pan (errAv e) h' ∧ RepP p nm s h'
theorem out_bind {α β : Type} {p : List Mod} {nm : SNm} {enc : α → AV} {enc' : β → AV} {x : X α} {f : α → X β} {c : M AV} {d : AV → M AV} {m : Ms} {h : Hp} (H : OutG p nm enc (x m) (c h))
  (K : ∀ a s h', x m = .ok a s → RepP p nm s h' → OutG p nm enc' (f a s) (d (enc a) h')) : OutG p nm enc' (x.bind f m) (bnd c d h) := by
 unfold X.bind
 cases hr : x m with
 | ok a s =>
  rw [hr] at H
  obtain ⟨h', h1, h2⟩ := H
  rw [bnd_ok h1]
  exact K a s h' hr h2
 | er e s =>
  rw [hr] at H
  obtain ⟨h', h1, h2⟩ := H
  exact ⟨h', bnd_pan h1, h2⟩
theorem out_pure {α : Type} {p : List Mod} {nm : SNm} {enc : α → AV} {a : α} {m : Ms} {h : Hp} (R : RepP p nm m h) : OutG p nm enc (X.ok a m) (M.pure (enc a) h) := ⟨h, rfl, R⟩
theorem out_er {α : Type} {p : List Mod} {nm : SNm} {enc : α → AV} {e : Int} {m : Ms} {h : Hp} (R : RepP p nm m h) : OutG p nm enc (X.er e m) (throwM (errAv e) h) := ⟨h, rfl, R⟩
theorem wrap4 (v : Val) : bnd (cellsNil 4 [] v.av) (fun w => M.pure (AV.agg [nth (acells w) 0, nth (acells w) 1, nth (acells w) 2, nth (acells w) 3])) = M.pure v.av := by simp
def tickM (m : Ms) : Ms := { m with fuel := m.fuel - 1 }
theorem rep_tick {p : List Mod} {nm : SNm} {tag : Nat → Nat} {dv cv sv : AV} {m : Ms} {h : Hp} (R : RepT (rowP p nm.told) nm tag dv cv sv m h) : RepT (rowP p nm.told) nm tag dv cv sv (tickM m) (h.set 0 (rowP p nm.told (tickM m) dv cv sv)) := R.set0 rfl rfl rfl id
theorem step0 {p : List Mod} {nm : SNm} {m : Ms} {h : Hp} (R : RepP p nm m h) : ∃ h1, RepP p nm (tickM m) h1 ∧
  (∀ f : AV → M AV, bnd (loadH T 3 (.hp 0 2)) f h = f (.int .i64 m.fuel) h) ∧ (∀ f : AV → M AV, bnd (storeH T 3 (.hp 0 2) (.int .i64 (m.fuel - 1))) f h = f (.tup []) h1) := by
 obtain ⟨tag, dv, cv, sv, R⟩ := R
 refine ⟨_, ⟨tag, dv, cv, sv, rep_tick R⟩, fun f => bnd_ok (loadH_one rfl rfl R.r0 rfl), fun f => bnd_ok (storeH_ok rfl R.r0 rfl (show 2 + 1 ≤ 12 by decide) (by decide))⟩
theorem ev_low {p : List Mod} {nm : SNm} {m : Ms} {h : Hp} (R : RepP p nm m h) (hf : ¬ 0 < m.fuel) (sc : AV) (e : Exp) : callW pg 50 [.hp 0 0, sc, e.av] h = .pan (errAv 16) h := by
 obtain ⟨tag, dv, cv, sv, R⟩ := R
 have h0 : ∀ f : AV → M AV, bnd (loadH T 3 (.hp 0 2)) f h = f (.int .i64 m.fuel) h := fun f => bnd_ok (loadH_one rfl rfl R.r0 rfl)
 rw [C50]
 simp [S50, h0, hf, bnd_must, mustM, throwM]
def CntOK (e : Exp) : Prop := ¬ argsN e.op = -2 ∧ (argsN e.op = -1 ∨ argsN e.op = e.args.length)
theorem ev_cnt {p : List Mod} {nm : SNm} {m : Ms} {h : Hp} (R : RepP p nm m h) (G : GoodM p m) (hf : 0 < m.fuel) (sc : AV) (e : Exp) (hc : ¬ CntOK e) : ∃ h1, RepP p nm (tickM m) h1 ∧ callW pg 50 [.hp 0 0, sc, e.av] h = .pan (errAv 13) h1 := by
 obtain ⟨h1, R1, hl, hs⟩ := step0 R
 refine ⟨h1, R1, ?_⟩
 have hw : IntKind.i64.wrap (m.fuel - 1) = m.fuel - 1 := wrap_in (by omega) (by have := G.bud; simp only [mu] at this; omega)
 unfold CntOK at hc
 rw [C50]
 simp [S50, hl, hs, hf, bnd_must, mustM, hw, t73, hc]
 rfl
mutual
def expLim : Exp → Prop
 | .mk _ _ _ _ ns es => ns.length ≤ 8796093022208 ∧ es.length ≤ 274877906944 ∧ expsLim es
def expsLim : List Exp → Prop
 | [] => True
 | e :: es => expLim e ∧ expsLim es
end
theorem expsLim_mem : {l : List Exp} → expsLim l → ∀ e ∈ l, expLim e
 | [], _, _, h => by cases h
 | x :: l, H, e, h => by
  simp only [expsLim] at H
  rcases List.mem_cons.1 h with rfl | h
  ·exact H.1
  ·exact expsLim_mem H.2 e h
theorem expLim_arg {e x : Exp} (H : expLim e) (h : x ∈ e.args) : expLim x := by
 obtain ⟨o, n, s, m, ns, es⟩ := e
 simp only [expLim] at H
 exact expsLim_mem H.2.2 x h
theorem expLim_names {e : Exp} (H : expLim e) : e.names.length ≤ 8796093022208 ∧ e.args.length ≤ 274877906944 := by
 obtain ⟨o, n, s, m, ns, es⟩ := e
 simp only [expLim] at H
 exact ⟨H.1, H.2.1⟩
structure LimB (p : List Mod) : Prop where
 lim : LimP p
 body : ∀ m ∈ p, ∀ f ∈ m.funcs, expLim f.body ∧ f.params.length ≤ 274877906944
structure Sc (p : List Mod) (own : Int) (ns : List Str) (vs : List Val) (m : Ms) : Prop where
 own : own < p.length
 right : RightS ns vs
 len : (ns.length : Int) + m.fuel ≤ 549755813888
def EvOK (p : List Mod) (nm : SNm) (n : Nat) : Prop := ∀ own ns vs e m h, RepP p nm m h → GoodM p m → m.fuel ≤ n → Sc p own ns vs m → expLim e → OutG p nm Val.av (evalX p n own ns vs e m) (callW pg 50 [.hp 0 0, scopeAv own ns vs, e.av] h)
def BoolOK (p : List Mod) (nm : SNm) (n : Nat) : Prop := ∀ own ns vs e m h, RepP p nm m h → GoodM p m → m.fuel ≤ n → Sc p own ns vs m → expLim e → OutG p nm AV.bool (boolX (evalX p n own ns vs e) m) (callW pg 77 [.hp 0 0, scopeAv own ns vs, e.av] h)
def RecOK (p : List Mod) (nm : SNm) (n : Nat) : Prop := ∀ own ns vs e m h, RepP p nm m h → GoodM p m → m.fuel ≤ n → Sc p own ns vs m → expLim e → OutG p nm Val.av (recordX (evalX p n own ns vs) e m) (callW pg 78 [.hp 0 0, scopeAv own ns vs, e.av] h)
def CallOK (p : List Mod) (nm : SNm) (n : Nat) : Prop := ∀ own ns vs e m h, RepP p nm m h → GoodM p m → mu m < 1000000 → m.fuel ≤ n → Sc p own ns vs m → expLim e → OutG p nm Val.av (callX p (evalX p n) own ns vs e m) (callW pg 80 [.hp 0 0, scopeAv own ns vs, e.av] h)
def worldX (p : List Mod) (r : Exp → X Val) (own : Int) (e : Exp) : X Val := if e.op = 16 then actX (r e.args[0]!) e else varX p r own e
def WorldOK (p : List Mod) (nm : SNm) (n : Nat) : Prop := ∀ own ns vs e m h, e.op = 16 ∨ e.op = 17 ∨ e.op = 18 → CntOK e → RepP p nm m h → GoodM p m → mu m < 1000000 → m.fuel ≤ n → Sc p own ns vs m → expLim e → OutG p nm Val.av (worldX p (evalX p n own ns vs) own e m) (callW pg 81 [.hp 0 0, scopeAv own ns vs, e.av] h)
theorem Sc.less {p : List Mod} {own : Int} {ns : List Str} {vs : List Val} {m s : Ms} (H : Sc p own ns vs m) (h : s.fuel ≤ m.fuel) : Sc p own ns vs s := ⟨H.own, H.right, by have := H.len; omega⟩
theorem t77 {p : List Mod} {nm : SNm} {n : Nat} (IH : EvOK p nm n) : BoolOK p nm n := by
 intro own ns vs e m h R G hn hs he
 unfold boolX
 have hsc : loadA T 98 (.ip (acells (scopeAv own ns vs))) = some (scopeAv own ns vs) := rfl
 have hex : loadA T 28 (.ip (acells e.av)) = some e.av := by simp
 rw [C77]
 simp only [S77, hsc, hex, bnd_some]
 refine out_bind (IH own ns vs e m h R G hn hs he) fun v s h' hv Rs => ?_
 simp only [cellsM_of (okEl_val v), bnd_pure, acells_agg, acells_val, FA39_0, FA39_1, List.drop_zero, LD3, bnd_some, bin_eql, bnd_must, mustM, List.drop_succ_cons]
 by_cases hk : v.kind = 1
 ·simp only [hk, beq_self_eq_true, if_true]
  exact out_pure Rs
 ·have : (v.kind == 1) = false := by simpa using hk
  simp only [hk, this, if_false, Bool.false_eq_true]
  exact out_er Rs
theorem look_snoc : ∀ (ns : List Str) (vs : List Val) (n : Str) (v : Val) (s : Str), ns.length = vs.length → lookV (ns ++ [n]) (vs ++ [v]) s = if n = s then some v else lookV ns vs s
 | [], [], n, v, s, _ => by simp [lookV]
 | a :: ns, b :: vs, n, v, s, h => by
  simp only [List.cons_append, lookV, look_snoc ns vs n v s (by simpa using h)]
  by_cases hn : n = s
  ·simp [hn]
  ·simp [hn]
 | [], _ :: _, _, _, _, h => by simp at h
 | _ :: _, [], _, _, _, h => by simp at h
def lookM (o : Option Val) : M AV := match o with
 | some v => M.pure v.av
 | none => throwM (errAv 12)
theorem loop_var (kk : List AV → M AV) (own : Int) (ns : List Str) (vs : List Val) (e : Exp) (x1 x2 x3 x4 : AV) (hl : ns.length = vs.length) (hb : ns.length ≤ 1099511627776) : ∀ (i : Nat), i ≤ ns.length →
  fixW (L50_0 (callW pg) fixW kk) [.hp 0 0, .ip [.int .i64 own, strs ns, vals vs], .ip (acells e.av), .int .i64 ((i : Int) - 1), x1, x2, x3, x4] = lookM (lookV (ns.take i) (vs.take i) e.s)
 | 0, _ => by
  have hi : mkIfaceA T 33 (.int .i64 12) = some (errAv 12) := rfl
  rw [FL50_0]
  simp only [L50_0, nth_zero, nth_succ, bin_geq, bnd_some, condM_bool, hi]
  simp [lookV, lookM, panM]
  rfl
 | i + 1, hi => by
  have ih := loop_var kk own ns vs e x1 x2 x3 x4 hl hb i (by omega)
  have h1 : i < ns.length := by omega
  have h2 : i < vs.length := by omega
  have h3 : (ns.take (i + 1)) = ns.take i ++ [ns[i]] := by simp
  have h4 : (vs.take (i + 1)) = vs.take i ++ [vs[i]] := by simp
  rw [h3, h4, look_snoc _ _ _ _ _ (by simp; omega), FL50_0]
  have e1 : ((i + 1 : Nat) : Int) - 1 = (i : Int) := by omega
  rw [e1]
  simp only [L50_0]
  simp (disch := omega) [wrap_in, IX25, IX23]
  simp only [acells_exp] at ih
  by_cases hs : ns[i] = e.s
  ·simp [hs, lookM]
  ·simp [hs, ih]
end Go.Proofs.Ytgbopmciiadmlaa

namespace Go.Proofs.Ytgbopmciiadmlaa
open Go Go.Av Go.Av.Ap
@[simp] theorem ixe0 (a : Exp) (l : List Exp) : indexAddrA T 26 (exps (a :: l)) (.int .i64 0) = some (.ip (acells a.av)) := by
 have := IX26 (l := a :: l) (n := 0) (by omega) (by simp <;> omega)
 simpa using this
@[simp] theorem ixe1 (a b : Exp) (l : List Exp) : indexAddrA T 26 (exps (a :: b :: l)) (.int .i64 1) = some (.ip (acells b.av)) := by
 have := IX26 (l := a :: b :: l) (n := 1) (by omega) (by simp <;> omega)
 simpa using this
@[simp] theorem ixe2 (a b c : Exp) (l : List Exp) : indexAddrA T 26 (exps (a :: b :: c :: l)) (.int .i64 2) = some (.ip (acells c.av)) := by
 have := IX26 (l := a :: b :: c :: l) (n := 2) (by omega) (by simp <;> omega)
 simpa using this
section
variable (o n : Int) (s m : Str) (ns : List Str) (es : List Exp)
@[simp] theorem op_mk : (Exp.mk o n s m ns es).op = o := rfl
@[simp] theorem n_mk : (Exp.mk o n s m ns es).n = n := rfl
@[simp] theorem s_mk : (Exp.mk o n s m ns es).s = s := rfl
@[simp] theorem m_mk : (Exp.mk o n s m ns es).m = m := rfl
@[simp] theorem names_mk : (Exp.mk o n s m ns es).names = ns := rfl
@[simp] theorem args_mk : (Exp.mk o n s m ns es).args = es := rfl
end
theorem fold_exp' (o n : Int) (s m : Str) (ns : List Str) (es : List Exp) : AV.agg [.int .i64 o, .int .i64 n, .str s, .str m, strs ns, exps es] = (Exp.mk o n s m ns es).av := by rw [Exp.av, Exp.cells_eq]; rfl
theorem fieldV_idx : ∀ (ns : List Str) (vs : List Val) (s : Str) (i : Int), ns.length = vs.length → (idxAt (fun x => s == x) ns i = -1 ∧ fieldV ns vs s = none) ∨ (∃ (k : Nat) (h : k < vs.length), idxAt (fun x => s == x) ns i = i + k ∧ fieldV ns vs s = some vs[k])
 | [], [], s, i, _ => .inl ⟨rfl, rfl⟩
 | n :: ns, v :: vs, s, i, h => by
  simp only [idxAt, fieldV]
  by_cases hn : n = s
  ·right
   exact ⟨0, by simp, by simp [hn], by simp [hn]⟩
  ·have hn' : (s == n) = false := by simpa using fun e => hn e.symm
   simp only [if_neg hn, hn', Bool.false_eq_true, if_false]
   rcases fieldV_idx ns vs s (i + 1) (by simpa using h) with ⟨h1, h2⟩ | ⟨k, hk, h1, h2⟩
   ·left
    exact ⟨by simpa using h1, h2⟩
   ·right
    exact ⟨k + 1, by simp; omega, by simp [h1]; omega, by simpa using h2⟩
 | [], _ :: _, _, _, h => by simp at h
 | _ :: _, [], _, _, h => by simp at h
theorem pureX_out {p : List Mod} {nm : SNm} {x : X Val} (hx : (∃ v, x = .ok v) ∨ (∃ e, x = .er e)) {m : Ms} {h : Hp} (R : RepP p nm m h) : OutG p nm Val.av (x m) (pureX x h) := by
 rcases hx with ⟨v, rfl⟩ | ⟨e, rfl⟩
 ·exact out_pure R
 ·exact out_er R
theorem binX_pure (op : Int) (a b : Val) : (∃ v, binX op a b = .ok v) ∨ (∃ e, binX op a b = .er e) := by
 unfold binX
 split
 ·split
  ·exact .inl ⟨_, rfl⟩
  ·exact .inr ⟨_, rfl⟩
 ·split
  ·split
   ·exact .inl ⟨_, rfl⟩
   ·split
    ·exact .inl ⟨_, rfl⟩
    ·split
     ·exact .inl ⟨_, rfl⟩
     ·exact .inl ⟨_, rfl⟩
  ·exact .inr ⟨_, rfl⟩
theorem len1 {l : List Exp} (h : l.length = 1) : ∃ a, l = [a] := by
 match l, h with
 | [a], _ => exact ⟨a, rfl⟩
theorem len2 {l : List Exp} (h : l.length = 2) : ∃ a b, l = [a, b] := by
 match l, h with
 | [a, b], _ => exact ⟨a, b, rfl⟩
theorem len3 {l : List Exp} (h : l.length = 3) : ∃ a b c, l = [a, b, c] := by
 match l, h with
 | [a, b, c], _ => exact ⟨a, b, c, rfl⟩
theorem out_ite {α : Type} {p : List Mod} {nm : SNm} {enc : α → AV} {c : Prop} [Decidable c] {x y : X α} {a b : M AV} {m : Ms} {h : Hp} (h1 : c → OutG p nm enc (x m) (a h)) (h2 : ¬ c → OutG p nm enc (y m) (b h)) : OutG p nm enc ((if c then x else y) m) ((if c then a else b) h) := by
 split
 ·exact h1 ‹_›
 ·exact h2 ‹_›
theorem eq_bool (a b : Bool) : binA T .eql 4 (.bool a) (.bool b) = some (.bool (a == b)) := by cases a <;> cases b <;> rfl
theorem wrap4' (v : Val) (h : Hp) : bnd (cellsNil 4 [] v.av) (fun w => M.pure (AV.agg [nth (acells w) 0, nth (acells w) 1, nth (acells w) 2, nth (acells w) 3])) h = M.pure v.av h := by rw [wrap4]
theorem out_wrap {p : List Mod} {nm : SNm} {r : Rs Val} {c : M AV} {h : Hp} (H : OutG p nm Val.av r (c h)) : OutG p nm Val.av r (bnd c (fun v => bnd (cellsNil 4 [] v) fun w => M.pure (AV.agg [nth (acells w) 0, nth (acells w) 1, nth (acells w) 2, nth (acells w) 3])) h) := by
 cases r with
 | ok v s =>
  obtain ⟨h', h1, h2⟩ := H
  refine ⟨h', ?_, h2⟩
  rw [bnd_ok h1, wrap4]
  rfl
 | er e s =>
  obtain ⟨h', h1, h2⟩ := H
  exact ⟨h', bnd_pan h1, h2⟩
theorem eval_step {p : List Mod} {nm : SNm} {n : Nat} (IH : EvOK p nm n) (IR : RecOK p nm n) (IC : CallOK p nm n) (IW : WorldOK p nm n) : EvOK p nm (n + 1) := by
 intro own ns vs e m h R G hn hs he
 have IB := t77 IH
 by_cases hf : 0 < m.fuel
 rotate_left
 ·have e1 : evalX p (n + 1) own ns vs e m = .er 16 m := by
   show stepX p (evalX p n) own ns vs e m = _
   unfold stepX X.get
   simp only
   rw [if_pos (by omega)]
   rfl
  rw [e1]
  exact ⟨h, ev_low R hf _ e, R⟩
 have hspec : evalX p (n + 1) own ns vs e m = (if argsN e.op = -2 ∨ (argsN e.op ≠ -1 ∧ argsN e.op ≠ e.args.length) then .er 13
   else if e.op = 0 then .ok (numV e.n)
   else if e.op = 1 then (if e.n = 0 ∨ e.n = 1 then .ok (truthV (e.n == 1)) else .er 13)
   else if e.op = 2 then (match lookV ns vs e.s with | some v => .ok v | none => .er 12)
   else if e.op = 3 ∨ e.op = 4 ∨ e.op = 5 ∨ e.op = 6 ∨ e.op = 7 then (evalX p n own ns vs e.args[0]!).bind fun a => (evalX p n own ns vs e.args[1]!).bind fun b => binX e.op a b
   else if e.op = 8 ∨ e.op = 9 then (boolX (evalX p n own ns vs e.args[0]!)).bind fun x => if x = (e.op == 9) then .ok (truthV (e.op == 9)) else (boolX (evalX p n own ns vs e.args[1]!)).bind fun y => .ok (truthV y)
   else if e.op = 10 then (boolX (evalX p n own ns vs e.args[0]!)).bind fun x => .ok (truthV !x)
   else if e.op = 11 then (boolX (evalX p n own ns vs e.args[0]!)).bind fun x => if x = true then evalX p n own ns vs e.args[1]! else evalX p n own ns vs e.args[2]!
   else if e.op = 12 then (evalX p n own ns vs e.args[0]!).bind fun v => evalX p n own (ns ++ [e.s]) (vs ++ [v]) e.args[1]!
   else if e.op = 13 then recordX (evalX p n own ns vs) e
   else if e.op = 14 then (evalX p n own ns vs e.args[0]!).bind fun v => (match fieldV v.names v.values e.s with | some x => if v.kind = 2 then .ok x else .er 13 | none => .er 13)
   else if e.op = 15 then callX p (evalX p n) own ns vs e
   else worldX p (evalX p n own ns vs) own e : X Val) (tickM m) := by
  show stepX p (evalX p n) own ns vs e m = _
  unfold stepX X.get
  simp only
  rw [if_neg (by omega)]
  have hw : (if e.op = 16 then actX (evalX p n own ns vs e.args[0]!) e else varX p (evalX p n own ns vs) own e) = worldX p (evalX p n own ns vs) own e := rfl
  rw [hw]
  rfl
 have hbm := G.bud
 have G1 : GoodM p (tickM m) := ⟨G.right, by simp only [mu, tickM] at hbm ⊢; omega, G.fr, by simp only [tickM]; omega, G.shape⟩
 have hmu : mu (tickM m) < 1000000 := by simp only [mu, tickM] at hbm ⊢; omega
 have hn1 : (tickM m).fuel ≤ n := by simp only [tickM]; omega
 have hft : (tickM m).fuel ≤ m.fuel := by simp only [tickM]; omega
 have hs1 : Sc p own ns vs (tickM m) := hs.less hft
 by_cases hc : CntOK e
 rotate_left
 ·obtain ⟨h1, R1, e1⟩ := ev_cnt R G hf (scopeAv own ns vs) e hc
  have hc' : argsN e.op = -2 ∨ (argsN e.op ≠ -1 ∧ argsN e.op ≠ e.args.length) := by
   unfold CntOK at hc
   by_cases k : argsN e.op = -2
   ·exact .inl k
   ·right
    exact ⟨fun k2 => hc ⟨k, .inl k2⟩, fun k2 => hc ⟨k, .inr k2⟩⟩
  rw [hspec, if_pos hc']
  exact ⟨h1, e1, R1⟩
 obtain ⟨h1, R1, hl, hst⟩ := step0 R
 have hw : IntKind.i64.wrap (m.fuel - 1) = m.fuel - 1 := wrap_in (by omega) (by simp only [mu] at hbm; omega)
 have hc' : ¬ (argsN e.op = -2 ∨ (argsN e.op ≠ -1 ∧ argsN e.op ≠ e.args.length)) := by
  unfold CntOK at hc
  rintro (k | ⟨k1, k2⟩)
  ·exact hc.1 k
  ·rcases hc.2 with k | k
   ·exact k1 k
   ·exact k2 k
 rw [hspec, if_neg hc']
 have hcc := hc
 have hce := hc.2
 obtain ⟨op, en, es, em, en2, ea⟩ := e
 simp only [op_mk, n_mk, s_mk, args_mk] at hce ⊢
 unfold CntOK at hc
 simp only [op_mk, args_mk] at hc
 generalize hcode : callW pg 50 [.hp 0 0, scopeAv own ns vs, (Exp.mk op en es em en2 ea).av] h = code
 rw [C50] at hcode
 have hW : ∀ v : Val, ∀ h, bnd (cellsNil 4 [] v.av) (fun w => M.pure (AV.agg [nth (acells w) 0, nth (acells w) 1, nth (acells w) 2, nth (acells w) 3])) h = M.pure v.av h := wrap4'
 by_cases k0 : op = 0
 ·subst k0
  have hlen : ea.length = 0 := by simp [argsN] at hce; omega
  obtain rfl := List.eq_nil_of_length_eq_zero hlen
  simp [S50, hl, hst, hf, bnd_must, mustM, hw, t73, argsN, K50_2, K50_1, fold_scope, t74] at hcode
  simp
  rw [← hcode]
  exact out_pure (a := numV en) R1
 by_cases k1 : op = 1
 ·subst k1
  have hlen : ea.length = 0 := by simp [argsN] at hce; omega
  obtain rfl := List.eq_nil_of_length_eq_zero hlen
  simp [S50, hl, hst, hf, bnd_must, mustM, hw, t73, argsN, K50_2, K50_1, fold_scope, t75] at hcode
  simp
  rw [← hcode]
  exact out_ite (fun _ => out_pure (a := truthV (en == 1)) R1) (fun _ => out_er R1)
 by_cases k2 : op = 2
 ·subst k2
  have hlen : ea.length = 0 := by simp [argsN] at hce; omega
  obtain rfl := List.eq_nil_of_length_eq_zero hlen
  have hnl := hs.right.1
  have hns : (ns.length : Int) ≤ 549755813888 := by have := hs.len; omega
  have hloop := loop_var (K50_0 (callW pg) fixW) own ns vs (.mk 2 en es em en2 []) (.int .i64 0) (.int .i64 0) (.sl []) (.sl []) hnl (by omega) ns.length (Nat.le_refl _)
  have hwl : IntKind.i64.wrap ((ns.length : Int) - 1) = (ns.length : Int) - 1 := wrap_in (by omega) (by omega)
  rw [List.take_length, hnl, List.take_length] at hloop
  simp only [acells_exp, op_mk, n_mk, s_mk, m_mk, names_mk, args_mk] at hloop
  simp [S50, hl, hst, hf, bnd_must, mustM, hw, t73, argsN, hwl] at hcode
  rw [hnl, hloop] at hcode
  simp
  rw [← hcode]
  cases lookV ns vs es with
  | none => exact out_er R1
  | some v => exact out_pure R1
 by_cases k3 : op = 3
 ·subst k3
  have hlen : ea.length = 2 := by simp [argsN] at hce; omega
  obtain ⟨a, b, rfl⟩ := len2 hlen
  have ha : expLim a := expLim_arg he (by simp)
  have hb : expLim b := expLim_arg he (by simp)
  simp [S50, hl, hst, hf, bnd_must, mustM, hw, t73, argsN, K50_2, K50_1, fold_scope] at hcode
  simp
  rw [← hcode]
  refine out_bind (IH own ns vs a _ _ R1 G1 hn1 hs1 ha) fun x s1 h2 hx R2 => ?_
  obtain ⟨G2, _, f2⟩ := G1.eval hs1.right hx
  refine out_bind (IH own ns vs b _ _ R2 G2 (by omega) (hs1.less f2) hb) fun y s2 h3 hy R3 => ?_
  rw [t76 3 x y (by simp)]
  exact out_wrap (c := pureX (binX 3 x y)) (pureX_out (binX_pure _ _ _) R3)
 by_cases k4 : op = 4
 ·subst k4
  have hlen : ea.length = 2 := by simp [argsN] at hce; omega
  obtain ⟨a, b, rfl⟩ := len2 hlen
  have ha : expLim a := expLim_arg he (by simp)
  have hb : expLim b := expLim_arg he (by simp)
  simp [S50, hl, hst, hf, bnd_must, mustM, hw, t73, argsN, K50_2, K50_1, fold_scope] at hcode
  simp
  rw [← hcode]
  refine out_bind (IH own ns vs a _ _ R1 G1 hn1 hs1 ha) fun x s1 h2 hx R2 => ?_
  obtain ⟨G2, _, f2⟩ := G1.eval hs1.right hx
  refine out_bind (IH own ns vs b _ _ R2 G2 (by omega) (hs1.less f2) hb) fun y s2 h3 hy R3 => ?_
  rw [t76 4 x y (by simp)]
  exact out_wrap (c := pureX (binX 4 x y)) (pureX_out (binX_pure _ _ _) R3)
 by_cases k5 : op = 5
 ·subst k5
  have hlen : ea.length = 2 := by simp [argsN] at hce; omega
  obtain ⟨a, b, rfl⟩ := len2 hlen
  have ha : expLim a := expLim_arg he (by simp)
  have hb : expLim b := expLim_arg he (by simp)
  simp [S50, hl, hst, hf, bnd_must, mustM, hw, t73, argsN, K50_2, K50_1, fold_scope] at hcode
  simp
  rw [← hcode]
  refine out_bind (IH own ns vs a _ _ R1 G1 hn1 hs1 ha) fun x s1 h2 hx R2 => ?_
  obtain ⟨G2, _, f2⟩ := G1.eval hs1.right hx
  refine out_bind (IH own ns vs b _ _ R2 G2 (by omega) (hs1.less f2) hb) fun y s2 h3 hy R3 => ?_
  rw [t76 5 x y (by simp)]
  exact out_wrap (c := pureX (binX 5 x y)) (pureX_out (binX_pure _ _ _) R3)
 by_cases k6 : op = 6
 ·subst k6
  have hlen : ea.length = 2 := by simp [argsN] at hce; omega
  obtain ⟨a, b, rfl⟩ := len2 hlen
  have ha : expLim a := expLim_arg he (by simp)
  have hb : expLim b := expLim_arg he (by simp)
  simp [S50, hl, hst, hf, bnd_must, mustM, hw, t73, argsN, K50_2, K50_1, fold_scope] at hcode
  simp
  rw [← hcode]
  refine out_bind (IH own ns vs a _ _ R1 G1 hn1 hs1 ha) fun x s1 h2 hx R2 => ?_
  obtain ⟨G2, _, f2⟩ := G1.eval hs1.right hx
  refine out_bind (IH own ns vs b _ _ R2 G2 (by omega) (hs1.less f2) hb) fun y s2 h3 hy R3 => ?_
  rw [t76 6 x y (by simp)]
  exact out_wrap (c := pureX (binX 6 x y)) (pureX_out (binX_pure _ _ _) R3)
 by_cases k7 : op = 7
 ·subst k7
  have hlen : ea.length = 2 := by simp [argsN] at hce; omega
  obtain ⟨a, b, rfl⟩ := len2 hlen
  have ha : expLim a := expLim_arg he (by simp)
  have hb : expLim b := expLim_arg he (by simp)
  simp [S50, hl, hst, hf, bnd_must, mustM, hw, t73, argsN, K50_2, K50_1, fold_scope] at hcode
  simp
  rw [← hcode]
  refine out_bind (IH own ns vs a _ _ R1 G1 hn1 hs1 ha) fun x s1 h2 hx R2 => ?_
  obtain ⟨G2, _, f2⟩ := G1.eval hs1.right hx
  refine out_bind (IH own ns vs b _ _ R2 G2 (by omega) (hs1.less f2) hb) fun y s2 h3 hy R3 => ?_
  rw [t76 7 x y (by simp)]
  exact out_wrap (c := pureX (binX 7 x y)) (pureX_out (binX_pure _ _ _) R3)
 by_cases k8 : op = 8
 ·subst k8
  have hlen : ea.length = 2 := by simp [argsN] at hce; omega
  obtain ⟨a, b, rfl⟩ := len2 hlen
  have ha : expLim a := expLim_arg he (by simp)
  have hb : expLim b := expLim_arg he (by simp)
  simp [S50, hl, hst, hf, bnd_must, mustM, hw, t73, argsN, K50_2, K50_1, fold_scope] at hcode
  simp
  rw [← hcode]
  refine out_bind (IB own ns vs a _ _ R1 G1 hn1 hs1 ha) fun x s1 h2 hx R2 => ?_
  obtain ⟨G2, f2⟩ := G1.bool hs1.right hx
  rw [eq_bool]
  simp only [bnd_some, condM_bool]
  cases x
  ·simp [t75]
   exact out_pure R2
  ·simp
   refine out_bind (IB own ns vs b _ _ R2 G2 (by omega) (hs1.less f2) hb) fun y s2 h3 hy R3 => ?_
   simp only [t75, noPan_pure, bnd_pure, hW]
   exact out_pure R3
 by_cases k9 : op = 9
 ·subst k9
  have hlen : ea.length = 2 := by simp [argsN] at hce; omega
  obtain ⟨a, b, rfl⟩ := len2 hlen
  have ha : expLim a := expLim_arg he (by simp)
  have hb : expLim b := expLim_arg he (by simp)
  simp [S50, hl, hst, hf, bnd_must, mustM, hw, t73, argsN, K50_2, K50_1, fold_scope] at hcode
  simp
  rw [← hcode]
  refine out_bind (IB own ns vs a _ _ R1 G1 hn1 hs1 ha) fun x s1 h2 hx R2 => ?_
  obtain ⟨G2, f2⟩ := G1.bool hs1.right hx
  rw [eq_bool]
  simp only [bnd_some, condM_bool]
  cases x
  ·simp
   refine out_bind (IB own ns vs b _ _ R2 G2 (by omega) (hs1.less f2) hb) fun y s2 h3 hy R3 => ?_
   simp only [t75, noPan_pure, bnd_pure, hW]
   exact out_pure R3
  ·simp [t75]
   exact out_pure R2
 by_cases k10 : op = 10
 ·subst k10
  have hlen : ea.length = 1 := by simp [argsN] at hce; omega
  obtain ⟨a, rfl⟩ := len1 hlen
  have ha : expLim a := expLim_arg he (by simp)
  simp [S50, hl, hst, hf, bnd_must, mustM, hw, t73, argsN, K50_2, K50_1, fold_scope] at hcode
  simp
  rw [← hcode]
  refine out_bind (IB own ns vs a _ _ R1 G1 hn1 hs1 ha) fun x s1 h2 hx R2 => ?_
  simp only [unA_not, bnd_some, t75, noPan_pure, bnd_pure, hW]
  exact out_pure R2
 by_cases k11 : op = 11
 ·subst k11
  have hlen : ea.length = 3 := by simp [argsN] at hce; omega
  obtain ⟨a, b, c, rfl⟩ := len3 hlen
  have ha : expLim a := expLim_arg he (by simp)
  have hb : expLim b := expLim_arg he (by simp)
  have hc3 : expLim c := expLim_arg he (by simp)
  simp [S50, hl, hst, hf, bnd_must, mustM, hw, t73, argsN, K50_2, K50_1, fold_scope] at hcode
  simp
  rw [← hcode]
  refine out_bind (IB own ns vs a _ _ R1 G1 hn1 hs1 ha) fun x s1 h2 hx R2 => ?_
  obtain ⟨G2, f2⟩ := G1.bool hs1.right hx
  simp only [condM_bool]
  exact out_ite (fun _ => out_wrap (IH own ns vs b _ _ R2 G2 (by omega) (hs1.less f2) hb)) (fun _ => out_wrap (IH own ns vs c _ _ R2 G2 (by omega) (hs1.less f2) hc3))
 by_cases k12 : op = 12
 ·subst k12
  have hlen : ea.length = 2 := by simp [argsN] at hce; omega
  obtain ⟨a, b, rfl⟩ := len2 hlen
  have ha : expLim a := expLim_arg he (by simp)
  have hb : expLim b := expLim_arg he (by simp)
  simp [S50, hl, hst, hf, bnd_must, mustM, hw, t73, argsN, K50_2, K50_1, fold_scope] at hcode
  simp
  rw [← hcode]
  refine out_bind (IH own ns vs a _ _ R1 G1 hn1 hs1 ha) fun x s1 h2 hx R2 => ?_
  obtain ⟨G2, rx, f2⟩ := G1.eval hs1.right hx
  have hsl := hs1.len
  have hrl := hs1.right.1
  have hfu := G1.fuel
  rw [t70 own ns vs es x (by omega) (by omega)]
  simp only [noPan_pure, bnd_pure]
  refine out_wrap (IH own (ns ++ [es]) (vs ++ [x]) b _ _ R2 G2 (by omega) ⟨hs1.own, ⟨by simp [hrl], fun w hw => ?_⟩, ?_⟩ hb)
  ·rcases List.mem_append.1 hw with k | k
   ·exact hs1.right.2 w k
   ·simp only [List.mem_singleton] at k; subst k; exact rx
  ·have : (tickM m).fuel = m.fuel - 1 := rfl
   have := hs.len
   simp only [List.length_append, List.length_singleton]
   omega
 by_cases k13 : op = 13
 ·subst k13
  simp [S50, hl, hst, hf, bnd_must, mustM, hw, t73, argsN, K50_2, K50_1, fold_scope, fold_exp'] at hcode
  simp
  rw [← hcode]
  exact out_wrap (IR own ns vs _ _ _ R1 G1 hn1 hs1 he)
 by_cases k14 : op = 14
 ·subst k14
  have hlen : ea.length = 1 := by simp [argsN] at hce; omega
  obtain ⟨a, rfl⟩ := len1 hlen
  have ha : expLim a := expLim_arg he (by simp)
  simp [S50, hl, hst, hf, bnd_must, mustM, hw, t73, argsN, K50_2, K50_1, fold_scope] at hcode
  simp
  rw [← hcode]
  refine out_bind (IH own ns vs a _ _ R1 G1 hn1 hs1 ha) fun x s1 h2 hx R2 => ?_
  obtain ⟨G2, rx, f2⟩ := G1.eval hs1.right hx
  have hrl := right_lens rx
  have h8 := right_len8 rx
  have hi := t79 x.names es (by omega)
  rw [cellsM_of (okEl_val x)]
  simp only [bnd_pure, acells_agg, acells_val, List.drop_succ_cons, List.drop_zero, LD25, LD23, LD3, bnd_some, hi, bin_eql, bin_geq, guardM_pure1, nth_zero, pickA_and, bnd_must, mustM]
  rcases fieldV_idx x.names x.values es 0 hrl with ⟨j1, j2⟩ | ⟨k, hk, j1, j2⟩
  ·rw [j1, j2]
   simp only [show decide ((0 : Int) ≤ -1) = false by decide, Bool.and_false, Bool.false_eq_true, if_false]
   exact out_er R2
  ·rw [j1, j2]
   have hk0 : decide ((0 : Int) ≤ 0 + (k : Int)) = true := by simp
   rw [hk0]
   simp only [Bool.and_true]
   by_cases hk2 : x.kind = 2
   ·have hix := IX23 (l := x.values) (n := 0 + (k : Int)) (by omega) (by omega)
    have e5 : (0 + (k : Int)).toNat = k := by omega
    rw [e5, getElem!_pos x.values k hk] at hix
    have hld : loadA T 39 (.ip (acells (x.values[k]).av)) = some (x.values[k]).av := by simp
    simp only [hk2, beq_self_eq_true, if_true, hix, bnd_some, hld, hW]
    exact out_pure R2
   ·have hk2' : (x.kind == 2) = false := by simpa using hk2
    simp only [hk2, hk2', Bool.false_eq_true, if_false]
    exact out_er R2
 by_cases k15 : op = 15
 ·subst k15
  simp [S50, hl, hst, hf, bnd_must, mustM, hw, t73, argsN, K50_2, K50_1, fold_scope, fold_exp'] at hcode
  simp
  rw [← hcode]
  exact out_wrap (IC own ns vs _ _ _ R1 G1 hmu hn1 hs1 he)
 by_cases k16 : op = 16
 ·subst k16
  simp [S50, hl, hst, hf, bnd_must, mustM, hw, t73, argsN, K50_2, K50_1, K50_0, fold_scope, fold_exp'] at hcode
  have hce' : argsN 16 = ea.length := by simp only [argsN] at hce ⊢; simpa using hce
  simp only [argsN] at hce'
  simp at hce'
  simp [← hce'] at hcode
  simp
  rw [← hcode]
  exact out_wrap (IW own ns vs (.mk 16 en es em en2 ea) _ _ (by simp) hcc R1 G1 hmu hn1 hs1 he)
 by_cases k17 : op = 17
 ·subst k17
  simp [S50, hl, hst, hf, bnd_must, mustM, hw, t73, argsN, K50_2, K50_1, K50_0, fold_scope, fold_exp'] at hcode
  have hce' : argsN 17 = ea.length := by simp only [argsN] at hce ⊢; simpa using hce
  simp only [argsN] at hce'
  simp at hce'
  simp [← hce'] at hcode
  simp
  rw [← hcode]
  exact out_wrap (IW own ns vs (.mk 17 en es em en2 ea) _ _ (by simp) hcc R1 G1 hmu hn1 hs1 he)
 by_cases k18 : op = 18
 ·subst k18
  simp [S50, hl, hst, hf, bnd_must, mustM, hw, t73, argsN, K50_2, K50_1, K50_0, fold_scope, fold_exp'] at hcode
  have hce' : argsN 18 = ea.length := by simp only [argsN] at hce ⊢; simpa using hce
  simp only [argsN] at hce'
  simp at hce'
  simp [← hce'] at hcode
  simp
  rw [← hcode]
  exact out_wrap (IW own ns vs (.mk 18 en es em en2 ea) _ _ (by simp) hcc R1 G1 hmu hn1 hs1 he)
 exfalso
 apply hc.1
 simp [argsN, k0, k1, k2, k3, k4, k5, k6, k7, k8, k9, k10, k11, k12, k13, k14, k15, k16, k17, k18]
end Go.Proofs.Ytgbopmciiadmlaa

namespace Go.Proofs.Ytgbopmciiadmlaa
open Go Go.Av Go.Av.Ap
theorem xbind_assoc {α β γ : Type} (x : X α) (f : α → X β) (g : β → X γ) : (x.bind f).bind g = x.bind fun a => (f a).bind g := by
 funext m
 unfold X.bind
 cases x m <;> rfl
theorem xbind_ok {α β : Type} (a : α) (f : α → X β) : (X.ok a).bind f = f a := rfl
theorem t96 (l : List Str) (h : l.length ≤ 8796093022208) : callW pg 96 [strs l] = M.pure (strs l) := by
 have e : callW pg 96 [strs l] = cloneV T 25 (callW pg) [strs l] := callW_other hOther rfl _
 rw [e]
 show lft (appA T 25 (.sl []) (strs l)) = _
 have := AP25 (a := []) (b := l) (by simp; omega)
 simp only [List.nil_append] at this
 show lft (appA T 25 (strs []) (strs l)) = _
 rw [this]
 rfl
theorem loop_rec {p : List Mod} {nm : SNm} {n : Nat} (IH : EvOK p nm n) (own : Int) (ns : List Str) (vs : List Val) (en : List Str) (es : List Exp) (x5 x6 x7 x8 : AV) (hes : ∀ e ∈ es, expLim e) (h8 : es.length ≤ 8) :
  ∀ (B A : List Exp) (acc : List Val) (m : Ms) (h : Hp), A ++ B = es → acc.length = A.length → (∀ v ∈ acc, Rv v) → en.length ≤ 8 → RepP p nm m h → GoodM p m → m.fuel ≤ n → Sc p own ns vs m →
  OutG p nm Val.av ((listX (evalX p n own ns vs) B).bind (fun ws => if levelV (.mk 2 0 en (acc ++ ws)) ≤ 4 then .ok (.mk 2 0 en (acc ++ ws)) else .er 6) m)
   (fixW (L78_0 (callW pg) fixW) [.hp 0 0, .ip (acells (scopeAv own ns vs)), exps es, .int .i64 es.length, .int .i64 A.length, x5, x6, x7, x8, .int .i64 2, .int .i64 0, strs en, vals acc] h)
 | [], A, acc, m, h, e, ha, hr, hen, R, G, hn, hs => by
  simp only [List.append_nil] at e
  subst e
  have hsz : (Val.mk 2 0 en acc).sz ≤ 1099511627776 := by
   have h2 : valsSz acc ≤ acc.length * 200000 := by
    have key : ∀ l : List Val, (∀ v ∈ l, Rv v) → valsSz l ≤ l.length * 200000 := by
     intro l
     induction l with
     | nil => intro _; simp [valsSz]
     | cons v l ih =>
      intro h
      have h1 := right_sz (h v List.mem_cons_self)
      have h2 := ih fun w hw => h w (List.mem_cons_of_mem _ hw)
      simp only [valsSz, List.length_cons]
      omega
    exact key acc hr
   simp only [Val.sz]
   have : acc.length * 200000 ≤ 8 * 200000 := Nat.mul_le_mul_right _ (by omega)
   omega
  have hlv := t97 _ (.mk 2 0 en acc) (Nat.le_refl _) hsz
  rw [Val.av_eq] at hlv
  simp only [Val.kind_mk, Val.n_mk, Val.names_mk, Val.values_mk] at hlv
  have hw : ∀ h, bnd (cellsNil 4 [] (AV.agg [.int .i64 2, .int .i64 0, strs en, vals acc])) (fun w => M.pure (AV.agg [nth (acells w) 0, nth (acells w) 1, nth (acells w) 2, nth (acells w) 3])) h = M.pure (Val.mk 2 0 en acc).av h := fun h => by
   have := wrap4' (Val.mk 2 0 en acc) h
   rw [Val.av_eq] at this ⊢
   exact this
  rw [FL78_0]
  simp only [listX, xbind_ok, List.append_nil]
  simp only [L78_0, nth_zero, nth_succ, bin_lss, bnd_some, condM_bool, Int.lt_irrefl, decide_false, Bool.false_eq_true, if_false, hlv, bnd_pure, bin_leq, bnd_must, mustM]
  by_cases h4 : levelV (.mk 2 0 en acc) ≤ 4
  ·have h4' : decide (((levelV (.mk 2 0 en acc) : Nat) : Int) ≤ 4) = true := by simp; omega
   simp only [h4, h4', if_true, hw]
   exact out_pure R
  ·have h4' : decide (((levelV (.mk 2 0 en acc) : Nat) : Int) ≤ 4) = false := by simp; omega
   simp only [h4, h4', Bool.false_eq_true, if_false]
   exact out_er R
 | x :: B, A, acc, m, h, e, ha, hr, hen, R, G, hn, hs => by
  have hll : A.length + (B.length + 1) = es.length := by rw [← e]; simp
  have h1 : (A.length : Int) < (es.length : Int) := by omega
  have hx : es[A.length]'(by omega) = x := by subst e; simp
  have hm : x ∈ es := by rw [← e]; simp
  have hi := IX26 (l := es) (n := (A.length : Int)) (by omega) h1
  rw [show ((A.length : Int)).toNat = A.length by omega, getElem!_pos es A.length (by omega), hx] at hi
  have hsc : loadA T 98 (.ip (acells (scopeAv own ns vs))) = some (scopeAv own ns vs) := rfl
  have hex : loadA T 28 (.ip (acells x.av)) = some x.av := by simp
  rw [FL78_0]
  simp only [listX, xbind_assoc, xbind_ok]
  simp only [L78_0, nth_zero, nth_succ, bin_lss, bnd_some, condM_bool, h1, decide_true, if_true, hi, hex, cellsM_of (okEl_exp x), bnd_pure, hsc, acells_agg]
  refine out_bind (IH own ns vs x m h R G hn hs (hes x hm)) fun v s h' hv Rs => ?_
  obtain ⟨G2, rv, f2⟩ := G.eval hs.right hv
  have hb2 : buildSliceA T 23 1 [(0, v.av)] = some (vals [v]) := by rw [v.av_eq]; simp [vals, valsAv, v.av_eq]; rfl
  have ha2 : appA T 23 (vals acc) (vals [v]) = some (vals (acc ++ [v])) := AP23 (by simp; omega)
  have hc1 : cell1M (vals (acc ++ [v])) = M.pure (vals (acc ++ [v])) := rfl
  have hw : IntKind.i64.wrap ((A.length : Int) + 1) = ((A.length + 1 : Nat) : Int) := wrap_add1 (by omega)
  simp only [hb2, bnd_some, ha2, hc1, bnd_pure, bin_add, hw]
  have ih := loop_rec IH own ns vs en es x5 x6 x7 x8 hes h8 B (A ++ [x]) (acc ++ [v]) s h' (by rw [← e]; simp) (by simp [ha]) (fun w hw => by
   rcases List.mem_append.1 hw with k | k
   ·exact hr w k
   ·simp only [List.mem_singleton] at k; subst k; exact rv) hen Rs G2 (by omega) (hs.less f2)
  simp only [List.append_assoc, List.singleton_append, List.length_append, List.length_singleton] at ih
  exact ih
theorem t78 {p : List Mod} {nm : SNm} {n : Nat} (IH : EvOK p nm n) : RecOK p nm n := by
 intro own ns vs e m h R G hn hs he
 obtain ⟨l1, l2⟩ := expLim_names he
 unfold recordX
 have ha := t89 e.names (by omega)
 have hcl := t96 e.names (by omega)
 have hB : buildA T true 39 [(0, .int .i64 2), (2, strs e.names)] = some (.agg [.int .i64 2, .int .i64 0, strs e.names, .hn]) := rfl
 have hC : cellsNil 4 [3] (.agg [.int .i64 2, .int .i64 0, strs e.names, .hn]) = M.pure (.agg [.int .i64 2, .int .i64 0, strs e.names, .hn]) := rfl
 rw [C78]
 simp only [S78, acells_exp, FA28_4, FA28_5, List.drop_succ_cons, List.drop_zero, LD25, LD26, LENE25, LENE26, bnd_some, bin_eql, ha, bnd_pure, guardM_pure1, nth_zero, nth_succ, pickA_and, bnd_must, mustM, bin_leq, hcl, hB, hC, acells_agg]
 have hsc : (AV.ip (acells (scopeAv own ns vs))) = .ip [.int .i64 own, strs ns, vals vs] := rfl
 by_cases hl : e.names.length = e.args.length
 ·by_cases hasc : asc e.names = true
  ·have e1 : ((e.names.length : Int) == (e.args.length : Int) && asc e.names) = true := by simp [hl, hasc]
   simp only [hl, hasc, and_self, if_true]
   by_cases h8 : e.args.length ≤ 8
   ·have h8' : decide ((e.args.length : Int) ≤ 8) = true := by simp; omega
    have e2 : ((e.args.length : Int) == (e.args.length : Int) && true) = true := by simp
    simp only [h8, h8', e2, if_true]
    have := loop_rec IH own ns vs e.names e.args (.int .i64 0) (.int .i64 0) (.sl []) (.sl []) (fun x hx => expLim_arg he hx) h8 e.args [] [] m h rfl rfl (fun v hv => by cases hv) (by omega) R G hn hs
    simp only [List.nil_append] at this
    exact this
   ·have h8' : decide ((e.args.length : Int) ≤ 8) = false := by simp; omega
    have e2 : ((e.args.length : Int) == (e.args.length : Int) && true) = true := by simp
    simp only [h8, h8', e2, if_true, Bool.false_eq_true, if_false]
    exact out_er R
  ·have e1 : ((e.names.length : Int) == (e.args.length : Int) && false) = false := by simp
   have hasc' : asc e.names = false := by simpa using hasc
   simp only [e1, hasc', and_false, Bool.false_eq_true, if_false]
   exact out_er R
 ·have e1 : ((e.names.length : Int) == (e.args.length : Int) && asc e.names) = false := by
   have : ((e.names.length : Int) == (e.args.length : Int)) = false := by
    rw [beq_eq_false_iff_ne]
    omega
   rw [this]
   rfl
  simp only [e1, hl, false_and, Bool.false_eq_true, if_false]
  exact out_er R
end Go.Proofs.Ytgbopmciiadmlaa

namespace Go.Proofs.Ytgbopmciiadmlaa
open Go Go.Av Go.Av.Ap
theorem okEl_call3 (s t : Str) (v : AV) (h : okCell v = true) : okEl 3 (.agg [.str s, .str t, v]) = true := by
 simp only [okEl, sizeA, acells, List.all_cons, List.all_nil]
 rw [h]
 rfl
theorem clone_args {p : List Mod} {nm : SNm} {tag : Nat → Nat} {dv cv sv : AV} {m : Ms} {h : Hp} (R : RepT (rowP p nm.told) nm tag dv cv sv m h) (l : List Val) (hb : l.length ≤ 274877906944) :
  ∃ av h1 tag1, callW pg 39 [vals l] h = .ok av h1 ∧ RepT (rowP p nm.told) nm tag1 dv cv sv m h1 ∧ ArgR tag1 4 h1 l av ∧ okCell av = true := by
 have e0 : callW pg 39 [vals l] = cloneH T 23 (callW pg) [vals l] := callW_other hOther rfl _
 have e1 := cloneH_vals (T := T) (t := 23) rfl rfl rfl rfl rfl (by decide) (callW pg) l (show l.length * 64 ≤ 140737488355328 by omega) h
 rw [e0]
 by_cases hl : l = []
 ·rw [if_pos hl] at e1
  exact ⟨_, h, tag, e1, R, .inl (by rw [hl]), rfl⟩
 ·rw [if_neg hl] at e1
  refine ⟨_, _, _, e1, (R.more (valCells l) 4).1, .inr ⟨h.length, rfl, by simp, by simp⟩, rfl⟩
theorem push_call {p : List Mod} {nm : SNm} {tag : Nat → Nat} {dv cv sv : AV} {m : Ms} {h : Hp} (R : RepT (rowP p nm.told) nm tag dv cv sv m h) (c : Ap.Call) (av : AV) (ha : ArgR tag 4 h c.args av) (hok : okCell av = true) (hb : m.calls.length ≤ 2000000) :
  ∃ cv' h1 h2, appH T 41 false cv (.sl [.agg [.str c.module, .str c.func, av]]) h = .ok cv' h1 ∧ storeH T 41 (.hp 0 10) cv' h1 = .ok (.tup []) h2 ∧ RepP p nm { m with calls := m.calls ++ [c] } h2 := by
 obtain ⟨h1, cv', tag', e1, K, H, hc⟩ := push_row (T := T) (t := 41) rfl rfl rfl rfl (by decide) rfl (by decide) (x := .agg [.str c.module, .str c.func, av]) R.cs (fun h0 => by
  have : m.calls = [] := List.eq_nil_of_length_eq_zero h0
  rw [this]; rfl) (fun cs h => h.ok.1) (okEl_call3 _ _ _ hok) (show (m.calls.length + 1) * 56 ≤ 140737488355328 by omega)
 have h0 := (K 0 _ R.r0 (by rw [R.t0]; decide)).1
 refine ⟨cv', h1, _, e1, storeH_ok rfl h0 (okCell_one hc).1 (show 10 + 1 ≤ 12 by decide) (by decide), ?_⟩
 have hac : acells cv' = [cv'] := (okCell_one hc).2.1
 have := R.pushCall (m' := { m with calls := m.calls ++ [c] }) K ha H rfl rfl rfl id
 refine ⟨tag', dv, cv', sv, ?_⟩
 rw [hac]
 exact this
theorem set_frames {p : List Mod} {nm : SNm} {m : Ms} {h : Hp} (R : RepP p nm m h) (x : Int) : ∃ h1, RepP p nm { m with frames := x } h1 ∧ (∀ f : AV → M AV, bnd (loadH T 3 (.hp 0 3)) f h = f (.int .i64 m.frames) h) ∧
  (∀ f : AV → M AV, bnd (storeH T 3 (.hp 0 3) (.int .i64 x)) f h = f (.tup []) h1) := by
 obtain ⟨tag, dv, cv, sv, R⟩ := R
 exact ⟨_, ⟨tag, dv, cv, sv, R.set0 rfl rfl rfl id⟩, fun f => bnd_ok (loadH_one rfl rfl R.r0 rfl), fun f => bnd_ok (storeH_ok rfl R.r0 rfl (show 3 + 1 ≤ 12 by decide) (by decide))⟩
theorem loop_bind (f : Fun) (a : Int) (ps : List Fld) (l : List Val) (x6 x7 x8 x9 : AV) (hb : ps.length ≤ 274877906944) (hl : l.length = ps.length) : ∀ (B A : List Fld) (lb la : List Val), A ++ B = ps → la ++ lb = l → la.length = A.length →
  fixW (L42_0 (callW pg) fixW) [.hp 0 0, vals l, .ip (acells f.av), flds ps, .int .i64 ps.length, .int .i64 A.length, x6, x7, x8, x9, .int .i64 a, strs (A.map (·.1)), vals la] =
  fixW (L42_0 (callW pg) fixW) [.hp 0 0, vals l, .ip (acells f.av), flds ps, .int .i64 ps.length, .int .i64 ps.length, x6, x7, x8, x9, .int .i64 a, strs (ps.map (·.1)), vals l]
 | [], A, lb, la, e, e2, hla => by
  simp only [List.append_nil] at e
  subst e
  have hz : lb = [] := by
   apply List.eq_nil_of_length_eq_zero
   have : (la ++ lb).length = l.length := by rw [e2]
   rw [List.length_append] at this
   omega
  rw [hz, List.append_nil] at e2
  rw [e2]
 | x :: B, A, lb, la, e, e2, hla => by
  have hll : A.length + (B.length + 1) = ps.length := by rw [← e]; simp
  have h1 : (A.length : Int) < (ps.length : Int) := by omega
  have hx : ps[A.length]'(by omega) = x := by subst e; simp
  obtain ⟨v, lb', rfl⟩ : ∃ v lb', lb = v :: lb' := by
   cases lb with
   | nil =>
    have : (la ++ ([] : List Val)).length = l.length := by rw [e2]
    simp at this
    omega
   | cons v lb' => exact ⟨v, lb', rfl⟩
  have hv : l[A.length]'(by omega) = v := by
   subst e2
   rw [List.getElem_append_right (by omega)]
   simp [hla]
  have hi := IX58 (l := ps) (n := (A.length : Int)) (by omega) h1
  rw [show ((A.length : Int)).toNat = A.length by omega, getElem!_pos ps A.length (by omega), hx] at hi
  have hj := IX23 (l := l) (n := (A.length : Int)) (by omega) (by omega)
  rw [show ((A.length : Int)).toNat = A.length by omega, getElem!_pos l A.length (by omega), hv] at hj
  have hfl : loadA T 104 (.ip [.str x.1, .int .i64 x.2.kind, flds x.2.fields]) = some (fldAv x) := by simp
  have hvl : loadA T 39 (.ip (acells v.av)) = some v.av := by simp
  have hw : IntKind.i64.wrap ((A.length : Int) + 1) = ((A.length + 1 : Nat) : Int) := wrap_add1 (by omega)
  have hbd := t70 a (A.map (·.1)) la x.1 v (by simp; omega) (by omega)
  have ih := loop_bind f a ps l x6 x7 x8 x9 hb hl B (A ++ [x]) lb' (la ++ [v]) (by rw [← e]; simp) (by rw [← e2]; simp) (by simp [hla])
  simp only [List.map_append, List.map_cons, List.map_nil, List.length_append, List.length_singleton] at ih
  rw [← ih, FL42_0]
  simp only [L42_0, nth_zero, nth_succ, bin_lss, bnd_some, condM_bool, h1, decide_true, if_true, hi, hfl, cellsM_of (okEl_fld x), bnd_pure, acells_agg, acells_fld, FA104_0, List.drop_zero, LD9, hj, hvl, fold_scope, hbd, noPan_pure, cellsNil_of (okEl_scope _ _ _), acells_scope, bin_add, hw]
def EnterOK (p : List Mod) (nm : SNm) (n : Nat) : Prop := ∀ (a : Int) (f : Fun) (l : List Val) m h, 0 ≤ a → a < p.length → f ∈ (p[a.toNat]?.getD default).funcs → l.length = f.params.length → (∀ v ∈ l, Rv v) → RepP p nm m h → GoodM p m → mu m < 1000000 → m.fuel ≤ n →
 OutG p nm Val.av (enterX p (evalX p n) a f l m) (callW pg 42 [.hp 0 0, .int .i64 a, f.av, vals l] h)
end Go.Proofs.Ytgbopmciiadmlaa

namespace Go.Proofs.Ytgbopmciiadmlaa
open Go Go.Av Go.Av.Ap
theorem build_call (s t : Str) (v : AV) (h : okCell v = true) : buildA T false 69 [(0, .str s), (1, .str t), (2, v)] = some (.agg [.str s, .str t, v]) := by
 have hc := okCell_one h
 show (fillA _ _ [(0, .str s), (1, .str t), (2, v)]).map AV.agg = _
 simp only [fillA]
 have h2 := hc.2.2
 have h3 := hc.2.1
 cases v with
 | any => cases h
 | agg _ => cases h
 | tup _ => cases h
 | _ => rfl
theorem buildS_call (x : AV) (hx : sizeA x = some 3) : buildSliceA T 41 1 [(0, x)] = some (.sl [x]) := by
 have h1 : buildSliceA T 41 1 [(0, x)] = (fillEls 3 (List.replicate 1 (.agg [.str [], .str [], .sl []])) [(0, x)]).map .sl := rfl
 rw [h1]
 simp only [fillEls, hx, List.length_replicate]
 rfl
theorem enter_tail {p : List Mod} {nm : SNm} {n : Nat} (LB : LimB p) (IH : EvOK p nm n) (a : Int) (f : Fun) (l : List Val) (m : Ms) (h0 : 0 ≤ a) (ha : a < p.length) (hf : f ∈ (p[a.toNat]?.getD default).funcs) (hl : l.length = f.params.length) (hr : ∀ v ∈ l, Rv v) (G : GoodM p m) (hmu : mu m < 1000000) (hn : m.fuel ≤ n) :
  ∀ (m1 : Ms) (h1 : Hp), RepP p nm m1 h1 → m1 = { m with calls := if f.pub = true then m.calls ++ [⟨(p[a.toNat]?.getD default).name, f.name, l⟩] else m.calls } → m.frames < 60 →
   OutG p nm Val.av (((evalX p n a (f.params.map (·.1)) l f.body).bind fun v => .upd (fun m => { m with frames := m.frames - 1 }) (.ok v)) (entM p a f l m))
    (K42_0 (callW pg) fixW [.hp 0 0, .int .i64 a, vals l, .ip (acells f.av), .int .i64 0, .int .i64 0, .sl [], .sl []] h1) := by
 have hlt : a.toNat < p.length := by omega
 have hmp : p[a.toNat]?.getD default ∈ p := by rw [List.getElem?_eq_getElem hlt]; exact List.getElem_mem hlt
 obtain ⟨hbody, hparams⟩ := LB.body _ hmp f hf
 have hfb := G.bud
 have hfu := G.fuel
 have hfr := G.fr
 intro m1 h1 R1 e1 h60
 have hB : buildA T false 98 [(0, .int .i64 a)] = some (scopeAv a [] []) := rfl
 have hcell := cellsNil_of (okEl_scope a [] [])
 have hloop := loop_bind f a f.params l (.int .i64 0) (.int .i64 0) (.sl []) (.sl []) hparams hl f.params [] l [] rfl rfl rfl
 have hw1 : IntKind.i64.wrap (m.frames + 1) = m.frames + 1 := wrap_in (by omega) (by omega)
 obtain ⟨h2, R2, l2, s2⟩ := set_frames R1 (m.frames + 1)
 have e2 : { m1 with frames := m.frames + 1 } = entM p a f l m := by rw [e1]; rfl
 have hm1f : m1.frames = m.frames := by rw [e1]
 rw [e2] at R2
 rw [hm1f] at l2
 have hld : loadA T 58 (.ip (flds f.params :: [.int .i64 f.result.kind, flds f.result.fields, .int .i64 f.effects, .int .i64 f.body.op, .int .i64 f.body.n, .str f.body.s, .str f.body.m, strs f.body.names, exps f.body.args])) = some (flds f.params) := rfl
 have hex : loadA T 28 (.ip [.int .i64 f.body.op, .int .i64 f.body.n, .str f.body.s, .str f.body.m, strs f.body.names, exps f.body.args]) = some f.body.av := by
  have : loadA T 28 (.ip (acells f.body.av)) = some f.body.av := by simp
  rwa [acells_exp] at this
 simp only [List.map_nil, List.length_nil] at hloop
 have hz : ((0 : Nat) : Int) = 0 := rfl
 rw [hz] at hloop
 have hm2 : (if f.pub = true then m.calls ++ [(⟨(p[a.toNat]?.getD default).name, f.name, l⟩ : Ap.Call)] else m.calls).length ≤ m.calls.length + 1 := by
  split
  ·simp
  ·omega
 have G2 : GoodM p (entM p a f l m) := by
  refine ⟨⟨G.right.1, fun c hc => ?_⟩, ?_, by simp only [entM]; omega, hfu, G.shape⟩
  ·simp only [entM] at hc
   split at hc
   ·rcases List.mem_append.1 hc with k | k
    ·exact G.right.2 c k
    ·simp only [List.mem_singleton] at k
     subst k
     exact hr
   ·exact G.right.2 c hc
  ·simp only [mu, entM] at hmu ⊢
   omega
 simp only [K42_0, nth_zero, nth_succ, hB, bnd_some, hcell, bnd_pure, acells_agg, acells_scope, acells_fun, FA67_2, List.drop_succ_cons, List.drop_zero, hld, LENE58] at hloop ⊢
 rw [show strs [] = strs [] from rfl] at hloop
 rw [hloop, FL42_0]
 simp only [L42_0, nth_zero, nth_succ, bin_lss, bnd_some, condM_bool, Int.lt_irrefl, decide_false, Bool.false_eq_true, if_false, nilChkA_hp, FH81_3, Nat.zero_add, l2, bin_add, hw1, s2, FA67_5, List.drop_succ_cons, List.drop_zero, hex, fold_scope]
 have hns : ((f.params.map (·.1)).length : Int) + (entM p a f l m).fuel ≤ 549755813888 := by
  simp only [List.length_map, entM]
  simp only [mu] at hfb
  omega
 refine out_bind (IH a (f.params.map (·.1)) l f.body _ _ R2 G2 hn ⟨ha, ⟨by simp [hl], hr⟩, hns⟩ hbody) fun v s h3 hv R3 => ?_
 obtain ⟨G3, _, _⟩ := G2.eval ⟨by simp [hl], hr⟩ hv
 obtain ⟨h4, R4, l4, s4⟩ := set_frames R3 (s.frames - 1)
 have hfr3 := G3.fr
 have hw2 : IntKind.i64.wrap (s.frames - 1) = s.frames - 1 := wrap_in (by omega) (by omega)
 have hvl : loadA T 39 (.ip (acells v.av)) = some v.av := by simp
 simp only [cellsM_of (okEl_val v), bnd_pure, acells_agg, bnd_some, l4, bin_sub, hw2, s4, hvl]
 have e9 : _ = Av.R.ok v.av h4 := wrap4' v h4
 rw [e9]
 exact ⟨h4, rfl, R4⟩
theorem t42 {p : List Mod} {nm : SNm} {n : Nat} (LB : LimB p) (IH : EvOK p nm n) : EnterOK p nm n := by
 intro a f l m h h0 ha hf hl hr R G hmu hn
 have hlt : a.toNat < p.length := by omega
 have hmp : p[a.toNat]?.getD default ∈ p := by rw [List.getElem?_eq_getElem hlt]; exact List.getElem_mem hlt
 obtain ⟨hbody, hparams⟩ := LB.body _ hmp f hf
 have hfb := G.bud
 have hfu := G.fuel
 have hfr := G.fr
 have tail := enter_tail LB IH a f l m h0 ha hf hl hr G hmu hn
 simp only [acells_fun] at tail
 obtain ⟨tag, dv, cv, sv, R0⟩ := R
 have l3 : ∀ g : AV → M AV, bnd (loadH T 3 (.hp 0 3)) g h = g (.int .i64 m.frames) h := fun g => bnd_ok (loadH_one rfl rfl R0.r0 rfl)
 have lc : ∀ g : AV → M AV, bnd (loadH T 41 (.hp 0 10)) g h = g cv h := fun g => bnd_ok (loadH_one rfl rfl R0.r0 rfl)
 have lm : ∀ g : AV → M AV, bnd (loadH T 22 (.hp 0 0)) g h = g (mods p) h := fun g => bnd_ok (loadH_one rfl rfl R0.r0 (by rw [← pvOf_ne (t := nm.told) (fun e => by subst e; simp at hlt)]; rfl))
 generalize hcode : callW pg 42 [.hp 0 0, .int .i64 a, f.av, vals l] h = code
 rw [C42] at hcode
 simp -implicitDefEqProofs only [S42, nilChkA_hp, bnd_some, FH81_3, Nat.zero_add, l3, bin_lss, bnd_must, jn_def] at hcode
 by_cases h60 : m.frames < 60
 ·rw [enterX_eq, if_pos h60]
  have hd : decide (m.frames < 60) = true := by simpa using h60
  simp only [hd, mustM, if_true] at hcode
  simp -implicitDefEqProofs only [acells_fun, FA67_1, FA67_0, List.drop_succ_cons, List.drop_zero, LD4, LD9, bnd_some, condM_bool] at hcode
  by_cases hp : f.pub = true
  ·simp only [hp, if_true] at hcode tail
   have hi := IX22 (l := p) (n := a) h0 ha
   rw [getElem!_pos p a.toNat hlt] at hi
   have e3 : p[a.toNat]?.getD default = p[a.toNat] := by rw [List.getElem?_eq_getElem hlt]; rfl
   obtain ⟨av, h1, tag1, c1, R1, A1, ok1⟩ := clone_args R0 l (by omega)
   obtain ⟨cv', h2, h3, p1, p2, R3⟩ := push_call R1 ⟨p[a.toNat].name, f.name, l⟩ av A1 ok1 (by simp only [mu] at hmu; omega)
   have hB : buildA T false 69 [(0, .str p[a.toNat].name), (1, .str f.name), (2, av)] = some (.agg [.str p[a.toNat].name, .str f.name, av]) := build_call _ _ _ ok1
   have hBS := buildS_call (.agg [.str p[a.toNat].name, .str f.name, av]) rfl
   have lc1 : ∀ g : AV → M AV, bnd (loadH T 41 (.hp 0 10)) g h = g cv h := lc
   simp -implicitDefEqProofs only [lc, lm, hi, acells_mod, FA63_0, FH81_0, FH81_4, FH43_3, List.drop_zero, LD9, bnd_some, Nat.zero_add, Nat.reduceAdd] at hcode
   rw [bnd_ok c1] at hcode
   simp only [hB, hBS, bnd_some] at hcode
   rw [bnd_ok p1] at hcode
   rw [bnd_ok p2] at hcode
   rw [← hcode]
   exact tail _ h3 R3 (by rw [e3]) h60
  ·simp only [hp, Bool.false_eq_true, if_false] at hcode tail
   rw [← hcode]
   exact tail m h ⟨tag, dv, cv, sv, R0⟩ rfl h60
 ·rw [enterX_eq, if_neg h60]
  have hd : decide (m.frames < 60) = false := by simpa using h60
  simp only [hd, mustM, Bool.false_eq_true, if_false] at hcode
  rw [← hcode]
  exact ⟨h, rfl, tag, dv, cv, sv, R0⟩
end Go.Proofs.Ytgbopmciiadmlaa
