/- Shallow programs of the functions, part 2: written by a program. No condition. -/
import Derived.Test.YtgbopmciiadmlaaAnn
namespace Go.Proofs.Ytgbopmciiadmlaa
open Go Go.Av
set_option maxRecDepth 100000
/-- lading.ladinglaw19.EvalTells -/
noncomputable def L3_0 (call : FuncId → List AV → M AV) (fx : Fix AV) (v50 : List AV → M AV) (v51 : List AV) : M AV :=
  bnd (lft (lenA T 23 (nth v51 0))) (fun v52 =>
  bnd (lft (binA T BinOp.lss 3 (nth v51 6) v52)) (fun v53 =>
  condM v53 (bnd (lft (indexAddrA T 23 (nth v51 0) (nth v51 6))) (fun v54 =>
  bnd (lft (loadA T 39 v54)) (fun v55 =>
  bnd (noPan (call 21 [v55])) (fun v56 =>
  bnd (lft (indexAddrA T 23 (nth v51 0) (nth v51 6))) (fun v57 =>
  bnd (lft (loadA T 39 v57)) (fun v58 =>
  bnd (noPan (call 22 [v58])) (fun v59 =>
  bnd (lft (binA T BinOp.neq 4 v56 v59)) (fun v60 =>
  bnd (guardM v60 false 1 (bnd (lft (indexAddrA T 23 (nth v51 0) (AV.int IntKind.i64 0))) (fun v61 =>
  bnd (lft (loadA T 39 v61)) (fun v62 =>
  bnd (lft (indexAddrA T 23 (nth v51 0) (nth v51 6))) (fun v63 =>
  bnd (lft (loadA T 39 v63)) (fun v64 =>
  bnd (noPan (call 23 [v62, v64])) (fun v65 =>
  bnd (lft (indexAddrA T 23 (nth v51 0) (AV.int IntKind.i64 0))) (fun v66 =>
  bnd (lft (loadA T 39 v66)) (fun v67 =>
  bnd (lft (indexAddrA T 23 (nth v51 0) (nth v51 6))) (fun v68 =>
  bnd (lft (loadA T 39 v68)) (fun v69 =>
  bnd (noPan (call 24 [v67, v69])) (fun v70 =>
  bnd (lft (binA T BinOp.neq 4 v65 v70)) (fun v71 =>
  M.pure [v71]))))))))))))) (fun v72 =>
  bnd (lft (pickA v60 (AV.bool true) (nth v72 0))) (fun v73 =>
  condM v73 (M.pure (AV.bool false)) (bnd (lft (binA T BinOp.add 3 (nth v51 6) (AV.int IntKind.i64 1))) (fun v74 =>
  v50 [nth v51 0, nth v51 1, nth v51 2, nth v51 3, nth v51 4, nth v51 5, v74])))))))))))) (bnd (guardM (nth v51 1) true 1 (bnd (lft (binA T BinOp.eql 33 (nth v51 3) (nth v51 5))) (fun v75 =>
  M.pure [v75]))) (fun v76 =>
  bnd (lft (pickA (nth v51 1) (nth v76 0) (AV.bool false))) (fun v77 =>
  bnd (guardM v77 true 1 (bnd (lft (binA T BinOp.neq 33 (nth v51 3) (AV.int IntKind.i64 0))) (fun v78 =>
  M.pure [v78]))) (fun v79 =>
  bnd (guardM (nth v79 0) false 1 (bnd (lft (loadA T 39 (nth v51 2))) (fun v80 =>
  bnd (lft (loadA T 39 (nth v51 4))) (fun v81 =>
  bnd (call 24 [v80, v81]) (fun v82 =>
  M.pure [v82]))))) (fun v83 =>
  bnd (guardM v77 true 1 (bnd (lft (pickA (nth v79 0) (AV.bool true) (nth v83 0))) (fun v84 =>
  M.pure [v84]))) (fun v85 =>
  bnd (lft (pickA v77 (nth v85 0) (AV.bool false))) (fun v86 =>
  M.pure v86)))))))))
noncomputable def L3_1 (call : FuncId → List AV → M AV) (fx : Fix AV) (v31 : List AV → M AV) (v32 : List AV) : M AV :=
  bnd (lft (lenA T 23 (nth v32 0))) (fun v33 =>
  bnd (lft (binA T BinOp.lss 3 (nth v32 4) v33)) (fun v34 =>
  condM v34 (bnd (lft (binA T BinOp.add 3 (nth v32 4) (AV.int IntKind.i64 1))) (fun v35 =>
  bnd (lft (sliceA T 9 (AV.str [97, 98, 99, 100, 101, 102, 103, 104]) (some (nth v32 4)) (some v35) none)) (fun v36 =>
  bnd (lft (buildSliceA T 25 1 [(0, v36)])) (fun v37 =>
  bnd (lft (appA T 25 (nth v32 3) v37)) (fun v38 =>
  bnd (lft (binA T BinOp.add 3 (nth v32 4) (AV.int IntKind.i64 1))) (fun v39 =>
  v31 [nth v32 0, nth v32 1, nth v32 2, v38, v39])))))) (bnd (lft (loadA T 28 (nth v32 1))) (fun v40 =>
  bnd (call 19 [v40, nth v32 3, nth v32 0]) (fun v41 =>
  bnd (lft (extractA v41 0)) (fun v42 =>
  bnd (lft (extractA v41 1)) (fun v43 =>
  bnd (cellsM 4 v42) (fun v44 =>
  bnd (lft (loadA T 28 (nth v32 1))) (fun v45 =>
  bnd (call 20 [v45, nth v32 3, nth v32 0]) (fun v46 =>
  bnd (lft (extractA v46 0)) (fun v47 =>
  bnd (lft (extractA v46 1)) (fun v48 =>
  bnd (cellsM 4 v47) (fun v49 =>
  fx (L3_0 call fx) [nth v32 0, nth v32 2, AV.ip (acells v44), v43, AV.ip (acells v49), v48, AV.int IntKind.i64 1])))))))))))))
noncomputable def K3_0 (call : FuncId → List AV → M AV) (fx : Fix AV) (v26 : List AV) : M AV :=
  bnd (call 17 [nth v26 0, nth v26 8, nth v26 1, nth v26 2, nth v26 3, nth v26 4, nth v26 5]) (fun v27 =>
  bnd (call 18 [nth v26 0, nth v26 8, nth v26 1, nth v26 2, nth v26 3, nth v26 4, nth v26 5]) (fun v28 =>
  bnd (call 13 [v27, v28]) (fun v29 =>
  bnd (lft (unA UnOp.not v29)) (fun v30 =>
  condM v30 (M.pure (AV.bool false)) (fx (L3_1 call fx) [nth v26 3, nth v26 6, nth v26 7, AV.sl [], AV.int IntKind.i64 0])))))
noncomputable def L3_2 (call : FuncId → List AV → M AV) (fx : Fix AV) (v88 : List AV → M AV) (v96 : List AV → M AV) (v97 : List AV) : M AV :=
  bnd (lft (indexAddrA T 32 (nth v97 8) (nth v97 9))) (fun v98 =>
  bnd (lft (fieldAddrA T 47 v98 1)) (fun v99 =>
  bnd (loadH T 23 v99) (fun v100 =>
  bnd (lft (lenA T 23 v100)) (fun v101 =>
  bnd (lft (binA T BinOp.lss 3 (nth v97 10) v101)) (fun v102 =>
  condM v102 (bnd (lft (indexAddrA T 32 (nth v97 8) (nth v97 9))) (fun v103 =>
  bnd (lft (fieldAddrA T 47 v103 1)) (fun v104 =>
  bnd (loadH T 23 v104) (fun v105 =>
  bnd (lft (indexAddrA T 23 (nth v97 3) (nth v97 9))) (fun v106 =>
  bnd (lft (loadA T 39 v106)) (fun v107 =>
  bnd (lft (indexAddrA T 23 v105 (nth v97 10))) (fun v108 =>
  bnd (storeH T 39 v108 v107) (fun v109 =>
  bnd (lft (binA T BinOp.add 3 (nth v97 10) (AV.int IntKind.i64 1))) (fun v110 =>
  v96 [nth v97 0, nth v97 1, nth v97 2, nth v97 3, nth v97 4, nth v97 5, nth v97 6, nth v97 7, nth v97 8, nth v97 9, v110]))))))))) (bnd (lft (binA T BinOp.add 3 (nth v97 9) (AV.int IntKind.i64 1))) (fun v111 =>
  v88 [nth v97 0, nth v97 1, nth v97 2, nth v97 3, nth v97 4, nth v97 5, nth v97 6, nth v97 7, nth v97 8, v111])))))))
noncomputable def L3_3 (call : FuncId → List AV → M AV) (fx : Fix AV) (v87 : List AV → M AV) (v88 : List AV → M AV) (v89 : List AV) : M AV :=
  bnd (lft (lenA T 32 (nth v89 8))) (fun v90 =>
  bnd (lft (binA T BinOp.lss 3 (nth v89 9) v90)) (fun v91 =>
  bnd (guardM v91 true 1 (bnd (lft (lenA T 23 (nth v89 3))) (fun v92 =>
  bnd (lft (binA T BinOp.lss 3 (nth v89 9) v92)) (fun v93 =>
  M.pure [v93])))) (fun v94 =>
  bnd (lft (pickA v91 (nth v94 0) (AV.bool false))) (fun v95 =>
  condM v95 (fx (L3_2 call fx v88) [nth v89 0, nth v89 1, nth v89 2, nth v89 3, nth v89 4, nth v89 5, nth v89 6, nth v89 7, nth v89 8, nth v89 9, AV.int IntKind.i64 0]) (bnd (fzL [nth v89 0, nth v89 1, nth v89 2, nth v89 3, nth v89 4, nth v89 5, nth v89 6, nth v89 7, nth v89 8]) v87)))))
theorem XL3_0 {call : FuncId → List AV → M AV} : Cont1 (L3_0 call fixW ) fun _n => L3_0 call fixW  := by
  intro v50 v50s hself v51
  unfold L3_0
  exact (LimM.bnd (LimM.const _) fun _ => (LimM.bnd (LimM.const _) fun _ => (condM_lim (LimM.bnd (LimM.const _) fun _ => (LimM.bnd (LimM.const _) fun _ => (LimM.bnd (LimM.const _) fun _ => (LimM.bnd (LimM.const _) fun _ => (LimM.bnd (LimM.const _) fun _ => (LimM.bnd (LimM.const _) fun _ => (LimM.bnd (LimM.const _) fun _ => (LimM.bnd (LimM.const _) fun _ => (LimM.bnd (LimM.const _) fun _ => (condM_lim (LimM.const _) (LimM.bnd (LimM.const _) fun _ => (hself _)))))))))))) (LimM.const _))))
theorem FL3_0 (call : FuncId → List AV → M AV) (vs : List AV) : fixW (L3_0 call fixW ) vs = L3_0 call fixW  (fixW (L3_0 call fixW )) vs := fixW_eq (XL3_0 ) vs
theorem XL3_1 {call : FuncId → List AV → M AV} : Cont1 (L3_1 call fixW ) fun _n => L3_1 call fixW  := by
  intro v31 v31s hself v32
  unfold L3_1
  exact (LimM.bnd (LimM.const _) fun _ => (LimM.bnd (LimM.const _) fun _ => (condM_lim (LimM.bnd (LimM.const _) fun _ => (LimM.bnd (LimM.const _) fun _ => (LimM.bnd (LimM.const _) fun _ => (LimM.bnd (LimM.const _) fun _ => (LimM.bnd (LimM.const _) fun _ => (hself _)))))) (LimM.const _))))
theorem FL3_1 (call : FuncId → List AV → M AV) (vs : List AV) : fixW (L3_1 call fixW ) vs = L3_1 call fixW  (fixW (L3_1 call fixW )) vs := fixW_eq (XL3_1 ) vs
theorem XL3_2 {call : FuncId → List AV → M AV} {v88 : List AV → M AV} {v88s : Nat → List AV → M AV} (hv88 : LimF v88 fun n => v88s n) : Cont1 (L3_2 call fixW v88) fun n => L3_2 call fixW (v88s n) := by
  intro v96 v96s hself v97
  unfold L3_2
  exact (LimM.bnd (LimM.const _) fun _ => (LimM.bnd (LimM.const _) fun _ => (LimM.bnd (LimM.const _) fun _ => (LimM.bnd (LimM.const _) fun _ => (LimM.bnd (LimM.const _) fun _ => (condM_lim (LimM.bnd (LimM.const _) fun _ => (LimM.bnd (LimM.const _) fun _ => (LimM.bnd (LimM.const _) fun _ => (LimM.bnd (LimM.const _) fun _ => (LimM.bnd (LimM.const _) fun _ => (LimM.bnd (LimM.const _) fun _ => (LimM.bnd (LimM.const _) fun _ => (LimM.bnd (LimM.const _) fun _ => (hself _))))))))) (LimM.bnd (LimM.const _) fun _ => (hv88 _))))))))
theorem YL3_2 {call : FuncId → List AV → M AV} {v88 : List AV → M AV} {v88s : Nat → List AV → M AV} (hv88 : LimF v88 fun n => v88s n) : LimF (fixW (L3_2 call fixW v88)) fun n => fixW (L3_2 call fixW (v88s n)) := fixW_limF (XL3_2 hv88) (XL3_2 (LimF.const _)) fun _ => XL3_2 (LimF.const _)
theorem FL3_2 (call : FuncId → List AV → M AV) (v88 : List AV → M AV) (vs : List AV) : fixW (L3_2 call fixW v88) vs = L3_2 call fixW v88 (fixW (L3_2 call fixW v88)) vs := fixW_eq (XL3_2 (LimF.const _)) vs
theorem XL3_3 {call : FuncId → List AV → M AV} {v87 : List AV → M AV} {v87s : Nat → List AV → M AV} (hv87 : LimF v87 fun n => v87s n) : Cont1 (L3_3 call fixW v87) fun n => L3_3 call fixW (v87s n) := by
  intro v88 v88s hself v89
  unfold L3_3
  exact (LimM.bnd (LimM.const _) fun _ => (LimM.bnd (LimM.const _) fun _ => (LimM.bnd (LimM.const _) fun _ => (LimM.bnd (LimM.const _) fun _ => (condM_lim ((YL3_2 hself) _) (LimM.bnd (LimM.const _) hv87))))))
theorem YL3_3 {call : FuncId → List AV → M AV} {v87 : List AV → M AV} {v87s : Nat → List AV → M AV} (hv87 : LimF v87 fun n => v87s n) : LimF (fixW (L3_3 call fixW v87)) fun n => fixW (L3_3 call fixW (v87s n)) := fixW_limF (XL3_3 hv87) (XL3_3 (LimF.const _)) fun _ => XL3_3 (LimF.const _)
theorem FL3_3 (call : FuncId → List AV → M AV) (v87 : List AV → M AV) (vs : List AV) : fixW (L3_3 call fixW v87) vs = L3_3 call fixW v87 (fixW (L3_3 call fixW v87)) vs := fixW_eq (XL3_3 (LimF.const _)) vs
noncomputable def S3 (call : FuncId → List AV → M AV) (fx : Fix AV) (a0 a1 a2 a3 a4 a5 a6 : AV) : M AV :=
  bnd (call 7 []) (fun v0 =>
  bnd (call 8 [a0, a3, a4, a5]) (fun v1 =>
  bnd (lft (unA UnOp.not v1)) (fun v2 =>
  bnd (guardM v2 false 1 (bnd (lft (loadA T 28 (AV.ip (acells a6)))) (fun v3 =>
  bnd (call 9 [v3, AV.int IntKind.i64 40, AV.int IntKind.i64 16]) (fun v4 =>
  bnd (lft (binA T BinOp.gtr 3 v4 (AV.int IntKind.i64 40))) (fun v5 =>
  M.pure [v5]))))) (fun v6 =>
  bnd (lft (pickA v2 (AV.bool true) (nth v6 0))) (fun v7 =>
  condM v7 (M.pure v0) (bnd (call 10 [a0]) (fun v8 =>
  bnd (lft (extractA v8 0)) (fun v9 =>
  bnd (lft (extractA v8 1)) (fun v10 =>
  bnd (call 11 [a0]) (fun v11 =>
  bnd (lft (extractA v11 0)) (fun v12 =>
  bnd (lft (extractA v11 1)) (fun v13 =>
  bnd (lft (binA T BinOp.neq 33 v10 v13)) (fun v14 =>
  bnd (guardM v14 false 1 (bnd (call 12 [v9, v12]) (fun v15 =>
  bnd (lft (unA UnOp.not v15)) (fun v16 =>
  M.pure [v16])))) (fun v17 =>
  bnd (lft (pickA v14 (AV.bool true) (nth v17 0))) (fun v18 =>
  bnd (guardM v18 false 1 (bnd (call 14 [a0, a1, a2, a3, a4, a5]) (fun v19 =>
  bnd (call 15 [a0, a1, a2, a3, a4, a5]) (fun v20 =>
  bnd (call 13 [v19, v20]) (fun v21 =>
  bnd (lft (unA UnOp.not v21)) (fun v22 =>
  M.pure [v22])))))) (fun v23 =>
  bnd (lft (pickA v18 (AV.bool true) (nth v23 0))) (fun v24 =>
  condM v24 (M.pure (AV.bool false)) (bnd (call 16 [v12]) (fun v25 =>
  jn (K3_0 call fx) (fun v87 =>
  fx (L3_3 call fx v87) [a0, a1, a2, a3, a4, a5, AV.ip (acells a6), v0, v25, AV.int IntKind.i64 0]))))))))))))))))))))
theorem E3 (call : FuncId → List AV → M AV) (fx : Fix AV) (a0 a1 a2 a3 a4 a5 a6 : AV) : evBody (pg.cx call Try.f3.ntmps ann3) fx Try.f3 (own 3) [a0, a1, a2, a3, a4, a5, a6] = S3 call fx a0 a1 a2 a3 a4 a5 a6 := by kernel_rfl
theorem C3 (a0 a1 a2 a3 a4 a5 a6 : AV) : callW pg 3 [a0, a1, a2, a3, a4, a5, a6] = isoP (S3 (callW pg) fixW (cl noHs a0) (cl noHs a1) (cl noHs a2) (cl noHs a3) (cl noHs a4) (cl noHs a5) (cl noHs a6)) := (callW_iso hOther rfl rfl rfl _).trans (congrArg isoP (E3 _ _ (cl noHs a0) (cl noHs a1) (cl noHs a2) (cl noHs a3) (cl noHs a4) (cl noHs a5) (cl noHs a6)))
/-- lading.ladinglaw19.states -/
noncomputable def L12_0 (call : FuncId → List AV → M AV) (fx : Fix AV) (v3 : List AV → M AV) (v4 : List AV) : M AV :=
  bnd (lft (lenA T 32 (nth v4 0))) (fun v5 =>
  bnd (lft (binA T BinOp.lss 3 (nth v4 2) v5)) (fun v6 =>
  condM v6 (bnd (lft (indexAddrA T 32 (nth v4 0) (nth v4 2))) (fun v7 =>
  bnd (lft (fieldAddrA T 47 v7 0)) (fun v8 =>
  bnd (lft (loadA T 9 v8)) (fun v9 =>
  bnd (lft (indexAddrA T 32 (nth v4 1) (nth v4 2))) (fun v10 =>
  bnd (lft (fieldAddrA T 47 v10 0)) (fun v11 =>
  bnd (lft (loadA T 9 v11)) (fun v12 =>
  bnd (lft (binA T BinOp.neq 9 v9 v12)) (fun v13 =>
  bnd (guardM v13 false 1 (bnd (lft (indexAddrA T 32 (nth v4 0) (nth v4 2))) (fun v14 =>
  bnd (lft (fieldAddrA T 47 v14 1)) (fun v15 =>
  bnd (lft (loadA T 23 v15)) (fun v16 =>
  bnd (lft (indexAddrA T 32 (nth v4 1) (nth v4 2))) (fun v17 =>
  bnd (lft (fieldAddrA T 47 v17 1)) (fun v18 =>
  bnd (lft (loadA T 23 v18)) (fun v19 =>
  bnd (noPan (call 26 [v16, v19])) (fun v20 =>
  bnd (lft (unA UnOp.not v20)) (fun v21 =>
  M.pure [v21])))))))))) (fun v22 =>
  bnd (lft (pickA v13 (AV.bool true) (nth v22 0))) (fun v23 =>
  condM v23 (M.pure (AV.bool false)) (bnd (lft (binA T BinOp.add 3 (nth v4 2) (AV.int IntKind.i64 1))) (fun v24 =>
  v3 [nth v4 0, nth v4 1, v24])))))))))))) (M.pure (AV.bool true))))
theorem XL12_0 {call : FuncId → List AV → M AV} : Cont1 (L12_0 call fixW ) fun _n => L12_0 call fixW  := by
  intro v3 v3s hself v4
  unfold L12_0
  exact (LimM.bnd (LimM.const _) fun _ => (LimM.bnd (LimM.const _) fun _ => (condM_lim (LimM.bnd (LimM.const _) fun _ => (LimM.bnd (LimM.const _) fun _ => (LimM.bnd (LimM.const _) fun _ => (LimM.bnd (LimM.const _) fun _ => (LimM.bnd (LimM.const _) fun _ => (LimM.bnd (LimM.const _) fun _ => (LimM.bnd (LimM.const _) fun _ => (LimM.bnd (LimM.const _) fun _ => (LimM.bnd (LimM.const _) fun _ => (condM_lim (LimM.const _) (LimM.bnd (LimM.const _) fun _ => (hself _)))))))))))) (LimM.const _))))
theorem FL12_0 (call : FuncId → List AV → M AV) (vs : List AV) : fixW (L12_0 call fixW ) vs = L12_0 call fixW  (fixW (L12_0 call fixW )) vs := fixW_eq (XL12_0 ) vs
noncomputable def S12 (call : FuncId → List AV → M AV) (fx : Fix AV) (a0 a1 : AV) : M AV :=
  bnd (lft (lenA T 32 a0)) (fun v0 =>
  bnd (lft (lenA T 32 a1)) (fun v1 =>
  bnd (lft (binA T BinOp.neq 3 v0 v1)) (fun v2 =>
  condM v2 (M.pure (AV.bool false)) (fx (L12_0 call fx) [a0, a1, AV.int IntKind.i64 0]))))
theorem E12 (call : FuncId → List AV → M AV) (fx : Fix AV) (a0 a1 : AV) : evBody (pg.cx call Try.f12.ntmps ann12) fx Try.f12 (own 12) [a0, a1] = S12 call fx a0 a1 := by kernel_rfl
theorem C12 (a0 a1 : AV) : callW pg 12 [a0, a1] = isoP (S12 (callW pg) fixW (cl noHs a0) (cl noHs a1)) := (callW_iso hOther rfl rfl rfl _).trans (congrArg isoP (E12 _ _ (cl noHs a0) (cl noHs a1)))
/-- lading.ladinglaw19.alike -/
noncomputable def S13 (call : FuncId → List AV → M AV) (fx : Fix AV) (a0 a1 : AV) : M AV :=
  bnd (lft (fieldAddrA T 43 (AV.ip (acells a0)) 0)) (fun v0 =>
  bnd (lft (loadA T 33 v0)) (fun v1 =>
  bnd (lft (fieldAddrA T 43 (AV.ip (acells a1)) 0)) (fun v2 =>
  bnd (lft (loadA T 33 v2)) (fun v3 =>
  bnd (lft (binA T BinOp.eql 33 v1 v3)) (fun v4 =>
  bnd (guardM v4 true 1 (bnd (lft (fieldAddrA T 43 (AV.ip (acells a0)) 2)) (fun v5 =>
  bnd (lft (loadA T 40 v5)) (fun v6 =>
  bnd (lft (lenA T 40 v6)) (fun v7 =>
  bnd (lft (fieldAddrA T 43 (AV.ip (acells a1)) 2)) (fun v8 =>
  bnd (lft (loadA T 40 v8)) (fun v9 =>
  bnd (lft (lenA T 40 v9)) (fun v10 =>
  bnd (lft (binA T BinOp.eql 3 v7 v10)) (fun v11 =>
  M.pure [v11]))))))))) (fun v12 =>
  bnd (lft (pickA v4 (nth v12 0) (AV.bool false))) (fun v13 =>
  bnd (guardM v13 true 1 (bnd (lft (fieldAddrA T 43 (AV.ip (acells a0)) 3)) (fun v14 =>
  bnd (lft (loadA T 41 v14)) (fun v15 =>
  bnd (lft (lenA T 41 v15)) (fun v16 =>
  bnd (lft (fieldAddrA T 43 (AV.ip (acells a1)) 3)) (fun v17 =>
  bnd (lft (loadA T 41 v17)) (fun v18 =>
  bnd (lft (lenA T 41 v18)) (fun v19 =>
  bnd (lft (binA T BinOp.eql 3 v16 v19)) (fun v20 =>
  M.pure [v20]))))))))) (fun v21 =>
  bnd (lft (pickA v13 (nth v21 0) (AV.bool false))) (fun v22 =>
  bnd (guardM v22 true 1 (bnd (lft (loadA T 43 (AV.ip (acells a0)))) (fun v23 =>
  bnd (lft (loadA T 43 (AV.ip (acells a1)))) (fun v24 =>
  bnd (call 25 [v23, v24]) (fun v25 =>
  M.pure [v25]))))) (fun v26 =>
  bnd (lft (pickA v22 (nth v26 0) (AV.bool false))) (fun v27 =>
  bnd (guardM v27 true 1 (bnd (lft (fieldAddrA T 43 (AV.ip (acells a0)) 4)) (fun v28 =>
  bnd (lft (loadA T 32 v28)) (fun v29 =>
  bnd (lft (fieldAddrA T 43 (AV.ip (acells a1)) 4)) (fun v30 =>
  bnd (lft (loadA T 32 v30)) (fun v31 =>
  bnd (call 12 [v29, v31]) (fun v32 =>
  M.pure [v32]))))))) (fun v33 =>
  bnd (lft (pickA v27 (nth v33 0) (AV.bool false))) (fun v34 =>
  bnd (guardM v34 true 1 (bnd (lft (fieldAddrA T 43 (AV.ip (acells a0)) 0)) (fun v35 =>
  bnd (lft (loadA T 33 v35)) (fun v36 =>
  bnd (lft (binA T BinOp.neq 33 v36 (AV.int IntKind.i64 0))) (fun v37 =>
  M.pure [v37]))))) (fun v38 =>
  bnd (guardM (nth v38 0) false 1 (bnd (lft (fieldAddrA T 43 (AV.ip (acells a0)) 1)) (fun v39 =>
  bnd (lft (loadA T 39 v39)) (fun v40 =>
  bnd (lft (fieldAddrA T 43 (AV.ip (acells a1)) 1)) (fun v41 =>
  bnd (lft (loadA T 39 v41)) (fun v42 =>
  bnd (call 24 [v40, v42]) (fun v43 =>
  M.pure [v43]))))))) (fun v44 =>
  bnd (guardM v34 true 1 (bnd (lft (pickA (nth v38 0) (AV.bool true) (nth v44 0))) (fun v45 =>
  M.pure [v45]))) (fun v46 =>
  bnd (lft (pickA v34 (nth v46 0) (AV.bool false))) (fun v47 =>
  M.pure v47)))))))))))))))))
theorem E13 (call : FuncId → List AV → M AV) (fx : Fix AV) (a0 a1 : AV) : evBody (pg.cx call Try.f13.ntmps ann13) fx Try.f13 (own 13) [a0, a1] = S13 call fx a0 a1 := by kernel_rfl
theorem C13 (a0 a1 : AV) : callW pg 13 [a0, a1] = isoP (S13 (callW pg) fixW (cl noHs a0) (cl noHs a1)) := (callW_iso hOther rfl rfl rfl _).trans (congrArg isoP (E13 _ _ (cl noHs a0) (cl noHs a1)))
/-- lading.ladingref19.Same -/
noncomputable def S24 (call : FuncId → List AV → M AV) (fx : Fix AV) (a0 a1 : AV) : M AV :=
  bnd (lft (loadA T 39 (AV.ip (acells a0)))) (fun v0 =>
  bnd (call 22 [v0]) (fun v1 =>
  bnd (guardM v1 true 1 (bnd (lft (loadA T 39 (AV.ip (acells a1)))) (fun v2 =>
  bnd (call 22 [v2]) (fun v3 =>
  M.pure [v3])))) (fun v4 =>
  bnd (lft (pickA v1 (nth v4 0) (AV.bool false))) (fun v5 =>
  bnd (guardM v5 true 1 (bnd (lft (loadA T 39 (AV.ip (acells a0)))) (fun v6 =>
  bnd (lft (loadA T 39 (AV.ip (acells a1)))) (fun v7 =>
  bnd (call 55 [v6, v7]) (fun v8 =>
  M.pure [v8]))))) (fun v9 =>
  bnd (lft (pickA v5 (nth v9 0) (AV.bool false))) (fun v10 =>
  M.pure v10))))))
theorem E24 (call : FuncId → List AV → M AV) (fx : Fix AV) (a0 a1 : AV) : evBody (pg.cx call Try.f24.ntmps ann24) fx Try.f24 (own 24) [a0, a1] = S24 call fx a0 a1 := by kernel_rfl
theorem C24 (a0 a1 : AV) : callW pg 24 [a0, a1] = isoP (S24 (callW pg) fixW (cl noHs a0) (cl noHs a1)) := (callW_iso hOther rfl rfl rfl _).trans (congrArg isoP (E24 _ _ (cl noHs a0) (cl noHs a1)))
/-- lading.eval.names -/
noncomputable def L32_0 (call : FuncId → List AV → M AV) (fx : Fix AV) (v3 : List AV → M AV) (v4 : List AV) : M AV :=
  bnd (lft (binA T BinOp.lss 3 (nth v4 3) (nth v4 2))) (fun v5 =>
  condM v5 (bnd (lft (indexAddrA T 22 (nth v4 1) (nth v4 3))) (fun v6 =>
  bnd (lft (loadA T 63 v6)) (fun v7 =>
  bnd (cellsM 9 v7) (fun v8 =>
  bnd (lft (sliceA T 22 (nth v4 0) none (some (nth v4 3)) none)) (fun v9 =>
  bnd (call 58 [v9, AV.fn (Fn.func 59) [] [AV.ip (acells v8)]]) (fun v10 =>
  condM v10 (M.pure (AV.int IntKind.i64 5)) (bnd (lft (binA T BinOp.add 3 (nth v4 3) (AV.int IntKind.i64 1))) (fun v11 =>
  v3 [nth v4 0, nth v4 1, nth v4 2, v11])))))))) (M.pure (AV.int IntKind.i64 0)))
theorem XL32_0 {call : FuncId → List AV → M AV} : Cont1 (L32_0 call fixW ) fun _n => L32_0 call fixW  := by
  intro v3 v3s hself v4
  unfold L32_0
  exact (LimM.bnd (LimM.const _) fun _ => (condM_lim (LimM.bnd (LimM.const _) fun _ => (LimM.bnd (LimM.const _) fun _ => (LimM.bnd (LimM.const _) fun _ => (LimM.bnd (LimM.const _) fun _ => (LimM.bnd (LimM.const _) fun _ => (condM_lim (LimM.const _) (LimM.bnd (LimM.const _) fun _ => (hself _)))))))) (LimM.const _)))
theorem FL32_0 (call : FuncId → List AV → M AV) (vs : List AV) : fixW (L32_0 call fixW ) vs = L32_0 call fixW  (fixW (L32_0 call fixW )) vs := fixW_eq (XL32_0 ) vs
noncomputable def S32 (call : FuncId → List AV → M AV) (fx : Fix AV) (a0 : AV) : M AV :=
  bnd (lft (lenA T 22 a0)) (fun v0 =>
  bnd (lft (binA T BinOp.gtr 3 v0 (AV.int IntKind.i64 20))) (fun v1 =>
  condM v1 (M.pure (AV.int IntKind.i64 6)) (bnd (lft (lenA T 22 a0)) (fun v2 =>
  fx (L32_0 call fx) [a0, a0, v2, AV.int IntKind.i64 0]))))
theorem E32 (call : FuncId → List AV → M AV) (fx : Fix AV) (a0 : AV) : evBody (pg.cx call Try.f32.ntmps ann32) fx Try.f32 (own 32) [a0] = S32 call fx a0 := by kernel_rfl
theorem C32 (a0 : AV) : callW pg 32 [a0] = isoP (S32 (callW pg) fixW (cl noHs a0)) := (callW_iso hOther rfl rfl rfl _).trans (congrArg isoP (E32 _ _ (cl noHs a0)))
/-- lading.eval.From$2 -/
noncomputable def S41 (call : FuncId → List AV → M AV) (fx : Fix AV) (a0 a1 a2 a3 : AV) : M AV :=
  bnd (lft (loadA T 79 a0)) (fun v0 =>
  bnd (lft (loadA T 3 a1)) (fun v1 =>
  bnd (lft (loadA T 67 a2)) (fun v2 =>
  bnd (lft (loadA T 23 a3)) (fun v3 =>
  bnd (call 42 [v0, v1, v2, v3]) (fun v4 =>
  bnd (cellsNil 4 [] v4) (fun v5 =>
  M.pure (AV.agg [nth (acells v5) 0, nth (acells v5) 1, nth (acells v5) 2, nth (acells v5) 3])))))))
theorem E41 (call : FuncId → List AV → M AV) (fx : Fix AV) (a0 a1 a2 a3 : AV) : evBody (pg.cx call Try.f41.ntmps ann41) fx Try.f41 (own 41) [a0, a1, a2, a3] = S41 call fx a0 a1 a2 a3 := by kernel_rfl
theorem C41 (a0 a1 a2 a3 : AV) : callW pg 41 [a0, a1, a2, a3] = S41 (callW pg) fixW a0 a1 a2 a3 := (callW_heap hOther rfl rfl rfl _).trans (E41 _ _ a0 a1 a2 a3)
/-- (*lading.eval.machine).enter -/
noncomputable def L42_0 (call : FuncId → List AV → M AV) (fx : Fix AV) (v11 : List AV → M AV) (v12 : List AV) : M AV :=
  bnd (lft (binA T BinOp.lss 3 (nth v12 5) (nth v12 4))) (fun v13 =>
  condM v13 (bnd (lft (indexAddrA T 58 (nth v12 3) (nth v12 5))) (fun v14 =>
  bnd (lft (loadA T 104 v14)) (fun v15 =>
  bnd (cellsM 3 v15) (fun v16 =>
  bnd (lft (fieldAddrA T 104 (AV.ip (acells v16)) 0)) (fun v17 =>
  bnd (lft (loadA T 9 v17)) (fun v18 =>
  bnd (lft (indexAddrA T 23 (nth v12 1) (nth v12 5))) (fun v19 =>
  bnd (lft (loadA T 39 v19)) (fun v20 =>
  bnd (noPan (call 70 [AV.agg [nth v12 10, nth v12 11, nth v12 12], v18, v20])) (fun v21 =>
  bnd (cellsNil 3 [] v21) (fun v22 =>
  bnd (lft (binA T BinOp.add 3 (nth v12 5) (AV.int IntKind.i64 1))) (fun v23 =>
  v11 [nth v12 0, nth v12 1, nth v12 2, nth v12 3, nth v12 4, v23, nth v12 6, nth v12 7, nth v12 8, nth v12 9, nth (acells v22) 0, nth (acells v22) 1, nth (acells v22) 2]))))))))))) (bnd (lft (nilChkA (nth v12 0))) (fun v24 =>
  bnd (lft (fieldAddrA T 81 v24 3)) (fun v25 =>
  bnd (loadH T 3 v25) (fun v26 =>
  bnd (lft (binA T BinOp.add 3 v26 (AV.int IntKind.i64 1))) (fun v27 =>
  bnd (lft (nilChkA (nth v12 0))) (fun v28 =>
  bnd (lft (fieldAddrA T 81 v28 3)) (fun v29 =>
  bnd (storeH T 3 v29 v27) (fun v30 =>
  bnd (lft (fieldAddrA T 67 (nth v12 2) 5)) (fun v31 =>
  bnd (lft (loadA T 28 v31)) (fun v32 =>
  bnd (call 50 [nth v12 0, AV.agg [nth v12 10, nth v12 11, nth v12 12], v32]) (fun v33 =>
  bnd (cellsM 4 v33) (fun v34 =>
  bnd (lft (nilChkA (nth v12 0))) (fun v35 =>
  bnd (lft (fieldAddrA T 81 v35 3)) (fun v36 =>
  bnd (loadH T 3 v36) (fun v37 =>
  bnd (lft (binA T BinOp.sub 3 v37 (AV.int IntKind.i64 1))) (fun v38 =>
  bnd (lft (nilChkA (nth v12 0))) (fun v39 =>
  bnd (lft (fieldAddrA T 81 v39 3)) (fun v40 =>
  bnd (storeH T 3 v40 v38) (fun v41 =>
  bnd (lft (loadA T 39 (AV.ip (acells v34)))) (fun v42 =>
  bnd (cellsNil 4 [] v42) (fun v43 =>
  M.pure (AV.agg [nth (acells v43) 0, nth (acells v43) 1, nth (acells v43) 2, nth (acells v43) 3])))))))))))))))))))))))
noncomputable def K42_0 (call : FuncId → List AV → M AV) (fx : Fix AV) (v5 : List AV) : M AV :=
  bnd (lft (buildA T false 98 [(0, nth v5 1)])) (fun v6 =>
  bnd (cellsNil 3 [] v6) (fun v7 =>
  bnd (lft (fieldAddrA T 67 (nth v5 3) 2)) (fun v8 =>
  bnd (lft (loadA T 58 v8)) (fun v9 =>
  bnd (lft (lenA T 58 v9)) (fun v10 =>
  fx (L42_0 call fx) [nth v5 0, nth v5 2, nth v5 3, v9, v10, AV.int IntKind.i64 0, nth v5 4, nth v5 5, nth v5 6, nth v5 7, nth (acells v7) 0, nth (acells v7) 1, nth (acells v7) 2])))))
theorem XL42_0 {call : FuncId → List AV → M AV} : Cont1 (L42_0 call fixW ) fun _n => L42_0 call fixW  := by
  intro v11 v11s hself v12
  unfold L42_0
  exact (LimM.bnd (LimM.const _) fun _ => (condM_lim (LimM.bnd (LimM.const _) fun _ => (LimM.bnd (LimM.const _) fun _ => (LimM.bnd (LimM.const _) fun _ => (LimM.bnd (LimM.const _) fun _ => (LimM.bnd (LimM.const _) fun _ => (LimM.bnd (LimM.const _) fun _ => (LimM.bnd (LimM.const _) fun _ => (LimM.bnd (LimM.const _) fun _ => (LimM.bnd (LimM.const _) fun _ => (LimM.bnd (LimM.const _) fun _ => (hself _))))))))))) (LimM.const _)))
theorem FL42_0 (call : FuncId → List AV → M AV) (vs : List AV) : fixW (L42_0 call fixW ) vs = L42_0 call fixW  (fixW (L42_0 call fixW )) vs := fixW_eq (XL42_0 ) vs
noncomputable def S42 (call : FuncId → List AV → M AV) (fx : Fix AV) (a0 a1 a2 a3 : AV) : M AV :=
  bnd (lft (nilChkA a0)) (fun v0 =>
  bnd (lft (fieldAddrA T 81 v0 3)) (fun v1 =>
  bnd (loadH T 3 v1) (fun v2 =>
  bnd (lft (binA T BinOp.lss 3 v2 (AV.int IntKind.i64 60))) (fun v3 =>
  bnd (call 69 [v3, AV.int IntKind.i64 6]) (fun v4 =>
  jn (K42_0 call fx) (fun v44 =>
  bnd (lft (fieldAddrA T 67 (AV.ip (acells a2)) 1)) (fun v45 =>
  bnd (lft (loadA T 4 v45)) (fun v46 =>
  condM v46 (bnd (lft (nilChkA a0)) (fun v47 =>
  bnd (lft (fieldAddrA T 81 v47 4)) (fun v48 =>
  bnd (lft (fieldAddrA T 43 v48 3)) (fun v49 =>
  bnd (loadH T 41 v49) (fun v50 =>
  bnd (lft (nilChkA a0)) (fun v51 =>
  bnd (lft (fieldAddrA T 81 v51 0)) (fun v52 =>
  bnd (loadH T 22 v52) (fun v53 =>
  bnd (lft (indexAddrA T 22 v53 a1)) (fun v54 =>
  bnd (lft (fieldAddrA T 63 v54 0)) (fun v55 =>
  bnd (lft (loadA T 9 v55)) (fun v56 =>
  bnd (lft (fieldAddrA T 67 (AV.ip (acells a2)) 0)) (fun v57 =>
  bnd (lft (loadA T 9 v57)) (fun v58 =>
  bnd (call 39 [a3]) (fun v59 =>
  bnd (lft (buildA T false 69 [(0, v56), (1, v58), (2, v59)])) (fun v60 =>
  bnd (lft (buildSliceA T 41 1 [(0, v60)])) (fun v61 =>
  bnd (appH T 41 false v50 v61) (fun v62 =>
  bnd (lft (nilChkA a0)) (fun v63 =>
  bnd (lft (fieldAddrA T 81 v63 4)) (fun v64 =>
  bnd (lft (fieldAddrA T 43 v64 3)) (fun v65 =>
  bnd (storeH T 41 v65 v62) (fun v66 =>
  v44 [a0, a1, a3, AV.ip (acells a2), AV.int IntKind.i64 0, AV.int IntKind.i64 0, AV.sl [], AV.sl []]))))))))))))))))))))) (v44 [a0, a1, a3, AV.ip (acells a2), AV.int IntKind.i64 0, AV.int IntKind.i64 0, AV.sl [], AV.sl []])))))))))
theorem E42 (call : FuncId → List AV → M AV) (fx : Fix AV) (a0 a1 a2 a3 : AV) : evBody (pg.cx call Try.f42.ntmps ann42) fx Try.f42 (own 42) [a0, a1, a2, a3] = S42 call fx a0 a1 a2 a3 := by kernel_rfl
theorem C42 (a0 a1 a2 a3 : AV) : callW pg 42 [a0, a1, a2, a3] = S42 (callW pg) fixW a0 a1 a2 a3 := (callW_heap hOther rfl rfl rfl _).trans (E42 _ _ a0 a1 a2 a3)
/-- lading.eval.Exp$2 -/
noncomputable def S49 (call : FuncId → List AV → M AV) (fx : Fix AV) (a0 a1 a2 a3 : AV) : M AV :=
  bnd (lft (loadA T 79 a0)) (fun v0 =>
  bnd (lft (loadA T 25 a1)) (fun v1 =>
  bnd (lft (loadA T 23 a2)) (fun v2 =>
  bnd (lft (buildA T false 98 [(0, AV.int IntKind.i64 (-1)), (1, v1), (2, v2)])) (fun v3 =>
  bnd (lft (loadA T 28 a3)) (fun v4 =>
  bnd (call 50 [v0, v3, v4]) (fun v5 =>
  bnd (cellsNil 4 [] v5) (fun v6 =>
  M.pure (AV.agg [nth (acells v6) 0, nth (acells v6) 1, nth (acells v6) 2, nth (acells v6) 3]))))))))
theorem E49 (call : FuncId → List AV → M AV) (fx : Fix AV) (a0 a1 a2 a3 : AV) : evBody (pg.cx call Try.f49.ntmps ann49) fx Try.f49 (own 49) [a0, a1, a2, a3] = S49 call fx a0 a1 a2 a3 := by kernel_rfl
theorem C49 (a0 a1 a2 a3 : AV) : callW pg 49 [a0, a1, a2, a3] = S49 (callW pg) fixW a0 a1 a2 a3 := (callW_heap hOther rfl rfl rfl _).trans (E49 _ _ a0 a1 a2 a3)
/-- lading.ladingref19.equal -/
noncomputable def L55_0 (call : FuncId → List AV → M AV) (fx : Fix AV) (v21 : List AV → M AV) (v22 : List AV) : M AV :=
  bnd (lft (fieldAddrA T 39 (nth v22 0) 2)) (fun v23 =>
  bnd (lft (loadA T 25 v23)) (fun v24 =>
  bnd (lft (lenA T 25 v24)) (fun v25 =>
  bnd (lft (binA T BinOp.lss 3 (nth v22 2) v25)) (fun v26 =>
  condM v26 (bnd (lft (fieldAddrA T 39 (nth v22 0) 2)) (fun v27 =>
  bnd (lft (loadA T 25 v27)) (fun v28 =>
  bnd (lft (indexAddrA T 25 v28 (nth v22 2))) (fun v29 =>
  bnd (lft (loadA T 9 v29)) (fun v30 =>
  bnd (lft (fieldAddrA T 39 (nth v22 1) 2)) (fun v31 =>
  bnd (lft (loadA T 25 v31)) (fun v32 =>
  bnd (lft (indexAddrA T 25 v32 (nth v22 2))) (fun v33 =>
  bnd (lft (loadA T 9 v33)) (fun v34 =>
  bnd (lft (binA T BinOp.neq 9 v30 v34)) (fun v35 =>
  bnd (guardM v35 false 1 (bnd (lft (fieldAddrA T 39 (nth v22 0) 3)) (fun v36 =>
  bnd (lft (loadA T 23 v36)) (fun v37 =>
  bnd (lft (indexAddrA T 23 v37 (nth v22 2))) (fun v38 =>
  bnd (lft (loadA T 39 v38)) (fun v39 =>
  bnd (lft (fieldAddrA T 39 (nth v22 1) 3)) (fun v40 =>
  bnd (lft (loadA T 23 v40)) (fun v41 =>
  bnd (lft (indexAddrA T 23 v41 (nth v22 2))) (fun v42 =>
  bnd (lft (loadA T 39 v42)) (fun v43 =>
  bnd (noPan (call 55 [v39, v43])) (fun v44 =>
  bnd (lft (unA UnOp.not v44)) (fun v45 =>
  M.pure [v45])))))))))))) (fun v46 =>
  bnd (lft (pickA v35 (AV.bool true) (nth v46 0))) (fun v47 =>
  condM v47 (M.pure (AV.bool false)) (bnd (lft (binA T BinOp.add 3 (nth v22 2) (AV.int IntKind.i64 1))) (fun v48 =>
  v21 [nth v22 0, nth v22 1, v48])))))))))))))) (M.pure (AV.bool true))))))
theorem XL55_0 {call : FuncId → List AV → M AV} : Cont1 (L55_0 call fixW ) fun _n => L55_0 call fixW  := by
  intro v21 v21s hself v22
  unfold L55_0
  exact (LimM.bnd (LimM.const _) fun _ => (LimM.bnd (LimM.const _) fun _ => (LimM.bnd (LimM.const _) fun _ => (LimM.bnd (LimM.const _) fun _ => (condM_lim (LimM.bnd (LimM.const _) fun _ => (LimM.bnd (LimM.const _) fun _ => (LimM.bnd (LimM.const _) fun _ => (LimM.bnd (LimM.const _) fun _ => (LimM.bnd (LimM.const _) fun _ => (LimM.bnd (LimM.const _) fun _ => (LimM.bnd (LimM.const _) fun _ => (LimM.bnd (LimM.const _) fun _ => (LimM.bnd (LimM.const _) fun _ => (LimM.bnd (LimM.const _) fun _ => (LimM.bnd (LimM.const _) fun _ => (condM_lim (LimM.const _) (LimM.bnd (LimM.const _) fun _ => (hself _)))))))))))))) (LimM.const _))))))
theorem FL55_0 (call : FuncId → List AV → M AV) (vs : List AV) : fixW (L55_0 call fixW ) vs = L55_0 call fixW  (fixW (L55_0 call fixW )) vs := fixW_eq (XL55_0 ) vs
noncomputable def S55 (call : FuncId → List AV → M AV) (fx : Fix AV) (a0 a1 : AV) : M AV :=
  bnd (lft (fieldAddrA T 39 (AV.ip (acells a0)) 0)) (fun v0 =>
  bnd (lft (loadA T 3 v0)) (fun v1 =>
  bnd (lft (fieldAddrA T 39 (AV.ip (acells a1)) 0)) (fun v2 =>
  bnd (lft (loadA T 3 v2)) (fun v3 =>
  bnd (lft (binA T BinOp.neq 3 v1 v3)) (fun v4 =>
  bnd (guardM v4 false 1 (bnd (lft (fieldAddrA T 39 (AV.ip (acells a0)) 1)) (fun v5 =>
  bnd (lft (loadA T 3 v5)) (fun v6 =>
  bnd (lft (fieldAddrA T 39 (AV.ip (acells a1)) 1)) (fun v7 =>
  bnd (lft (loadA T 3 v7)) (fun v8 =>
  bnd (lft (binA T BinOp.neq 3 v6 v8)) (fun v9 =>
  M.pure [v9]))))))) (fun v10 =>
  bnd (lft (pickA v4 (AV.bool true) (nth v10 0))) (fun v11 =>
  bnd (guardM v11 false 1 (bnd (lft (fieldAddrA T 39 (AV.ip (acells a0)) 2)) (fun v12 =>
  bnd (lft (loadA T 25 v12)) (fun v13 =>
  bnd (lft (lenA T 25 v13)) (fun v14 =>
  bnd (lft (fieldAddrA T 39 (AV.ip (acells a1)) 2)) (fun v15 =>
  bnd (lft (loadA T 25 v15)) (fun v16 =>
  bnd (lft (lenA T 25 v16)) (fun v17 =>
  bnd (lft (binA T BinOp.neq 3 v14 v17)) (fun v18 =>
  M.pure [v18]))))))))) (fun v19 =>
  bnd (lft (pickA v11 (AV.bool true) (nth v19 0))) (fun v20 =>
  condM v20 (M.pure (AV.bool false)) (fx (L55_0 call fx) [AV.ip (acells a0), AV.ip (acells a1), AV.int IntKind.i64 0]))))))))))
theorem E55 (call : FuncId → List AV → M AV) (fx : Fix AV) (a0 a1 : AV) : evBody (pg.cx call Try.f55.ntmps ann55) fx Try.f55 (own 55) [a0, a1] = S55 call fx a0 a1 := by kernel_rfl
theorem C55 (a0 a1 : AV) : callW pg 55 [a0, a1] = isoP (S55 (callW pg) fixW (cl noHs a0) (cl noHs a1)) := (callW_iso hOther rfl rfl rfl _).trans (congrArg isoP (E55 _ _ (cl noHs a0) (cl noHs a1)))
/-- lading.ladinglaw19.kinds -/
noncomputable def L57_0 (call : FuncId → List AV → M AV) (fx : Fix AV) (v2 : List AV → M AV) (v3 : List AV) : M AV :=
  bnd (lft (fieldAddrA T 65 (nth v3 2) 1)) (fun v4 =>
  bnd (lft (loadA T 58 v4)) (fun v5 =>
  bnd (lft (lenA T 58 v5)) (fun v6 =>
  bnd (lft (binA T BinOp.lss 3 (nth v3 4) v6)) (fun v7 =>
  bnd (guardM v7 true 1 (bnd (lft (binA T BinOp.leq 3 (nth v3 3) (nth v3 0))) (fun v8 =>
  M.pure [v8]))) (fun v9 =>
  bnd (lft (pickA v7 (nth v9 0) (AV.bool false))) (fun v10 =>
  condM v10 (bnd (lft (fieldAddrA T 65 (nth v3 2) 1)) (fun v11 =>
  bnd (lft (loadA T 58 v11)) (fun v12 =>
  bnd (lft (indexAddrA T 58 v12 (nth v3 4))) (fun v13 =>
  bnd (lft (fieldAddrA T 104 v13 1)) (fun v14 =>
  bnd (lft (loadA T 65 v14)) (fun v15 =>
  bnd (lft (binA T BinOp.sub 3 (nth v3 0) (nth v3 3))) (fun v16 =>
  bnd (lft (binA T BinOp.sub 3 (nth v3 1) (AV.int IntKind.i64 1))) (fun v17 =>
  bnd (call 57 [v15, v16, v17]) (fun v18 =>
  bnd (lft (binA T BinOp.add 3 (nth v3 3) v18)) (fun v19 =>
  bnd (lft (binA T BinOp.add 3 (nth v3 4) (AV.int IntKind.i64 1))) (fun v20 =>
  v2 [nth v3 0, nth v3 1, nth v3 2, v19, v20]))))))))))) (M.pure (nth v3 3))))))))
theorem XL57_0 {call : FuncId → List AV → M AV} : Cont1 (L57_0 call fixW ) fun _n => L57_0 call fixW  := by
  intro v2 v2s hself v3
  unfold L57_0
  exact (LimM.bnd (LimM.const _) fun _ => (LimM.bnd (LimM.const _) fun _ => (LimM.bnd (LimM.const _) fun _ => (LimM.bnd (LimM.const _) fun _ => (LimM.bnd (LimM.const _) fun _ => (LimM.bnd (LimM.const _) fun _ => (condM_lim (LimM.bnd (LimM.const _) fun _ => (LimM.bnd (LimM.const _) fun _ => (LimM.bnd (LimM.const _) fun _ => (LimM.bnd (LimM.const _) fun _ => (LimM.bnd (LimM.const _) fun _ => (LimM.bnd (LimM.const _) fun _ => (LimM.bnd (LimM.const _) fun _ => (LimM.bnd (LimM.const _) fun _ => (LimM.bnd (LimM.const _) fun _ => (LimM.bnd (LimM.const _) fun _ => (hself _))))))))))) (LimM.const _))))))))
theorem FL57_0 (call : FuncId → List AV → M AV) (vs : List AV) : fixW (L57_0 call fixW ) vs = L57_0 call fixW  (fixW (L57_0 call fixW )) vs := fixW_eq (XL57_0 ) vs
noncomputable def S57 (call : FuncId → List AV → M AV) (fx : Fix AV) (a0 a1 a2 : AV) : M AV :=
  bnd (lft (binA T BinOp.lss 3 a2 (AV.int IntKind.i64 1))) (fun v0 =>
  condM v0 (bnd (lft (binA T BinOp.add 3 a1 (AV.int IntKind.i64 1))) (fun v1 =>
  M.pure v1)) (fx (L57_0 call fx) [a1, a2, AV.ip (acells a0), AV.int IntKind.i64 1, AV.int IntKind.i64 0]))
theorem E57 (call : FuncId → List AV → M AV) (fx : Fix AV) (a0 a1 a2 : AV) : evBody (pg.cx call Try.f57.ntmps ann57) fx Try.f57 (own 57) [a0, a1, a2] = S57 call fx a0 a1 a2 := by kernel_rfl
theorem C57 (a0 a1 a2 : AV) : callW pg 57 [a0, a1, a2] = isoP (S57 (callW pg) fixW (cl noHs a0) (cl noHs a1) (cl noHs a2)) := (callW_iso hOther rfl rfl rfl _).trans (congrArg isoP (E57 _ _ (cl noHs a0) (cl noHs a1) (cl noHs a2)))
/-- slices.ContainsFunc[[]lading.api.Module,lading.api.Module] -/
noncomputable def S58 (call : FuncId → List AV → M AV) (fx : Fix AV) (a0 a1 : AV) : M AV :=
  bnd (call 63 [a0, a1]) (fun v0 =>
  bnd (lft (binA T BinOp.geq 3 v0 (AV.int IntKind.i64 0))) (fun v1 =>
  M.pure v1))
theorem E58 (call : FuncId → List AV → M AV) (fx : Fix AV) (a0 a1 : AV) : evBody (pg.cx call Try.f58.ntmps ann58) fx Try.f58 (own 58) [a0, a1] = S58 call fx a0 a1 := by kernel_rfl
theorem C58 (a0 a1 : AV) : callW pg 58 [a0, a1] = isoP (S58 (callW pg) fixW (cl noHs a0) (cl noHs a1)) := (callW_iso hOther rfl rfl rfl _).trans (congrArg isoP (E58 _ _ (cl noHs a0) (cl noHs a1)))
/-- lading.eval.belongs$1 -/
noncomputable def S61 (call : FuncId → List AV → M AV) (fx : Fix AV) (a0 a1 : AV) : M AV :=
  bnd (lft (fieldAddrA T 47 (AV.ip (acells a1)) 0)) (fun v0 =>
  bnd (lft (loadA T 9 v0)) (fun v1 =>
  bnd (lft (fieldAddrA T 63 (AV.ip (acells a0)) 0)) (fun v2 =>
  bnd (lft (loadA T 9 v2)) (fun v3 =>
  bnd (lft (binA T BinOp.eql 9 v1 v3)) (fun v4 =>
  bnd (guardM v4 true 1 (bnd (lft (fieldAddrA T 47 (AV.ip (acells a1)) 1)) (fun v5 =>
  bnd (lft (loadA T 23 v5)) (fun v6 =>
  bnd (lft (lenA T 23 v6)) (fun v7 =>
  bnd (lft (fieldAddrA T 63 (AV.ip (acells a0)) 2)) (fun v8 =>
  bnd (lft (loadA T 58 v8)) (fun v9 =>
  bnd (lft (lenA T 58 v9)) (fun v10 =>
  bnd (lft (binA T BinOp.eql 3 v7 v10)) (fun v11 =>
  M.pure [v11]))))))))) (fun v12 =>
  bnd (lft (pickA v4 (nth v12 0) (AV.bool false))) (fun v13 =>
  bnd (guardM v13 true 1 (bnd (lft (fieldAddrA T 47 (AV.ip (acells a1)) 1)) (fun v14 =>
  bnd (lft (loadA T 23 v14)) (fun v15 =>
  bnd (call 37 [v15, AV.fn (Fn.func 62) [] []]) (fun v16 =>
  bnd (lft (unA UnOp.not v16)) (fun v17 =>
  M.pure [v17])))))) (fun v18 =>
  bnd (lft (pickA v13 (nth v18 0) (AV.bool false))) (fun v19 =>
  M.pure v19)))))))))
theorem E61 (call : FuncId → List AV → M AV) (fx : Fix AV) (a0 a1 : AV) : evBody (pg.cx call Try.f61.ntmps ann61) fx Try.f61 (own 61) [a0, a1] = S61 call fx a0 a1 := by kernel_rfl
theorem C61 (a0 a1 : AV) : callW pg 61 [a0, a1] = isoP (S61 (callW pg) fixW (cl noHs a0) (cl noHs a1)) := (callW_iso hOther rfl rfl rfl _).trans (congrArg isoP (E61 _ _ (cl noHs a0) (cl noHs a1)))
/-- lading.eval.belongs$1$1 -/
noncomputable def S62 (call : FuncId → List AV → M AV) (fx : Fix AV) (a0 : AV) : M AV :=
  bnd (lft (loadA T 39 (AV.ip (acells a0)))) (fun v0 =>
  bnd (call 21 [v0]) (fun v1 =>
  bnd (lft (unA UnOp.not v1)) (fun v2 =>
  M.pure v2)))
theorem E62 (call : FuncId → List AV → M AV) (fx : Fix AV) (a0 : AV) : evBody (pg.cx call Try.f62.ntmps ann62) fx Try.f62 (own 62) [a0] = S62 call fx a0 := by kernel_rfl
theorem C62 (a0 : AV) : callW pg 62 [a0] = isoP (S62 (callW pg) fixW (cl noHs a0)) := (callW_iso hOther rfl rfl rfl _).trans (congrArg isoP (E62 _ _ (cl noHs a0)))
/-- slices.IndexFunc[[]lading.api.Module,lading.api.Module] -/
noncomputable def L63_0 (call : FuncId → List AV → M AV) (fx : Fix AV) (v1 : List AV → M AV) (v2 : List AV) : M AV :=
  bnd (lft (binA T BinOp.lss 3 (nth v2 3) (nth v2 2))) (fun v3 =>
  condM v3 (bnd (lft (indexAddrA T 22 (nth v2 0) (nth v2 3))) (fun v4 =>
  bnd (lft (loadA T 63 v4)) (fun v5 =>
  bnd (callV call (nth v2 1) [v5]) (fun v6 =>
  condM v6 (M.pure (nth v2 3)) (bnd (lft (binA T BinOp.add 3 (nth v2 3) (AV.int IntKind.i64 1))) (fun v7 =>
  v1 [nth v2 0, nth v2 1, nth v2 2, v7])))))) (M.pure (AV.int IntKind.i64 (-1))))
theorem XL63_0 {call : FuncId → List AV → M AV} : Cont1 (L63_0 call fixW ) fun _n => L63_0 call fixW  := by
  intro v1 v1s hself v2
  unfold L63_0
  exact (LimM.bnd (LimM.const _) fun _ => (condM_lim (LimM.bnd (LimM.const _) fun _ => (LimM.bnd (LimM.const _) fun _ => (LimM.bnd (LimM.const _) fun _ => (condM_lim (LimM.const _) (LimM.bnd (LimM.const _) fun _ => (hself _)))))) (LimM.const _)))
theorem FL63_0 (call : FuncId → List AV → M AV) (vs : List AV) : fixW (L63_0 call fixW ) vs = L63_0 call fixW  (fixW (L63_0 call fixW )) vs := fixW_eq (XL63_0 ) vs
noncomputable def S63 (call : FuncId → List AV → M AV) (fx : Fix AV) (a0 a1 : AV) : M AV :=
  bnd (lft (lenA T 22 a0)) (fun v0 =>
  fx (L63_0 call fx) [a0, a1, v0, AV.int IntKind.i64 0])
theorem E63 (call : FuncId → List AV → M AV) (fx : Fix AV) (a0 a1 : AV) : evBody (pg.cx call Try.f63.ntmps ann63) fx Try.f63 (own 63) [a0, a1] = S63 call fx a0 a1 := by kernel_rfl
theorem C63 (a0 a1 : AV) : callW pg 63 [a0, a1] = isoP (S63 (callW pg) fixW (cl noHs a0) (cl noHs a1)) := (callW_iso hOther rfl rfl rfl _).trans (congrArg isoP (E63 _ _ (cl noHs a0) (cl noHs a1)))
/-- (lading.eval.scope).bind -/
noncomputable def S70 (call : FuncId → List AV → M AV) (fx : Fix AV) (a0 a1 a2 : AV) : M AV :=
  bnd (lft (fieldAddrA T 98 (AV.ip (acells a0)) 0)) (fun v0 =>
  bnd (lft (loadA T 3 v0)) (fun v1 =>
  bnd (lft (fieldAddrA T 98 (AV.ip (acells a0)) 1)) (fun v2 =>
  bnd (lft (loadA T 25 v2)) (fun v3 =>
  bnd (noPan (call 94 [v3])) (fun v4 =>
  bnd (lft (buildSliceA T 25 1 [(0, a1)])) (fun v5 =>
  bnd (lft (appA T 25 v4 v5)) (fun v6 =>
  bnd (lft (fieldAddrA T 98 (AV.ip (acells a0)) 2)) (fun v7 =>
  bnd (lft (loadA T 23 v7)) (fun v8 =>
  bnd (noPan (call 95 [v8])) (fun v9 =>
  bnd (lft (loadA T 39 (AV.ip (acells a2)))) (fun v10 =>
  bnd (lft (buildSliceA T 23 1 [(0, v10)])) (fun v11 =>
  bnd (lft (appA T 23 v9 v11)) (fun v12 =>
  bnd (lft (buildA T false 98 [(0, v1), (1, v6), (2, v12)])) (fun v13 =>
  bnd (cellsNil 3 [] v13) (fun v14 =>
  M.pure (AV.agg [nth (acells v14) 0, nth (acells v14) 1, nth (acells v14) 2]))))))))))))))))
theorem E70 (call : FuncId → List AV → M AV) (fx : Fix AV) (a0 a1 a2 : AV) : evBody (pg.cx call Try.f70.ntmps ann70) fx Try.f70 (own 70) [a0, a1, a2] = S70 call fx a0 a1 a2 := by kernel_rfl
theorem C70 (a0 a1 a2 : AV) : callW pg 70 [a0, a1, a2] = isoP (S70 (callW pg) fixW (cl noHs a0) (cl noHs a1) (cl noHs a2)) := (callW_iso hOther rfl rfl rfl _).trans (congrArg isoP (E70 _ _ (cl noHs a0) (cl noHs a1) (cl noHs a2)))
/-- (*lading.ladingref19.Eval).fail -/
noncomputable def K71_0 (call : FuncId → List AV → M AV) (fx : Fix AV) (v0 : List AV) : M AV :=
  bnd (lft (buildA T false 39 [])) (fun v1 =>
  bnd (cellsNil 4 [] v1) (fun v2 =>
  M.pure (AV.agg [nth (acells v2) 0, nth (acells v2) 1, nth (acells v2) 2, nth (acells v2) 3])))
noncomputable def S71 (call : FuncId → List AV → M AV) (fx : Fix AV) (a0 a1 : AV) : M AV :=
  jn (K71_0 call fx) (fun v3 =>
  bnd (lft (nilChkA a0)) (fun v4 =>
  bnd (lft (fieldAddrA T 95 v4 1)) (fun v5 =>
  bnd (lft (fieldAddrA T 43 v5 0)) (fun v6 =>
  bnd (loadH T 33 v6) (fun v7 =>
  bnd (lft (binA T BinOp.eql 33 v7 (AV.int IntKind.i64 0))) (fun v8 =>
  condM v8 (bnd (lft (nilChkA a0)) (fun v9 =>
  bnd (lft (fieldAddrA T 95 v9 1)) (fun v10 =>
  bnd (lft (fieldAddrA T 43 v10 0)) (fun v11 =>
  bnd (storeH T 33 v11 a1) (fun v12 =>
  v3 [AV.int IntKind.i64 0, AV.int IntKind.i64 0, AV.sl [], AV.sl []]))))) (v3 [AV.int IntKind.i64 0, AV.int IntKind.i64 0, AV.sl [], AV.sl []])))))))
theorem E71 (call : FuncId → List AV → M AV) (fx : Fix AV) (a0 a1 : AV) : evBody (pg.cx call Try.f71.ntmps ann71) fx Try.f71 (own 71) [a0, a1] = S71 call fx a0 a1 := by kernel_rfl
theorem C71 (a0 a1 : AV) : callW pg 71 [a0, a1] = S71 (callW pg) fixW a0 a1 := (callW_heap hOther rfl rfl rfl _).trans (E71 _ _ a0 a1)
/-- lading.eval.number -/
noncomputable def S74 (call : FuncId → List AV → M AV) (fx : Fix AV) (a0 : AV) : M AV :=
  bnd (lft (buildA T false 39 [(0, AV.int IntKind.i64 0), (1, a0)])) (fun v0 =>
  bnd (cellsNil 4 [] v0) (fun v1 =>
  M.pure (AV.agg [nth (acells v1) 0, nth (acells v1) 1, nth (acells v1) 2, nth (acells v1) 3])))
theorem E74 (call : FuncId → List AV → M AV) (fx : Fix AV) (a0 : AV) : evBody (pg.cx call Try.f74.ntmps ann74) fx Try.f74 (own 74) [a0] = S74 call fx a0 := by kernel_rfl
theorem C74 (a0 : AV) : callW pg 74 [a0] = isoP (S74 (callW pg) fixW (cl noHs a0)) := (callW_iso hOther rfl rfl rfl _).trans (congrArg isoP (E74 _ _ (cl noHs a0)))
/-- lading.eval.binary -/
noncomputable def S76 (call : FuncId → List AV → M AV) (fx : Fix AV) (a0 a1 a2 : AV) : M AV :=
  bnd (lft (binA T BinOp.eql 3 a0 (AV.int IntKind.i64 7))) (fun v0 =>
  condM v0 (bnd (lft (fieldAddrA T 39 (AV.ip (acells a1)) 0)) (fun v1 =>
  bnd (lft (loadA T 3 v1)) (fun v2 =>
  bnd (lft (fieldAddrA T 39 (AV.ip (acells a2)) 0)) (fun v3 =>
  bnd (lft (loadA T 3 v3)) (fun v4 =>
  bnd (lft (binA T BinOp.eql 3 v2 v4)) (fun v5 =>
  bnd (guardM v5 true 1 (bnd (lft (fieldAddrA T 39 (AV.ip (acells a1)) 0)) (fun v6 =>
  bnd (lft (loadA T 3 v6)) (fun v7 =>
  bnd (lft (binA T BinOp.neq 3 v7 (AV.int IntKind.i64 2))) (fun v8 =>
  M.pure [v8]))))) (fun v9 =>
  bnd (lft (pickA v5 (nth v9 0) (AV.bool false))) (fun v10 =>
  bnd (call 69 [v10, AV.int IntKind.i64 13]) (fun v11 =>
  bnd (lft (fieldAddrA T 39 (AV.ip (acells a1)) 1)) (fun v12 =>
  bnd (lft (loadA T 3 v12)) (fun v13 =>
  bnd (lft (fieldAddrA T 39 (AV.ip (acells a2)) 1)) (fun v14 =>
  bnd (lft (loadA T 3 v14)) (fun v15 =>
  bnd (lft (binA T BinOp.eql 3 v13 v15)) (fun v16 =>
  bnd (call 75 [v16]) (fun v17 =>
  bnd (cellsNil 4 [] v17) (fun v18 =>
  M.pure (AV.agg [nth (acells v18) 0, nth (acells v18) 1, nth (acells v18) 2, nth (acells v18) 3]))))))))))))))))) (bnd (lft (fieldAddrA T 39 (AV.ip (acells a1)) 0)) (fun v19 =>
  bnd (lft (loadA T 3 v19)) (fun v20 =>
  bnd (lft (binA T BinOp.eql 3 v20 (AV.int IntKind.i64 0))) (fun v21 =>
  bnd (guardM v21 true 1 (bnd (lft (fieldAddrA T 39 (AV.ip (acells a2)) 0)) (fun v22 =>
  bnd (lft (loadA T 3 v22)) (fun v23 =>
  bnd (lft (binA T BinOp.eql 3 v23 (AV.int IntKind.i64 0))) (fun v24 =>
  M.pure [v24]))))) (fun v25 =>
  bnd (lft (pickA v21 (nth v25 0) (AV.bool false))) (fun v26 =>
  bnd (call 69 [v26, AV.int IntKind.i64 13]) (fun v27 =>
  bnd (lft (binA T BinOp.eql 3 a0 (AV.int IntKind.i64 3))) (fun v28 =>
  condM v28 (bnd (lft (fieldAddrA T 39 (AV.ip (acells a1)) 1)) (fun v29 =>
  bnd (lft (loadA T 3 v29)) (fun v30 =>
  bnd (lft (fieldAddrA T 39 (AV.ip (acells a2)) 1)) (fun v31 =>
  bnd (lft (loadA T 3 v31)) (fun v32 =>
  bnd (lft (binA T BinOp.add 3 v30 v32)) (fun v33 =>
  bnd (call 74 [v33]) (fun v34 =>
  bnd (cellsNil 4 [] v34) (fun v35 =>
  M.pure (AV.agg [nth (acells v35) 0, nth (acells v35) 1, nth (acells v35) 2, nth (acells v35) 3]))))))))) (bnd (lft (binA T BinOp.eql 3 a0 (AV.int IntKind.i64 4))) (fun v36 =>
  condM v36 (bnd (lft (fieldAddrA T 39 (AV.ip (acells a1)) 1)) (fun v37 =>
  bnd (lft (loadA T 3 v37)) (fun v38 =>
  bnd (lft (fieldAddrA T 39 (AV.ip (acells a2)) 1)) (fun v39 =>
  bnd (lft (loadA T 3 v39)) (fun v40 =>
  bnd (lft (binA T BinOp.sub 3 v38 v40)) (fun v41 =>
  bnd (call 74 [v41]) (fun v42 =>
  bnd (cellsNil 4 [] v42) (fun v43 =>
  M.pure (AV.agg [nth (acells v43) 0, nth (acells v43) 1, nth (acells v43) 2, nth (acells v43) 3]))))))))) (bnd (lft (binA T BinOp.eql 3 a0 (AV.int IntKind.i64 5))) (fun v44 =>
  condM v44 (bnd (lft (fieldAddrA T 39 (AV.ip (acells a1)) 1)) (fun v45 =>
  bnd (lft (loadA T 3 v45)) (fun v46 =>
  bnd (lft (fieldAddrA T 39 (AV.ip (acells a2)) 1)) (fun v47 =>
  bnd (lft (loadA T 3 v47)) (fun v48 =>
  bnd (lft (binA T BinOp.mul 3 v46 v48)) (fun v49 =>
  bnd (call 74 [v49]) (fun v50 =>
  bnd (cellsNil 4 [] v50) (fun v51 =>
  M.pure (AV.agg [nth (acells v51) 0, nth (acells v51) 1, nth (acells v51) 2, nth (acells v51) 3]))))))))) (bnd (lft (fieldAddrA T 39 (AV.ip (acells a1)) 1)) (fun v52 =>
  bnd (lft (loadA T 3 v52)) (fun v53 =>
  bnd (lft (fieldAddrA T 39 (AV.ip (acells a2)) 1)) (fun v54 =>
  bnd (lft (loadA T 3 v54)) (fun v55 =>
  bnd (lft (binA T BinOp.lss 3 v53 v55)) (fun v56 =>
  bnd (call 75 [v56]) (fun v57 =>
  bnd (cellsNil 4 [] v57) (fun v58 =>
  M.pure (AV.agg [nth (acells v58) 0, nth (acells v58) 1, nth (acells v58) 2, nth (acells v58) 3]))))))))))))))))))))))
theorem E76 (call : FuncId → List AV → M AV) (fx : Fix AV) (a0 a1 a2 : AV) : evBody (pg.cx call Try.f76.ntmps ann76) fx Try.f76 (own 76) [a0, a1, a2] = S76 call fx a0 a1 a2 := by kernel_rfl
theorem C76 (a0 a1 a2 : AV) : callW pg 76 [a0, a1, a2] = S76 (callW pg) fixW a0 a1 a2 := (callW_heap hOther rfl rfl rfl _).trans (E76 _ _ a0 a1 a2)
/-- lading.ladingref19.many -/
noncomputable def K82_0 (call : FuncId → List AV → M AV) (fx : Fix AV) (v3 : List AV) : M AV :=
  condM (nth v3 1) (M.pure (AV.int IntKind.i64 (-1))) (bnd (lft (binA T BinOp.gtr 3 (nth v3 0) (AV.int IntKind.i64 2))) (fun v4 =>
  bnd (guardM v4 true 1 (bnd (lft (binA T BinOp.leq 3 (nth v3 0) (AV.int IntKind.i64 12))) (fun v5 =>
  M.pure [v5]))) (fun v6 =>
  bnd (lft (pickA v4 (nth v6 0) (AV.bool false))) (fun v7 =>
  condM v7 (M.pure (AV.int IntKind.i64 2)) (M.pure (AV.int IntKind.i64 (-2)))))))
noncomputable def K82_1 (call : FuncId → List AV → M AV) (fx : Fix AV) (v1 : List AV) : M AV :=
  condM (nth v1 2) (M.pure (AV.int IntKind.i64 1)) (bnd (lft (binA T BinOp.eql 3 (nth v1 1) (AV.int IntKind.i64 11))) (fun v2 =>
  condM v2 (M.pure (AV.int IntKind.i64 3)) (jn (K82_0 call fx) (fun v8 =>
  bnd (lft (binA T BinOp.eql 3 (nth v1 1) (AV.int IntKind.i64 13))) (fun v9 =>
  condM v9 (v8 [nth v1 0, v9]) (bnd (lft (binA T BinOp.eql 3 (nth v1 1) (AV.int IntKind.i64 15))) (fun v10 =>
  v8 [nth v1 0, v10])))))))
noncomputable def K82_2 (call : FuncId → List AV → M AV) (fx : Fix AV) (v0 : List AV) : M AV :=
  condM (nth v0 2) (M.pure (AV.int IntKind.i64 0)) (jn (K82_1 call fx) (fun v11 =>
  bnd (lft (binA T BinOp.eql 3 (nth v0 1) (AV.int IntKind.i64 10))) (fun v12 =>
  condM v12 (v11 [nth v0 0, nth v0 1, v12]) (bnd (lft (binA T BinOp.eql 3 (nth v0 1) (AV.int IntKind.i64 14))) (fun v13 =>
  condM v13 (v11 [nth v0 0, nth v0 1, v13]) (bnd (lft (binA T BinOp.eql 3 (nth v0 1) (AV.int IntKind.i64 16))) (fun v14 =>
  condM v14 (v11 [nth v0 0, nth v0 1, v14]) (bnd (lft (binA T BinOp.eql 3 (nth v0 1) (AV.int IntKind.i64 18))) (fun v15 =>
  v11 [nth v0 0, nth v0 1, v15])))))))))
noncomputable def S82 (call : FuncId → List AV → M AV) (fx : Fix AV) (a0 : AV) : M AV :=
  jn (K82_2 call fx) (fun v16 =>
  bnd (lft (binA T BinOp.eql 3 a0 (AV.int IntKind.i64 0))) (fun v17 =>
  condM v17 (v16 [a0, a0, v17]) (bnd (lft (binA T BinOp.eql 3 a0 (AV.int IntKind.i64 1))) (fun v18 =>
  condM v18 (v16 [a0, a0, v18]) (bnd (lft (binA T BinOp.eql 3 a0 (AV.int IntKind.i64 2))) (fun v19 =>
  condM v19 (v16 [a0, a0, v19]) (bnd (lft (binA T BinOp.eql 3 a0 (AV.int IntKind.i64 17))) (fun v20 =>
  v16 [a0, a0, v20]))))))))
theorem E82 (call : FuncId → List AV → M AV) (fx : Fix AV) (a0 : AV) : evBody (pg.cx call Try.f82.ntmps ann82) fx Try.f82 (own 82) [a0] = S82 call fx a0 := by kernel_rfl
theorem C82 (a0 : AV) : callW pg 82 [a0] = isoP (S82 (callW pg) fixW (cl noHs a0)) := (callW_iso hOther rfl rfl rfl _).trans (congrArg isoP (E82 _ _ (cl noHs a0)))
/-- (*lading.ladingref19.Eval).act -/
noncomputable def K86_0 (call : FuncId → List AV → M AV) (fx : Fix AV) (v39 : List AV) : M AV :=
  bnd (lft (nilChkA (nth v39 0))) (fun v40 =>
  bnd (lft (fieldAddrA T 95 v40 1)) (fun v41 =>
  bnd (lft (fieldAddrA T 43 v41 2)) (fun v42 =>
  bnd (loadH T 40 v42) (fun v43 =>
  bnd (lft (fieldAddrA T 28 (nth v39 1) 1)) (fun v44 =>
  bnd (lft (loadA T 3 v44)) (fun v45 =>
  bnd (lft (fieldAddrA T 39 (nth v39 2) 1)) (fun v46 =>
  bnd (lft (loadA T 3 v46)) (fun v47 =>
  bnd (lft (buildA T false 55 [(0, v45), (1, v47), (2, nth v39 3)])) (fun v48 =>
  bnd (lft (buildSliceA T 40 1 [(0, v48)])) (fun v49 =>
  bnd (appH T 40 false v43 v49) (fun v50 =>
  bnd (lft (nilChkA (nth v39 0))) (fun v51 =>
  bnd (lft (fieldAddrA T 95 v51 1)) (fun v52 =>
  bnd (lft (fieldAddrA T 43 v52 2)) (fun v53 =>
  bnd (storeH T 40 v53 v50) (fun v54 =>
  bnd (lft (buildA T false 39 [(0, AV.int IntKind.i64 0), (1, nth v39 3)])) (fun v55 =>
  bnd (cellsNil 4 [] v55) (fun v56 =>
  M.pure (AV.agg [nth (acells v56) 0, nth (acells v56) 1, nth (acells v56) 2, nth (acells v56) 3]))))))))))))))))))
noncomputable def S86 (call : FuncId → List AV → M AV) (fx : Fix AV) (a0 a1 a2 : AV) : M AV :=
  bnd (lft (loadA T 101 (AV.ip (acells a1)))) (fun v0 =>
  bnd (lft (fieldAddrA T 28 (AV.ip (acells a2)) 5)) (fun v1 =>
  bnd (lft (loadA T 26 v1)) (fun v2 =>
  bnd (lft (indexAddrA T 26 v2 (AV.int IntKind.i64 0))) (fun v3 =>
  bnd (lft (loadA T 28 v3)) (fun v4 =>
  bnd (call 51 [a0, v0, v4]) (fun v5 =>
  bnd (cellsM 4 v5) (fun v6 =>
  bnd (lft (nilChkA a0)) (fun v7 =>
  bnd (lft (fieldAddrA T 95 v7 1)) (fun v8 =>
  bnd (lft (fieldAddrA T 43 v8 0)) (fun v9 =>
  bnd (loadH T 33 v9) (fun v10 =>
  bnd (lft (binA T BinOp.neq 33 v10 (AV.int IntKind.i64 0))) (fun v11 =>
  condM v11 (bnd (lft (loadA T 39 (AV.ip (acells v6)))) (fun v12 =>
  bnd (cellsNil 4 [] v12) (fun v13 =>
  M.pure (AV.agg [nth (acells v13) 0, nth (acells v13) 1, nth (acells v13) 2, nth (acells v13) 3])))) (bnd (lft (fieldAddrA T 39 (AV.ip (acells v6)) 0)) (fun v14 =>
  bnd (lft (loadA T 3 v14)) (fun v15 =>
  bnd (lft (binA T BinOp.neq 3 v15 (AV.int IntKind.i64 0))) (fun v16 =>
  condM v16 (bnd (call 71 [a0, AV.int IntKind.i64 13]) (fun v17 =>
  bnd (cellsNil 4 [] v17) (fun v18 =>
  M.pure (AV.agg [nth (acells v18) 0, nth (acells v18) 1, nth (acells v18) 2, nth (acells v18) 3])))) (bnd (lft (fieldAddrA T 28 (AV.ip (acells a2)) 1)) (fun v19 =>
  bnd (lft (loadA T 3 v19)) (fun v20 =>
  bnd (lft (binA T BinOp.neq 3 v20 (AV.int IntKind.i64 1))) (fun v21 =>
  bnd (guardM v21 true 1 (bnd (lft (fieldAddrA T 28 (AV.ip (acells a2)) 1)) (fun v22 =>
  bnd (lft (loadA T 3 v22)) (fun v23 =>
  bnd (lft (binA T BinOp.neq 3 v23 (AV.int IntKind.i64 2))) (fun v24 =>
  M.pure [v24]))))) (fun v25 =>
  bnd (lft (pickA v21 (nth v25 0) (AV.bool false))) (fun v26 =>
  bnd (guardM v26 true 1 (bnd (lft (fieldAddrA T 28 (AV.ip (acells a2)) 1)) (fun v27 =>
  bnd (lft (loadA T 3 v27)) (fun v28 =>
  bnd (lft (binA T BinOp.neq 3 v28 (AV.int IntKind.i64 4))) (fun v29 =>
  M.pure [v29]))))) (fun v30 =>
  bnd (lft (pickA v26 (nth v30 0) (AV.bool false))) (fun v31 =>
  bnd (guardM v31 true 1 (bnd (lft (fieldAddrA T 28 (AV.ip (acells a2)) 1)) (fun v32 =>
  bnd (lft (loadA T 3 v32)) (fun v33 =>
  bnd (lft (binA T BinOp.neq 3 v33 (AV.int IntKind.i64 8))) (fun v34 =>
  M.pure [v34]))))) (fun v35 =>
  bnd (lft (pickA v31 (nth v35 0) (AV.bool false))) (fun v36 =>
  condM v36 (bnd (call 71 [a0, AV.int IntKind.i64 14]) (fun v37 =>
  bnd (cellsNil 4 [] v37) (fun v38 =>
  M.pure (AV.agg [nth (acells v38) 0, nth (acells v38) 1, nth (acells v38) 2, nth (acells v38) 3])))) (jn (K86_0 call fx) (fun v57 =>
  bnd (lft (nilChkA a0)) (fun v58 =>
  bnd (lft (fieldAddrA T 95 v58 3)) (fun v59 =>
  bnd (loadH T 3 v59) (fun v60 =>
  bnd (lft (nilChkA a0)) (fun v61 =>
  bnd (lft (fieldAddrA T 95 v61 2)) (fun v62 =>
  bnd (loadH T 24 v62) (fun v63 =>
  bnd (lft (lenA T 24 v63)) (fun v64 =>
  bnd (lft (binA T BinOp.lss 3 v60 v64)) (fun v65 =>
  condM v65 (bnd (lft (nilChkA a0)) (fun v66 =>
  bnd (lft (fieldAddrA T 95 v66 2)) (fun v67 =>
  bnd (loadH T 24 v67) (fun v68 =>
  bnd (lft (nilChkA a0)) (fun v69 =>
  bnd (lft (fieldAddrA T 95 v69 3)) (fun v70 =>
  bnd (loadH T 3 v70) (fun v71 =>
  bnd (lft (indexAddrA T 24 v68 v71)) (fun v72 =>
  bnd (lft (loadA T 3 v72)) (fun v73 =>
  bnd (lft (nilChkA a0)) (fun v74 =>
  bnd (lft (fieldAddrA T 95 v74 3)) (fun v75 =>
  bnd (loadH T 3 v75) (fun v76 =>
  bnd (lft (binA T BinOp.add 3 v76 (AV.int IntKind.i64 1))) (fun v77 =>
  bnd (lft (nilChkA a0)) (fun v78 =>
  bnd (lft (fieldAddrA T 95 v78 3)) (fun v79 =>
  bnd (storeH T 3 v79 v77) (fun v80 =>
  v57 [a0, AV.ip (acells a2), AV.ip (acells v6), v73, AV.int IntKind.i64 0, AV.int IntKind.i64 0, AV.sl [], AV.sl []])))))))))))))))) (v57 [a0, AV.ip (acells a2), AV.ip (acells v6), AV.int IntKind.i64 0, AV.int IntKind.i64 0, AV.int IntKind.i64 0, AV.sl [], AV.sl []])))))))))))))))))))))))))))))))))))))
theorem E86 (call : FuncId → List AV → M AV) (fx : Fix AV) (a0 a1 a2 : AV) : evBody (pg.cx call Try.f86.ntmps ann86) fx Try.f86 (own 86) [a0, a1, a2] = S86 call fx a0 a1 a2 := by kernel_rfl
theorem C86 (a0 a1 a2 : AV) : callW pg 86 [a0, a1, a2] = S86 (callW pg) fixW a0 a1 a2 := (callW_heap hOther rfl rfl rfl _).trans (E86 _ _ a0 a1 a2)
/-- (*lading.ladingref19.Eval).variable -/
noncomputable def K87_0 (call : FuncId → List AV → M AV) (fx : Fix AV) (v52 : List AV) : M AV :=
  bnd (lft (loadA T 39 (nth v52 0))) (fun v53 =>
  bnd (cellsNil 4 [] v53) (fun v54 =>
  M.pure (AV.agg [nth (acells v54) 0, nth (acells v54) 1, nth (acells v54) 2, nth (acells v54) 3])))
noncomputable def L87_0 (call : FuncId → List AV → M AV) (fx : Fix AV) (v13 : List AV → M AV) (v14 : List AV) : M AV :=
  bnd (lft (lenA T 58 (nth v14 3))) (fun v15 =>
  bnd (lft (binA T BinOp.lss 3 (nth v14 4) v15)) (fun v16 =>
  bnd (guardM v16 true 1 (bnd (lft (indexAddrA T 58 (nth v14 3) (nth v14 4))) (fun v17 =>
  bnd (lft (fieldAddrA T 104 v17 0)) (fun v18 =>
  bnd (lft (loadA T 9 v18)) (fun v19 =>
  bnd (lft (fieldAddrA T 28 (nth v14 2) 2)) (fun v20 =>
  bnd (lft (loadA T 9 v20)) (fun v21 =>
  bnd (lft (binA T BinOp.neq 9 v19 v21)) (fun v22 =>
  M.pure [v22])))))))) (fun v23 =>
  bnd (lft (pickA v16 (nth v23 0) (AV.bool false))) (fun v24 =>
  condM v24 (bnd (lft (binA T BinOp.add 3 (nth v14 4) (AV.int IntKind.i64 1))) (fun v25 =>
  v13 [nth v14 0, nth v14 1, nth v14 2, nth v14 3, v25, nth v14 5, nth v14 6, nth v14 7, nth v14 8])) (bnd (lft (lenA T 58 (nth v14 3))) (fun v26 =>
  bnd (lft (binA T BinOp.geq 3 (nth v14 4) v26)) (fun v27 =>
  condM v27 (bnd (call 71 [nth v14 0, AV.int IntKind.i64 12]) (fun v28 =>
  bnd (cellsNil 4 [] v28) (fun v29 =>
  M.pure (AV.agg [nth (acells v29) 0, nth (acells v29) 1, nth (acells v29) 2, nth (acells v29) 3])))) (bnd (lft (fieldAddrA T 28 (nth v14 2) 0)) (fun v30 =>
  bnd (lft (loadA T 3 v30)) (fun v31 =>
  bnd (lft (binA T BinOp.eql 3 v31 (AV.int IntKind.i64 17))) (fun v32 =>
  condM v32 (bnd (lft (nilChkA (nth v14 0))) (fun v33 =>
  bnd (lft (fieldAddrA T 95 v33 1)) (fun v34 =>
  bnd (lft (fieldAddrA T 43 v34 4)) (fun v35 =>
  bnd (loadH T 32 v35) (fun v36 =>
  bnd (lft (fieldAddrA T 101 (nth v14 1) 0)) (fun v37 =>
  bnd (lft (loadA T 3 v37)) (fun v38 =>
  bnd (lft (indexAddrA T 32 v36 v38)) (fun v39 =>
  bnd (lft (fieldAddrA T 47 v39 1)) (fun v40 =>
  bnd (loadH T 23 v40) (fun v41 =>
  bnd (lft (indexAddrA T 23 v41 (nth v14 4))) (fun v42 =>
  bnd (loadH T 39 v42) (fun v43 =>
  bnd (cellsNil 4 [] v43) (fun v44 =>
  M.pure (AV.agg [nth (acells v44) 0, nth (acells v44) 1, nth (acells v44) 2, nth (acells v44) 3])))))))))))))) (bnd (lft (loadA T 101 (nth v14 1))) (fun v45 =>
  bnd (lft (fieldAddrA T 28 (nth v14 2) 5)) (fun v46 =>
  bnd (lft (loadA T 26 v46)) (fun v47 =>
  bnd (lft (indexAddrA T 26 v47 (AV.int IntKind.i64 0))) (fun v48 =>
  bnd (lft (loadA T 28 v48)) (fun v49 =>
  bnd (call 51 [nth v14 0, v45, v49]) (fun v50 =>
  bnd (cellsM 4 v50) (fun v51 =>
  jn (K87_0 call fx) (fun v55 =>
  bnd (lft (nilChkA (nth v14 0))) (fun v56 =>
  bnd (lft (fieldAddrA T 95 v56 1)) (fun v57 =>
  bnd (lft (fieldAddrA T 43 v57 0)) (fun v58 =>
  bnd (loadH T 33 v58) (fun v59 =>
  bnd (lft (binA T BinOp.eql 33 v59 (AV.int IntKind.i64 0))) (fun v60 =>
  condM v60 (bnd (lft (nilChkA (nth v14 0))) (fun v61 =>
  bnd (lft (fieldAddrA T 95 v61 1)) (fun v62 =>
  bnd (lft (fieldAddrA T 43 v62 4)) (fun v63 =>
  bnd (loadH T 32 v63) (fun v64 =>
  bnd (lft (fieldAddrA T 101 (nth v14 1) 0)) (fun v65 =>
  bnd (lft (loadA T 3 v65)) (fun v66 =>
  bnd (lft (indexAddrA T 32 v64 v66)) (fun v67 =>
  bnd (lft (fieldAddrA T 47 v67 1)) (fun v68 =>
  bnd (loadH T 23 v68) (fun v69 =>
  bnd (lft (loadA T 39 (AV.ip (acells v51)))) (fun v70 =>
  bnd (lft (indexAddrA T 23 v69 (nth v14 4))) (fun v71 =>
  bnd (storeH T 39 v71 v70) (fun v72 =>
  v55 [AV.ip (acells v51), nth v14 5, nth v14 6, nth v14 7, nth v14 8]))))))))))))) (v55 [AV.ip (acells v51), nth v14 5, nth v14 6, nth v14 7, nth v14 8]))))))))))))))))))))))))))
theorem XL87_0 {call : FuncId → List AV → M AV} : Cont1 (L87_0 call fixW ) fun _n => L87_0 call fixW  := by
  intro v13 v13s hself v14
  unfold L87_0
  exact (LimM.bnd (LimM.const _) fun _ => (LimM.bnd (LimM.const _) fun _ => (LimM.bnd (LimM.const _) fun _ => (LimM.bnd (LimM.const _) fun _ => (condM_lim (LimM.bnd (LimM.const _) fun _ => (hself _)) (LimM.const _))))))
theorem FL87_0 (call : FuncId → List AV → M AV) (vs : List AV) : fixW (L87_0 call fixW ) vs = L87_0 call fixW  (fixW (L87_0 call fixW )) vs := fixW_eq (XL87_0 ) vs
noncomputable def S87 (call : FuncId → List AV → M AV) (fx : Fix AV) (a0 a1 a2 : AV) : M AV :=
  bnd (lft (fieldAddrA T 101 (AV.ip (acells a1)) 0)) (fun v0 =>
  bnd (lft (loadA T 3 v0)) (fun v1 =>
  bnd (lft (binA T BinOp.lss 3 v1 (AV.int IntKind.i64 0))) (fun v2 =>
  condM v2 (bnd (call 71 [a0, AV.int IntKind.i64 12]) (fun v3 =>
  bnd (cellsNil 4 [] v3) (fun v4 =>
  M.pure (AV.agg [nth (acells v4) 0, nth (acells v4) 1, nth (acells v4) 2, nth (acells v4) 3])))) (bnd (lft (nilChkA a0)) (fun v5 =>
  bnd (lft (fieldAddrA T 95 v5 0)) (fun v6 =>
  bnd (loadH T 22 v6) (fun v7 =>
  bnd (lft (fieldAddrA T 101 (AV.ip (acells a1)) 0)) (fun v8 =>
  bnd (lft (loadA T 3 v8)) (fun v9 =>
  bnd (lft (indexAddrA T 22 v7 v9)) (fun v10 =>
  bnd (lft (fieldAddrA T 63 v10 2)) (fun v11 =>
  bnd (lft (loadA T 58 v11)) (fun v12 =>
  fx (L87_0 call fx) [a0, AV.ip (acells a1), AV.ip (acells a2), v12, AV.int IntKind.i64 0, AV.int IntKind.i64 0, AV.int IntKind.i64 0, AV.sl [], AV.sl []]))))))))))))
theorem E87 (call : FuncId → List AV → M AV) (fx : Fix AV) (a0 a1 a2 : AV) : evBody (pg.cx call Try.f87.ntmps ann87) fx Try.f87 (own 87) [a0, a1, a2] = S87 call fx a0 a1 a2 := by kernel_rfl
theorem C87 (a0 a1 a2 : AV) : callW pg 87 [a0, a1, a2] = S87 (callW pg) fixW a0 a1 a2 := (callW_heap hOther rfl rfl rfl _).trans (E87 _ _ a0 a1 a2)
/-- (*lading.ladingref19.Eval).operation -/
noncomputable def L88_0 (call : FuncId → List AV → M AV) (fx : Fix AV) (v17 : List AV → M AV) (v18 : List AV) : M AV :=
  bnd (lft (fieldAddrA T 39 (nth v18 2) 2)) (fun v19 =>
  bnd (lft (loadA T 25 v19)) (fun v20 =>
  bnd (lft (lenA T 25 v20)) (fun v21 =>
  bnd (lft (binA T BinOp.lss 3 (nth v18 3) v21)) (fun v22 =>
  condM v22 (bnd (lft (fieldAddrA T 39 (nth v18 2) 2)) (fun v23 =>
  bnd (lft (loadA T 25 v23)) (fun v24 =>
  bnd (lft (indexAddrA T 25 v24 (nth v18 3))) (fun v25 =>
  bnd (lft (loadA T 9 v25)) (fun v26 =>
  bnd (lft (fieldAddrA T 28 (nth v18 1) 2)) (fun v27 =>
  bnd (lft (loadA T 9 v27)) (fun v28 =>
  bnd (lft (binA T BinOp.eql 9 v26 v28)) (fun v29 =>
  condM v29 (bnd (lft (fieldAddrA T 39 (nth v18 2) 3)) (fun v30 =>
  bnd (lft (loadA T 23 v30)) (fun v31 =>
  bnd (lft (indexAddrA T 23 v31 (nth v18 3))) (fun v32 =>
  bnd (lft (loadA T 39 v32)) (fun v33 =>
  bnd (cellsNil 4 [] v33) (fun v34 =>
  M.pure (AV.agg [nth (acells v34) 0, nth (acells v34) 1, nth (acells v34) 2, nth (acells v34) 3]))))))) (bnd (lft (binA T BinOp.add 3 (nth v18 3) (AV.int IntKind.i64 1))) (fun v35 =>
  v17 [nth v18 0, nth v18 1, nth v18 2, v35, nth v18 4, nth v18 5, nth v18 6, nth v18 7])))))))))) (bnd (call 71 [nth v18 0, AV.int IntKind.i64 13]) (fun v36 =>
  bnd (cellsNil 4 [] v36) (fun v37 =>
  M.pure (AV.agg [nth (acells v37) 0, nth (acells v37) 1, nth (acells v37) 2, nth (acells v37) 3]))))))))
noncomputable def K88_0 (call : FuncId → List AV → M AV) (fx : Fix AV) (v38 : List AV) : M AV :=
  condM (nth v38 4) (bnd (lft (fieldAddrA T 39 (nth v38 3) 0)) (fun v39 =>
  bnd (lft (loadA T 3 v39)) (fun v40 =>
  bnd (lft (binA T BinOp.neq 3 v40 (AV.int IntKind.i64 1))) (fun v41 =>
  condM v41 (bnd (call 71 [nth v38 0, AV.int IntKind.i64 13]) (fun v42 =>
  bnd (cellsNil 4 [] v42) (fun v43 =>
  M.pure (AV.agg [nth (acells v43) 0, nth (acells v43) 1, nth (acells v43) 2, nth (acells v43) 3])))) (bnd (lft (fieldAddrA T 28 (nth v38 2) 0)) (fun v44 =>
  bnd (lft (loadA T 3 v44)) (fun v45 =>
  bnd (lft (binA T BinOp.eql 3 v45 (AV.int IntKind.i64 10))) (fun v46 =>
  condM v46 (bnd (lft (fieldAddrA T 39 (nth v38 3) 1)) (fun v47 =>
  bnd (lft (loadA T 3 v47)) (fun v48 =>
  bnd (lft (binA T BinOp.eql 3 v48 (AV.int IntKind.i64 0))) (fun v49 =>
  bnd (call 83 [v49]) (fun v50 =>
  bnd (cellsNil 4 [] v50) (fun v51 =>
  M.pure (AV.agg [nth (acells v51) 0, nth (acells v51) 1, nth (acells v51) 2, nth (acells v51) 3]))))))) (bnd (lft (fieldAddrA T 28 (nth v38 2) 0)) (fun v52 =>
  bnd (lft (loadA T 3 v52)) (fun v53 =>
  bnd (lft (binA T BinOp.eql 3 v53 (AV.int IntKind.i64 11))) (fun v54 =>
  condM v54 (bnd (lft (loadA T 101 (nth v38 1))) (fun v55 =>
  bnd (lft (fieldAddrA T 28 (nth v38 2) 5)) (fun v56 =>
  bnd (lft (loadA T 26 v56)) (fun v57 =>
  bnd (lft (fieldAddrA T 39 (nth v38 3) 1)) (fun v58 =>
  bnd (lft (loadA T 3 v58)) (fun v59 =>
  bnd (lft (binA T BinOp.sub 3 (AV.int IntKind.i64 2) v59)) (fun v60 =>
  bnd (lft (indexAddrA T 26 v57 v60)) (fun v61 =>
  bnd (lft (loadA T 28 v61)) (fun v62 =>
  bnd (call 51 [nth v38 0, v55, v62]) (fun v63 =>
  bnd (cellsNil 4 [] v63) (fun v64 =>
  M.pure (AV.agg [nth (acells v64) 0, nth (acells v64) 1, nth (acells v64) 2, nth (acells v64) 3])))))))))))) (bnd (lft (fieldAddrA T 39 (nth v38 3) 1)) (fun v65 =>
  bnd (lft (loadA T 3 v65)) (fun v66 =>
  bnd (lft (binA T BinOp.eql 3 v66 (AV.int IntKind.i64 1))) (fun v67 =>
  bnd (lft (fieldAddrA T 28 (nth v38 2) 0)) (fun v68 =>
  bnd (lft (loadA T 3 v68)) (fun v69 =>
  bnd (lft (binA T BinOp.eql 3 v69 (AV.int IntKind.i64 9))) (fun v70 =>
  bnd (lft (binA T BinOp.eql 4 v67 v70)) (fun v71 =>
  condM v71 (bnd (lft (loadA T 39 (nth v38 3))) (fun v72 =>
  bnd (cellsNil 4 [] v72) (fun v73 =>
  M.pure (AV.agg [nth (acells v73) 0, nth (acells v73) 1, nth (acells v73) 2, nth (acells v73) 3])))) (bnd (lft (loadA T 101 (nth v38 1))) (fun v74 =>
  bnd (lft (fieldAddrA T 28 (nth v38 2) 5)) (fun v75 =>
  bnd (lft (loadA T 26 v75)) (fun v76 =>
  bnd (lft (indexAddrA T 26 v76 (AV.int IntKind.i64 1))) (fun v77 =>
  bnd (lft (loadA T 28 v77)) (fun v78 =>
  bnd (call 51 [nth v38 0, v74, v78]) (fun v79 =>
  bnd (cellsM 4 v79) (fun v80 =>
  bnd (lft (nilChkA (nth v38 0))) (fun v81 =>
  bnd (lft (fieldAddrA T 95 v81 1)) (fun v82 =>
  bnd (lft (fieldAddrA T 43 v82 0)) (fun v83 =>
  bnd (loadH T 33 v83) (fun v84 =>
  bnd (lft (binA T BinOp.eql 33 v84 (AV.int IntKind.i64 0))) (fun v85 =>
  bnd (guardM v85 true 1 (bnd (lft (fieldAddrA T 39 (AV.ip (acells v80)) 0)) (fun v86 =>
  bnd (lft (loadA T 3 v86)) (fun v87 =>
  bnd (lft (binA T BinOp.neq 3 v87 (AV.int IntKind.i64 1))) (fun v88 =>
  M.pure [v88]))))) (fun v89 =>
  bnd (lft (pickA v85 (nth v89 0) (AV.bool false))) (fun v90 =>
  condM v90 (bnd (call 71 [nth v38 0, AV.int IntKind.i64 13]) (fun v91 =>
  bnd (cellsNil 4 [] v91) (fun v92 =>
  M.pure (AV.agg [nth (acells v92) 0, nth (acells v92) 1, nth (acells v92) 2, nth (acells v92) 3])))) (bnd (lft (loadA T 39 (AV.ip (acells v80)))) (fun v93 =>
  bnd (cellsNil 4 [] v93) (fun v94 =>
  M.pure (AV.agg [nth (acells v94) 0, nth (acells v94) 1, nth (acells v94) 2, nth (acells v94) 3]))))))))))))))))))))))))))))))))))))))) (bnd (lft (loadA T 101 (nth v38 1))) (fun v95 =>
  bnd (lft (fieldAddrA T 28 (nth v38 2) 5)) (fun v96 =>
  bnd (lft (loadA T 26 v96)) (fun v97 =>
  bnd (lft (indexAddrA T 26 v97 (AV.int IntKind.i64 1))) (fun v98 =>
  bnd (lft (loadA T 28 v98)) (fun v99 =>
  bnd (call 51 [nth v38 0, v95, v99]) (fun v100 =>
  bnd (cellsM 4 v100) (fun v101 =>
  bnd (lft (nilChkA (nth v38 0))) (fun v102 =>
  bnd (lft (fieldAddrA T 95 v102 1)) (fun v103 =>
  bnd (lft (fieldAddrA T 43 v103 0)) (fun v104 =>
  bnd (loadH T 33 v104) (fun v105 =>
  bnd (lft (binA T BinOp.neq 33 v105 (AV.int IntKind.i64 0))) (fun v106 =>
  condM v106 (bnd (lft (loadA T 39 (AV.ip (acells v101)))) (fun v107 =>
  bnd (cellsNil 4 [] v107) (fun v108 =>
  M.pure (AV.agg [nth (acells v108) 0, nth (acells v108) 1, nth (acells v108) 2, nth (acells v108) 3])))) (bnd (lft (fieldAddrA T 28 (nth v38 2) 0)) (fun v109 =>
  bnd (lft (loadA T 3 v109)) (fun v110 =>
  bnd (lft (loadA T 39 (nth v38 3))) (fun v111 =>
  bnd (lft (loadA T 39 (AV.ip (acells v101)))) (fun v112 =>
  bnd (call 101 [nth v38 0, v110, v111, v112]) (fun v113 =>
  bnd (cellsNil 4 [] v113) (fun v114 =>
  M.pure (AV.agg [nth (acells v114) 0, nth (acells v114) 1, nth (acells v114) 2, nth (acells v114) 3])))))))))))))))))))))
theorem XL88_0 {call : FuncId → List AV → M AV} : Cont1 (L88_0 call fixW ) fun _n => L88_0 call fixW  := by
  intro v17 v17s hself v18
  unfold L88_0
  exact (LimM.bnd (LimM.const _) fun _ => (LimM.bnd (LimM.const _) fun _ => (LimM.bnd (LimM.const _) fun _ => (LimM.bnd (LimM.const _) fun _ => (condM_lim (LimM.bnd (LimM.const _) fun _ => (LimM.bnd (LimM.const _) fun _ => (LimM.bnd (LimM.const _) fun _ => (LimM.bnd (LimM.const _) fun _ => (LimM.bnd (LimM.const _) fun _ => (LimM.bnd (LimM.const _) fun _ => (LimM.bnd (LimM.const _) fun _ => (condM_lim (LimM.const _) (LimM.bnd (LimM.const _) fun _ => (hself _)))))))))) (LimM.const _))))))
theorem FL88_0 (call : FuncId → List AV → M AV) (vs : List AV) : fixW (L88_0 call fixW ) vs = L88_0 call fixW  (fixW (L88_0 call fixW )) vs := fixW_eq (XL88_0 ) vs
noncomputable def S88 (call : FuncId → List AV → M AV) (fx : Fix AV) (a0 a1 a2 : AV) : M AV :=
  bnd (lft (loadA T 101 (AV.ip (acells a1)))) (fun v0 =>
  bnd (lft (fieldAddrA T 28 (AV.ip (acells a2)) 5)) (fun v1 =>
  bnd (lft (loadA T 26 v1)) (fun v2 =>
  bnd (lft (indexAddrA T 26 v2 (AV.int IntKind.i64 0))) (fun v3 =>
  bnd (lft (loadA T 28 v3)) (fun v4 =>
  bnd (call 51 [a0, v0, v4]) (fun v5 =>
  bnd (cellsM 4 v5) (fun v6 =>
  bnd (lft (nilChkA a0)) (fun v7 =>
  bnd (lft (fieldAddrA T 95 v7 1)) (fun v8 =>
  bnd (lft (fieldAddrA T 43 v8 0)) (fun v9 =>
  bnd (loadH T 33 v9) (fun v10 =>
  bnd (lft (binA T BinOp.neq 33 v10 (AV.int IntKind.i64 0))) (fun v11 =>
  condM v11 (bnd (lft (loadA T 39 (AV.ip (acells v6)))) (fun v12 =>
  bnd (cellsNil 4 [] v12) (fun v13 =>
  M.pure (AV.agg [nth (acells v13) 0, nth (acells v13) 1, nth (acells v13) 2, nth (acells v13) 3])))) (bnd (lft (fieldAddrA T 28 (AV.ip (acells a2)) 0)) (fun v14 =>
  bnd (lft (loadA T 3 v14)) (fun v15 =>
  bnd (lft (binA T BinOp.eql 3 v15 (AV.int IntKind.i64 14))) (fun v16 =>
  condM v16 (fx (L88_0 call fx) [a0, AV.ip (acells a2), AV.ip (acells v6), AV.int IntKind.i64 0, AV.int IntKind.i64 0, AV.int IntKind.i64 0, AV.sl [], AV.sl []]) (jn (K88_0 call fx) (fun v115 =>
  bnd (lft (binA T BinOp.eql 3 v15 (AV.int IntKind.i64 10))) (fun v116 =>
  condM v116 (v115 [a0, AV.ip (acells a1), AV.ip (acells a2), AV.ip (acells v6), v116, AV.int IntKind.i64 0, AV.int IntKind.i64 0, AV.sl [], AV.sl []]) (bnd (lft (binA T BinOp.eql 3 v15 (AV.int IntKind.i64 11))) (fun v117 =>
  condM v117 (v115 [a0, AV.ip (acells a1), AV.ip (acells a2), AV.ip (acells v6), v117, AV.int IntKind.i64 0, AV.int IntKind.i64 0, AV.sl [], AV.sl []]) (bnd (lft (binA T BinOp.eql 3 v15 (AV.int IntKind.i64 8))) (fun v118 =>
  condM v118 (v115 [a0, AV.ip (acells a1), AV.ip (acells a2), AV.ip (acells v6), v118, AV.int IntKind.i64 0, AV.int IntKind.i64 0, AV.sl [], AV.sl []]) (bnd (lft (binA T BinOp.eql 3 v15 (AV.int IntKind.i64 9))) (fun v119 =>
  v115 [a0, AV.ip (acells a1), AV.ip (acells a2), AV.ip (acells v6), v119, AV.int IntKind.i64 0, AV.int IntKind.i64 0, AV.sl [], AV.sl []])))))))))))))))))))))))))
theorem E88 (call : FuncId → List AV → M AV) (fx : Fix AV) (a0 a1 a2 : AV) : evBody (pg.cx call Try.f88.ntmps ann88) fx Try.f88 (own 88) [a0, a1, a2] = S88 call fx a0 a1 a2 := by kernel_rfl
theorem C88 (a0 a1 a2 : AV) : callW pg 88 [a0, a1, a2] = S88 (callW pg) fixW a0 a1 a2 := (callW_heap hOther rfl rfl rfl _).trans (E88 _ _ a0 a1 a2)
/-- lading.ladingref19.Ascending -/
noncomputable def L91_0 (call : FuncId → List AV → M AV) (fx : Fix AV) (v0 : List AV → M AV) (v1 : List AV) : M AV :=
  bnd (lft (lenA T 25 (nth v1 0))) (fun v2 =>
  bnd (lft (binA T BinOp.lss 3 (nth v1 1) v2)) (fun v3 =>
  condM v3 (bnd (lft (binA T BinOp.sub 3 (nth v1 1) (AV.int IntKind.i64 1))) (fun v4 =>
  bnd (lft (indexAddrA T 25 (nth v1 0) v4)) (fun v5 =>
  bnd (lft (loadA T 9 v5)) (fun v6 =>
  bnd (lft (indexAddrA T 25 (nth v1 0) (nth v1 1))) (fun v7 =>
  bnd (lft (loadA T 9 v7)) (fun v8 =>
  bnd (lft (binA T BinOp.geq 9 v6 v8)) (fun v9 =>
  condM v9 (M.pure (AV.bool false)) (bnd (lft (binA T BinOp.add 3 (nth v1 1) (AV.int IntKind.i64 1))) (fun v10 =>
  v0 [nth v1 0, v10]))))))))) (M.pure (AV.bool true))))
theorem XL91_0 {call : FuncId → List AV → M AV} : Cont1 (L91_0 call fixW ) fun _n => L91_0 call fixW  := by
  intro v0 v0s hself v1
  unfold L91_0
  exact (LimM.bnd (LimM.const _) fun _ => (LimM.bnd (LimM.const _) fun _ => (condM_lim (LimM.bnd (LimM.const _) fun _ => (LimM.bnd (LimM.const _) fun _ => (LimM.bnd (LimM.const _) fun _ => (LimM.bnd (LimM.const _) fun _ => (LimM.bnd (LimM.const _) fun _ => (LimM.bnd (LimM.const _) fun _ => (condM_lim (LimM.const _) (LimM.bnd (LimM.const _) fun _ => (hself _))))))))) (LimM.const _))))
theorem FL91_0 (call : FuncId → List AV → M AV) (vs : List AV) : fixW (L91_0 call fixW ) vs = L91_0 call fixW  (fixW (L91_0 call fixW )) vs := fixW_eq (XL91_0 ) vs
noncomputable def S91 (call : FuncId → List AV → M AV) (fx : Fix AV) (a0 : AV) : M AV :=
  fx (L91_0 call fx) [a0, AV.int IntKind.i64 1]
theorem E91 (call : FuncId → List AV → M AV) (fx : Fix AV) (a0 : AV) : evBody (pg.cx call Try.f91.ntmps ann91) fx Try.f91 (own 91) [a0] = S91 call fx a0 := by kernel_rfl
theorem C91 (a0 : AV) : callW pg 91 [a0] = isoP (S91 (callW pg) fixW (cl noHs a0)) := (callW_iso hOther rfl rfl rfl _).trans (congrArg isoP (E91 _ _ (cl noHs a0)))
/-- slices.Clip[[]lading.api.Value,lading.api.Value] -/
noncomputable def S95 (call : FuncId → List AV → M AV) (fx : Fix AV) (a0 : AV) : M AV :=
  bnd (lft (lenA T 23 a0)) (fun v0 =>
  bnd (lft (lenA T 23 a0)) (fun v1 =>
  bnd (lft (sliceA T 23 a0 none (some v0) (some v1))) (fun v2 =>
  M.pure v2)))
theorem E95 (call : FuncId → List AV → M AV) (fx : Fix AV) (a0 : AV) : evBody (pg.cx call Try.f95.ntmps ann95) fx Try.f95 (own 95) [a0] = S95 call fx a0 := by kernel_rfl
theorem C95 (a0 : AV) : callW pg 95 [a0] = isoP (S95 (callW pg) fixW (cl noHs a0)) := (callW_iso hOther rfl rfl rfl _).trans (congrArg isoP (E95 _ _ (cl noHs a0)))
end Go.Proofs.Ytgbopmciiadmlaa
