/- Shallow programs of the functions, part 3: written by a program. No condition. -/
import Derived.Test.YtgbopmciiadmlaaAnn
namespace Go.Proofs.Ytgbopmciiadmlaa
open Go Go.Av
set_option maxRecDepth 100000
noncomputable def L6_0 (call : FuncId → List AV → M AV) (fx : Fix AV) (v3 : List AV → M AV) (v16 : List AV → M AV) (v17 : List AV) : M AV :=
  bnd (lft (lenA T 59 (nth v17 14))) (fun v18 =>
  bnd (lft (binA T BinOp.lss 3 (nth v17 9) v18)) (fun v19 =>
  condM v19 (bnd (lft (indexAddrA T 59 (nth v17 14) (nth v17 9))) (fun v20 =>
  bnd (lft (fieldAddrA T 67 v20 1)) (fun v21 =>
  bnd (storeH T 4 v21 (AV.bool true)) (fun v22 =>
  bnd (lft (binA T BinOp.add 3 (nth v17 9) (AV.int IntKind.i64 1))) (fun v23 =>
  v16 [nth v17 0, nth v17 1, nth v17 2, nth v17 3, nth v17 4, nth v17 5, nth v17 6, nth v17 7, nth v17 8, v23, nth v17 10, nth v17 11, nth v17 12, nth v17 13, nth v17 14, nth v17 15, nth v17 16, nth v17 17, nth v17 18]))))) (bnd (fzM (AV.agg [nth v17 10, nth v17 11, nth v17 12, nth v17 13, nth v17 14, nth v17 15, nth v17 16, nth v17 17, nth v17 18])) (fun v24 =>
  bnd (lft (buildSliceA T 22 1 [(0, v24)])) (fun v25 =>
  bnd (lft (appA T 22 (nth v17 7) v25)) (fun v26 =>
  bnd (lft (binA T BinOp.add 3 (nth v17 8) (AV.int IntKind.i64 1))) (fun v27 =>
  v3 [nth v17 0, nth v17 1, nth v17 2, nth v17 3, nth v17 4, nth v17 5, nth v17 6, v26, v27])))))))
noncomputable def L6_1 (call : FuncId → List AV → M AV) (fx : Fix AV) (v69 : List AV → M AV) (v73 : List AV → M AV) (v74 : List AV) : M AV :=
  bnd (lft (fieldAddrA T 43 (nth v74 7) 3)) (fun v75 =>
  bnd (lft (loadA T 41 v75)) (fun v76 =>
  bnd (lft (lenA T 41 v76)) (fun v77 =>
  bnd (lft (binA T BinOp.lss 3 (nth v74 10) v77)) (fun v78 =>
  condM v78 (bnd (guardM (nth v74 9) false 1 (bnd (lft (fieldAddrA T 43 (nth v74 7) 3)) (fun v79 =>
  bnd (lft (loadA T 41 v79)) (fun v80 =>
  bnd (lft (indexAddrA T 41 v80 (nth v74 10))) (fun v81 =>
  bnd (lft (fieldAddrA T 69 v81 0)) (fun v82 =>
  bnd (lft (loadA T 9 v82)) (fun v83 =>
  bnd (lft (indexAddrA T 22 (nth v74 5) (nth v74 8))) (fun v84 =>
  bnd (lft (fieldAddrA T 63 v84 0)) (fun v85 =>
  bnd (lft (loadA T 9 v85)) (fun v86 =>
  bnd (lft (binA T BinOp.eql 9 v83 v86)) (fun v87 =>
  M.pure [v87]))))))))))) (fun v88 =>
  bnd (lft (pickA (nth v74 9) (AV.bool true) (nth v88 0))) (fun v89 =>
  bnd (lft (binA T BinOp.add 3 (nth v74 10) (AV.int IntKind.i64 1))) (fun v90 =>
  v73 [nth v74 0, nth v74 1, nth v74 2, nth v74 3, nth v74 4, nth v74 5, nth v74 6, nth v74 7, nth v74 8, v89, v90])))) (bnd (lft (unA UnOp.not (nth v74 9))) (fun v91 =>
  bnd (guardM v91 true 1 (bnd (lft (fieldAddrA T 43 (nth v74 7) 4)) (fun v92 =>
  bnd (lft (loadA T 32 v92)) (fun v93 =>
  bnd (lft (indexAddrA T 32 v93 (nth v74 8))) (fun v94 =>
  bnd (lft (fieldAddrA T 47 v94 1)) (fun v95 =>
  bnd (lft (loadA T 23 v95)) (fun v96 =>
  bnd (lft (indexAddrA T 32 (nth v74 6) (nth v74 8))) (fun v97 =>
  bnd (lft (fieldAddrA T 47 v97 1)) (fun v98 =>
  bnd (lft (loadA T 23 v98)) (fun v99 =>
  bnd (noPan (call 26 [v96, v99])) (fun v100 =>
  bnd (lft (unA UnOp.not v100)) (fun v101 =>
  M.pure [v101])))))))))))) (fun v102 =>
  bnd (lft (pickA v91 (nth v102 0) (AV.bool false))) (fun v103 =>
  condM v103 (M.pure (AV.bool false)) (bnd (lft (binA T BinOp.add 3 (nth v74 8) (AV.int IntKind.i64 1))) (fun v104 =>
  v69 [nth v74 0, nth v74 1, nth v74 2, nth v74 3, nth v74 4, nth v74 5, nth v74 6, nth v74 7, v104]))))))))))
noncomputable def L6_2 (call : FuncId → List AV → M AV) (fx : Fix AV) (v69 : List AV → M AV) (v70 : List AV) : M AV :=
  bnd (lft (lenA T 22 (nth v70 5))) (fun v71 =>
  bnd (lft (binA T BinOp.lss 3 (nth v70 8) v71)) (fun v72 =>
  condM v72 (fx (L6_1 call fx v69) [nth v70 0, nth v70 1, nth v70 2, nth v70 3, nth v70 4, nth v70 5, nth v70 6, nth v70 7, nth v70 8, AV.bool false, AV.int IntKind.i64 0]) (bnd (lft (fieldAddrA T 43 (nth v70 7) 4)) (fun v105 =>
  bnd (lft (loadA T 32 v105)) (fun v106 =>
  bnd (call 17 [nth v70 5, v106, nth v70 0, nth v70 1, nth v70 2, AV.sl [], nth v70 3]) (fun v107 =>
  bnd (cellsM 8 v107) (fun v108 =>
  bnd (lft (fieldAddrA T 43 (nth v70 7) 4)) (fun v109 =>
  bnd (lft (loadA T 32 v109)) (fun v110 =>
  bnd (bnd (call 16 [v110]) fzM) (fun v111 =>
  bnd (lft (buildSliceA T 24 1 [(0, AV.int IntKind.i64 0)])) (fun v112 =>
  bnd (call 17 [nth v70 5, v111, nth v70 0, nth v70 1, nth v70 2, v112, nth v70 3]) (fun v113 =>
  bnd (cellsM 8 v113) (fun v114 =>
  bnd (guardM (nth v70 4) true 1 (bnd (lft (loadA T 43 (AV.ip (acells v108)))) (fun v115 =>
  bnd (lft (loadA T 43 (AV.ip (acells v114)))) (fun v116 =>
  bnd (call 13 [v115, v116]) (fun v117 =>
  M.pure [v117]))))) (fun v118 =>
  bnd (lft (pickA (nth v70 4) (nth v118 0) (AV.bool false))) (fun v119 =>
  M.pure v119)))))))))))))))
noncomputable def L6_3 (call : FuncId → List AV → M AV) (fx : Fix AV) (v3 : List AV → M AV) (v4 : List AV) : M AV :=
  bnd (lft (lenA T 22 (nth v4 0))) (fun v5 =>
  bnd (lft (binA T BinOp.lss 3 (nth v4 8) v5)) (fun v6 =>
  condM v6 (bnd (lft (indexAddrA T 22 (nth v4 0) (nth v4 8))) (fun v7 =>
  bnd (lft (loadA T 63 v7)) (fun v8 =>
  bnd (cellsNil 9 [] v8) (fun v9 =>
  bnd (lft (buildSliceA T 59 0 [])) (fun v10 =>
  bnd (lft (indexAddrA T 22 (nth v4 0) (nth v4 8))) (fun v11 =>
  bnd (lft (fieldAddrA T 63 v11 4)) (fun v12 =>
  bnd (lft (loadA T 59 v12)) (fun v13 =>
  bnd (appH T 59 true v10 v13) (fun v14 =>
  bnd (cell1M v14) (fun v15 =>
  fx (L6_0 call fx v3) [nth v4 0, nth v4 1, nth v4 2, nth v4 3, nth v4 4, nth v4 5, nth v4 6, nth v4 7, nth v4 8, AV.int IntKind.i64 0, nth (acells v9) 0, nth (acells v9) 1, nth (acells v9) 2, nth (acells v9) 3, v14, nth (acells v9) 5, nth (acells v9) 6, nth (acells v9) 7, nth (acells v9) 8])))))))))) (bnd (call 10 [nth v4 7]) (fun v28 =>
  bnd (lft (extractA v28 0)) (fun v29 =>
  bnd (lft (extractA v28 1)) (fun v30 =>
  bnd (call 14 [nth v4 7, nth v4 1, nth v4 2, nth v4 3, nth v4 4, nth v4 5]) (fun v31 =>
  bnd (cellsM 8 v31) (fun v32 =>
  bnd (lft (binA T BinOp.neq 33 v30 (AV.int IntKind.i64 0))) (fun v33 =>
  condM v33 (bnd (guardM (nth v4 6) true 1 (bnd (lft (fieldAddrA T 43 (AV.ip (acells v32)) 0)) (fun v34 =>
  bnd (lft (loadA T 33 v34)) (fun v35 =>
  bnd (lft (binA T BinOp.eql 33 v35 v30)) (fun v36 =>
  M.pure [v36]))))) (fun v37 =>
  bnd (lft (pickA (nth v4 6) (nth v37 0) (AV.bool false))) (fun v38 =>
  bnd (guardM v38 true 1 (bnd (lft (fieldAddrA T 43 (AV.ip (acells v32)) 4)) (fun v39 =>
  bnd (lft (loadA T 32 v39)) (fun v40 =>
  bnd (lft (lenA T 32 v40)) (fun v41 =>
  bnd (lft (binA T BinOp.eql 3 v41 (AV.int IntKind.i64 0))) (fun v42 =>
  M.pure [v42])))))) (fun v43 =>
  bnd (lft (pickA v38 (nth v43 0) (AV.bool false))) (fun v44 =>
  M.pure v44))))) (bnd (lft (fieldAddrA T 43 (AV.ip (acells v32)) 4)) (fun v45 =>
  bnd (lft (loadA T 32 v45)) (fun v46 =>
  bnd (lft (lenA T 32 v46)) (fun v47 =>
  bnd (lft (binA T BinOp.eql 3 v47 (AV.int IntKind.i64 0))) (fun v48 =>
  condM v48 (bnd (guardM (nth v4 6) true 1 (bnd (lft (fieldAddrA T 43 (AV.ip (acells v32)) 0)) (fun v49 =>
  bnd (lft (loadA T 33 v49)) (fun v50 =>
  bnd (lft (binA T BinOp.neq 33 v50 (AV.int IntKind.i64 0))) (fun v51 =>
  M.pure [v51]))))) (fun v52 =>
  bnd (guardM (nth v52 0) false 1 (bnd (lft (lenA T 22 (nth v4 0))) (fun v53 =>
  bnd (lft (binA T BinOp.eql 3 v53 (AV.int IntKind.i64 0))) (fun v54 =>
  M.pure [v54])))) (fun v55 =>
  bnd (guardM (nth v4 6) true 1 (bnd (lft (pickA (nth v52 0) (AV.bool true) (nth v55 0))) (fun v56 =>
  M.pure [v56]))) (fun v57 =>
  bnd (lft (pickA (nth v4 6) (nth v57 0) (AV.bool false))) (fun v58 =>
  M.pure v58))))) (bnd (lft (fieldAddrA T 43 (AV.ip (acells v32)) 4)) (fun v59 =>
  bnd (lft (loadA T 32 v59)) (fun v60 =>
  bnd (lft (lenA T 32 v60)) (fun v61 =>
  bnd (lft (lenA T 22 (nth v4 7))) (fun v62 =>
  bnd (lft (binA T BinOp.neq 3 v61 v62)) (fun v63 =>
  bnd (guardM v63 false 1 (bnd (lft (lenA T 32 v29)) (fun v64 =>
  bnd (lft (lenA T 22 (nth v4 7))) (fun v65 =>
  bnd (lft (binA T BinOp.neq 3 v64 v65)) (fun v66 =>
  M.pure [v66]))))) (fun v67 =>
  bnd (lft (pickA v63 (AV.bool true) (nth v67 0))) (fun v68 =>
  condM v68 (M.pure (AV.bool false)) (fx (L6_2 call fx) [nth v4 1, nth v4 2, nth v4 3, nth v4 5, nth v4 6, nth v4 7, v29, AV.ip (acells v32), AV.int IntKind.i64 0])))))))))))))))))))))))
theorem XL6_0 {call : FuncId → List AV → M AV} {v3 : List AV → M AV} {v3s : Nat → List AV → M AV} (hv3 : LimF v3 fun n => v3s n) : Cont1 (L6_0 call fixW v3) fun n => L6_0 call fixW (v3s n) := by
  intro v16 v16s hself v17
  unfold L6_0
  exact (LimM.bnd (LimM.const _) fun _ => (LimM.bnd (LimM.const _) fun _ => (condM_lim (LimM.bnd (LimM.const _) fun _ => (LimM.bnd (LimM.const _) fun _ => (LimM.bnd (LimM.const _) fun _ => (LimM.bnd (LimM.const _) fun _ => (hself _))))) (LimM.bnd (LimM.const _) fun _ => (LimM.bnd (LimM.const _) fun _ => (LimM.bnd (LimM.const _) fun _ => (LimM.bnd (LimM.const _) fun _ => (hv3 _))))))))
theorem YL6_0 {call : FuncId → List AV → M AV} {v3 : List AV → M AV} {v3s : Nat → List AV → M AV} (hv3 : LimF v3 fun n => v3s n) : LimF (fixW (L6_0 call fixW v3)) fun n => fixW (L6_0 call fixW (v3s n)) := fixW_limF (XL6_0 hv3) (XL6_0 (LimF.const _)) fun _ => XL6_0 (LimF.const _)
theorem FL6_0 (call : FuncId → List AV → M AV) (v3 : List AV → M AV) (vs : List AV) : fixW (L6_0 call fixW v3) vs = L6_0 call fixW v3 (fixW (L6_0 call fixW v3)) vs := fixW_eq (XL6_0 (LimF.const _)) vs
theorem XL6_1 {call : FuncId → List AV → M AV} {v69 : List AV → M AV} {v69s : Nat → List AV → M AV} (hv69 : LimF v69 fun n => v69s n) : Cont1 (L6_1 call fixW v69) fun n => L6_1 call fixW (v69s n) := by
  intro v73 v73s hself v74
  unfold L6_1
  exact (LimM.bnd (LimM.const _) fun _ => (LimM.bnd (LimM.const _) fun _ => (LimM.bnd (LimM.const _) fun _ => (LimM.bnd (LimM.const _) fun _ => (condM_lim (LimM.bnd (LimM.const _) fun _ => (LimM.bnd (LimM.const _) fun _ => (LimM.bnd (LimM.const _) fun _ => (hself _)))) (LimM.bnd (LimM.const _) fun _ => (LimM.bnd (LimM.const _) fun _ => (LimM.bnd (LimM.const _) fun _ => (condM_lim (LimM.const _) (LimM.bnd (LimM.const _) fun _ => (hv69 _)))))))))))
theorem YL6_1 {call : FuncId → List AV → M AV} {v69 : List AV → M AV} {v69s : Nat → List AV → M AV} (hv69 : LimF v69 fun n => v69s n) : LimF (fixW (L6_1 call fixW v69)) fun n => fixW (L6_1 call fixW (v69s n)) := fixW_limF (XL6_1 hv69) (XL6_1 (LimF.const _)) fun _ => XL6_1 (LimF.const _)
theorem FL6_1 (call : FuncId → List AV → M AV) (v69 : List AV → M AV) (vs : List AV) : fixW (L6_1 call fixW v69) vs = L6_1 call fixW v69 (fixW (L6_1 call fixW v69)) vs := fixW_eq (XL6_1 (LimF.const _)) vs
theorem XL6_2 {call : FuncId → List AV → M AV} : Cont1 (L6_2 call fixW ) fun _n => L6_2 call fixW  := by
  intro v69 v69s hself v70
  unfold L6_2
  exact (LimM.bnd (LimM.const _) fun _ => (LimM.bnd (LimM.const _) fun _ => (condM_lim ((YL6_1 hself) _) (LimM.const _))))
theorem FL6_2 (call : FuncId → List AV → M AV) (vs : List AV) : fixW (L6_2 call fixW ) vs = L6_2 call fixW  (fixW (L6_2 call fixW )) vs := fixW_eq (XL6_2 ) vs
theorem XL6_3 {call : FuncId → List AV → M AV} : Cont1 (L6_3 call fixW ) fun _n => L6_3 call fixW  := by
  intro v3 v3s hself v4
  unfold L6_3
  exact (LimM.bnd (LimM.const _) fun _ => (LimM.bnd (LimM.const _) fun _ => (condM_lim (LimM.bnd (LimM.const _) fun _ => (LimM.bnd (LimM.const _) fun _ => (LimM.bnd (LimM.const _) fun _ => (LimM.bnd (LimM.const _) fun _ => (LimM.bnd (LimM.const _) fun _ => (LimM.bnd (LimM.const _) fun _ => (LimM.bnd (LimM.const _) fun _ => (LimM.bnd (LimM.const _) fun _ => (LimM.bnd (LimM.const _) fun _ => ((YL6_0 hself) _)))))))))) (LimM.const _))))
theorem FL6_3 (call : FuncId → List AV → M AV) (vs : List AV) : fixW (L6_3 call fixW ) vs = L6_3 call fixW  (fixW (L6_3 call fixW )) vs := fixW_eq (XL6_3 ) vs
noncomputable def S6 (call : FuncId → List AV → M AV) (fx : Fix AV) (a0 a1 a2 a3 a4 a5 : AV) : M AV :=
  bnd (call 7 []) (fun v0 =>
  bnd (call 8 [a0, a3, a4, a5]) (fun v1 =>
  bnd (lft (unA UnOp.not v1)) (fun v2 =>
  condM v2 (M.pure v0) (fx (L6_3 call fx) [a0, a1, a2, a3, a4, a5, v0, AV.sl [], AV.int IntKind.i64 0]))))
theorem E6 (call : FuncId → List AV → M AV) (fx : Fix AV) (a0 a1 a2 a3 a4 a5 : AV) : evBody (pg.cx call Try.f6.ntmps ann6) fx Try.f6 (own 6) [a0, a1, a2, a3, a4, a5] = S6 call fx a0 a1 a2 a3 a4 a5 := by kernel_rfl
theorem C6 (a0 a1 a2 a3 a4 a5 : AV) : callW pg 6 [a0, a1, a2, a3, a4, a5] = isoP (S6 (callW pg) fixW (cl noHs a0) (cl noHs a1) (cl noHs a2) (cl noHs a3) (cl noHs a4) (cl noHs a5)) := (callW_iso hOther rfl rfl rfl _).trans (congrArg isoP (E6 _ _ (cl noHs a0) (cl noHs a1) (cl noHs a2) (cl noHs a3) (cl noHs a4) (cl noHs a5)))
noncomputable def L10_0 (call : FuncId → List AV → M AV) (fx : Fix AV) (v3 : List AV → M AV) (v23 : List AV → M AV) (v24 : List AV) : M AV :=
  bnd (lft (binA T BinOp.lss 3 (nth v24 6) (nth v24 5))) (fun v25 =>
  condM v25 (bnd (lft (indexAddrA T 26 (nth v24 4) (nth v24 6))) (fun v26 =>
  bnd (lft (loadA T 28 v26)) (fun v27 =>
  bnd (cellsM 6 v27) (fun v28 =>
  bnd (lft (loadA T 28 (AV.ip (acells v28)))) (fun v29 =>
  bnd (call 19 [v29, AV.sl [], AV.sl []]) (fun v30 =>
  bnd (lft (extractA v30 0)) (fun v31 =>
  bnd (lft (extractA v30 1)) (fun v32 =>
  bnd (cellsM 4 v31) (fun v33 =>
  bnd (lft (binA T BinOp.neq 33 v32 (AV.int IntKind.i64 0))) (fun v34 =>
  condM v34 (M.pure (AV.tup [AV.sl [], v32])) (bnd (lft (loadA T 39 (AV.ip (acells v33)))) (fun v35 =>
  bnd (lft (buildSliceA T 23 1 [(0, v35)])) (fun v36 =>
  bnd (lft (appA T 23 (nth v24 8) v36)) (fun v37 =>
  bnd (cell1M v37) (fun v38 =>
  bnd (lft (binA T BinOp.add 3 (nth v24 6) (AV.int IntKind.i64 1))) (fun v39 =>
  v23 [nth v24 0, nth v24 1, nth v24 2, nth v24 3, nth v24 4, nth v24 5, v39, nth v24 7, v37])))))))))))))))) (bnd (lft (buildSliceA T 32 1 [(0, AV.agg [nth v24 7, nth v24 8])])) (fun v40 =>
  bnd (lft (appA T 32 (nth v24 0) v40)) (fun v41 =>
  bnd (lft (binA T BinOp.add 3 (nth v24 3) (AV.int IntKind.i64 1))) (fun v42 =>
  v3 [v41, nth v24 1, nth v24 2, v42])))))
noncomputable def L10_1 (call : FuncId → List AV → M AV) (fx : Fix AV) (v3 : List AV → M AV) (v4 : List AV) : M AV :=
  bnd (lft (binA T BinOp.lss 3 (nth v4 3) (nth v4 2))) (fun v5 =>
  condM v5 (bnd (lft (indexAddrA T 22 (nth v4 1) (nth v4 3))) (fun v6 =>
  bnd (lft (loadA T 63 v6)) (fun v7 =>
  bnd (cellsM 9 v7) (fun v8 =>
  bnd (lft (fieldAddrA T 63 (AV.ip (acells v8)) 0)) (fun v9 =>
  bnd (lft (loadA T 9 v9)) (fun v10 =>
  bnd (lft (buildA T true 47 [(0, v10)])) (fun v11 =>
  bnd (cellsNil 2 [1] v11) (fun v12 =>
  bnd (lft (fieldAddrA T 63 (AV.ip (acells v8)) 3)) (fun v13 =>
  bnd (lft (loadA T 26 v13)) (fun v14 =>
  bnd (lft (lenA T 26 v14)) (fun v15 =>
  bnd (lft (fieldAddrA T 63 (AV.ip (acells v8)) 2)) (fun v16 =>
  bnd (lft (loadA T 58 v16)) (fun v17 =>
  bnd (lft (lenA T 58 v17)) (fun v18 =>
  bnd (lft (binA T BinOp.neq 3 v15 v18)) (fun v19 =>
  condM v19 (M.pure (AV.tup [AV.sl [], AV.int IntKind.i64 13])) (bnd (lft (fieldAddrA T 63 (AV.ip (acells v8)) 3)) (fun v20 =>
  bnd (lft (loadA T 26 v20)) (fun v21 =>
  bnd (lft (lenA T 26 v21)) (fun v22 =>
  fx (L10_0 call fx v3) [nth v4 0, nth v4 1, nth v4 2, nth v4 3, v21, v22, AV.int IntKind.i64 0, nth (acells v12) 0, AV.sl []]))))))))))))))))))) (M.pure (AV.tup [nth v4 0, AV.int IntKind.i64 0])))
theorem XL10_0 {call : FuncId → List AV → M AV} {v3 : List AV → M AV} {v3s : Nat → List AV → M AV} (hv3 : LimF v3 fun n => v3s n) : Cont1 (L10_0 call fixW v3) fun n => L10_0 call fixW (v3s n) := by
  intro v23 v23s hself v24
  unfold L10_0
  exact (LimM.bnd (LimM.const _) fun _ => (condM_lim (LimM.bnd (LimM.const _) fun _ => (LimM.bnd (LimM.const _) fun _ => (LimM.bnd (LimM.const _) fun _ => (LimM.bnd (LimM.const _) fun _ => (LimM.bnd (LimM.const _) fun _ => (LimM.bnd (LimM.const _) fun _ => (LimM.bnd (LimM.const _) fun _ => (LimM.bnd (LimM.const _) fun _ => (LimM.bnd (LimM.const _) fun _ => (condM_lim (LimM.const _) (LimM.bnd (LimM.const _) fun _ => (LimM.bnd (LimM.const _) fun _ => (LimM.bnd (LimM.const _) fun _ => (LimM.bnd (LimM.const _) fun _ => (LimM.bnd (LimM.const _) fun _ => (hself _)))))))))))))))) (LimM.bnd (LimM.const _) fun _ => (LimM.bnd (LimM.const _) fun _ => (LimM.bnd (LimM.const _) fun _ => (hv3 _))))))
theorem YL10_0 {call : FuncId → List AV → M AV} {v3 : List AV → M AV} {v3s : Nat → List AV → M AV} (hv3 : LimF v3 fun n => v3s n) : LimF (fixW (L10_0 call fixW v3)) fun n => fixW (L10_0 call fixW (v3s n)) := fixW_limF (XL10_0 hv3) (XL10_0 (LimF.const _)) fun _ => XL10_0 (LimF.const _)
theorem FL10_0 (call : FuncId → List AV → M AV) (v3 : List AV → M AV) (vs : List AV) : fixW (L10_0 call fixW v3) vs = L10_0 call fixW v3 (fixW (L10_0 call fixW v3)) vs := fixW_eq (XL10_0 (LimF.const _)) vs
theorem XL10_1 {call : FuncId → List AV → M AV} : Cont1 (L10_1 call fixW ) fun _n => L10_1 call fixW  := by
  intro v3 v3s hself v4
  unfold L10_1
  exact (LimM.bnd (LimM.const _) fun _ => (condM_lim (LimM.bnd (LimM.const _) fun _ => (LimM.bnd (LimM.const _) fun _ => (LimM.bnd (LimM.const _) fun _ => (LimM.bnd (LimM.const _) fun _ => (LimM.bnd (LimM.const _) fun _ => (LimM.bnd (LimM.const _) fun _ => (LimM.bnd (LimM.const _) fun _ => (LimM.bnd (LimM.const _) fun _ => (LimM.bnd (LimM.const _) fun _ => (LimM.bnd (LimM.const _) fun _ => (LimM.bnd (LimM.const _) fun _ => (LimM.bnd (LimM.const _) fun _ => (LimM.bnd (LimM.const _) fun _ => (LimM.bnd (LimM.const _) fun _ => (condM_lim (LimM.const _) (LimM.bnd (LimM.const _) fun _ => (LimM.bnd (LimM.const _) fun _ => (LimM.bnd (LimM.const _) fun _ => ((YL10_0 hself) _))))))))))))))))))) (LimM.const _)))
theorem FL10_1 (call : FuncId → List AV → M AV) (vs : List AV) : fixW (L10_1 call fixW ) vs = L10_1 call fixW  (fixW (L10_1 call fixW )) vs := fixW_eq (XL10_1 ) vs
noncomputable def S10 (call : FuncId → List AV → M AV) (fx : Fix AV) (a0 : AV) : M AV :=
  bnd (call 32 [a0]) (fun v0 =>
  bnd (lft (binA T BinOp.neq 33 v0 (AV.int IntKind.i64 0))) (fun v1 =>
  condM v1 (M.pure (AV.tup [AV.sl [], v0])) (bnd (lft (lenA T 22 a0)) (fun v2 =>
  fx (L10_1 call fx) [AV.sl [], a0, v2, AV.int IntKind.i64 0]))))
theorem E10 (call : FuncId → List AV → M AV) (fx : Fix AV) (a0 : AV) : evBody (pg.cx call Try.f10.ntmps ann10) fx Try.f10 (own 10) [a0] = S10 call fx a0 := by kernel_rfl
theorem C10 (a0 : AV) : callW pg 10 [a0] = isoP (S10 (callW pg) fixW (cl noHs a0)) := (callW_iso hOther rfl rfl rfl _).trans (congrArg isoP (E10 _ _ (cl noHs a0)))
noncomputable def L25_0 (call : FuncId → List AV → M AV) (fx : Fix AV) (v32 : List AV → M AV) (v33 : List AV) : M AV :=
  bnd (lft (fieldAddrA T 43 (nth v33 1) 3)) (fun v34 =>
  bnd (lft (loadA T 41 v34)) (fun v35 =>
  bnd (lft (lenA T 41 v35)) (fun v36 =>
  bnd (lft (binA T BinOp.lss 3 (nth v33 2) v36)) (fun v37 =>
  condM v37 (bnd (lft (fieldAddrA T 43 (nth v33 0) 3)) (fun v38 =>
  bnd (lft (loadA T 41 v38)) (fun v39 =>
  bnd (lft (indexAddrA T 41 v39 (nth v33 2))) (fun v40 =>
  bnd (lft (fieldAddrA T 69 v40 0)) (fun v41 =>
  bnd (lft (loadA T 9 v41)) (fun v42 =>
  bnd (lft (fieldAddrA T 43 (nth v33 1) 3)) (fun v43 =>
  bnd (lft (loadA T 41 v43)) (fun v44 =>
  bnd (lft (indexAddrA T 41 v44 (nth v33 2))) (fun v45 =>
  bnd (lft (fieldAddrA T 69 v45 0)) (fun v46 =>
  bnd (lft (loadA T 9 v46)) (fun v47 =>
  bnd (lft (binA T BinOp.neq 9 v42 v47)) (fun v48 =>
  bnd (guardM v48 false 1 (bnd (lft (fieldAddrA T 43 (nth v33 0) 3)) (fun v49 =>
  bnd (lft (loadA T 41 v49)) (fun v50 =>
  bnd (lft (indexAddrA T 41 v50 (nth v33 2))) (fun v51 =>
  bnd (lft (fieldAddrA T 69 v51 1)) (fun v52 =>
  bnd (lft (loadA T 9 v52)) (fun v53 =>
  bnd (lft (fieldAddrA T 43 (nth v33 1) 3)) (fun v54 =>
  bnd (lft (loadA T 41 v54)) (fun v55 =>
  bnd (lft (indexAddrA T 41 v55 (nth v33 2))) (fun v56 =>
  bnd (lft (fieldAddrA T 69 v56 1)) (fun v57 =>
  bnd (lft (loadA T 9 v57)) (fun v58 =>
  bnd (lft (binA T BinOp.neq 9 v53 v58)) (fun v59 =>
  M.pure [v59]))))))))))))) (fun v60 =>
  bnd (lft (pickA v48 (AV.bool true) (nth v60 0))) (fun v61 =>
  bnd (guardM v61 false 1 (bnd (lft (fieldAddrA T 43 (nth v33 0) 3)) (fun v62 =>
  bnd (lft (loadA T 41 v62)) (fun v63 =>
  bnd (lft (indexAddrA T 41 v63 (nth v33 2))) (fun v64 =>
  bnd (lft (fieldAddrA T 69 v64 2)) (fun v65 =>
  bnd (lft (loadA T 23 v65)) (fun v66 =>
  bnd (lft (fieldAddrA T 43 (nth v33 1) 3)) (fun v67 =>
  bnd (lft (loadA T 41 v67)) (fun v68 =>
  bnd (lft (indexAddrA T 41 v68 (nth v33 2))) (fun v69 =>
  bnd (lft (fieldAddrA T 69 v69 2)) (fun v70 =>
  bnd (lft (loadA T 23 v70)) (fun v71 =>
  bnd (noPan (call 26 [v66, v71])) (fun v72 =>
  bnd (lft (unA UnOp.not v72)) (fun v73 =>
  M.pure [v73])))))))))))))) (fun v74 =>
  bnd (lft (pickA v61 (AV.bool true) (nth v74 0))) (fun v75 =>
  condM v75 (M.pure (AV.bool false)) (bnd (lft (binA T BinOp.add 3 (nth v33 2) (AV.int IntKind.i64 1))) (fun v76 =>
  v32 [nth v33 0, nth v33 1, v76])))))))))))))))))) (M.pure (AV.bool true))))))
noncomputable def L25_1 (call : FuncId → List AV → M AV) (fx : Fix AV) (v16 : List AV → M AV) (v17 : List AV) : M AV :=
  bnd (lft (fieldAddrA T 43 (nth v17 1) 2)) (fun v18 =>
  bnd (lft (loadA T 40 v18)) (fun v19 =>
  bnd (lft (lenA T 40 v19)) (fun v20 =>
  bnd (lft (binA T BinOp.lss 3 (nth v17 2) v20)) (fun v21 =>
  condM v21 (bnd (lft (fieldAddrA T 43 (nth v17 0) 2)) (fun v22 =>
  bnd (lft (loadA T 40 v22)) (fun v23 =>
  bnd (lft (indexAddrA T 40 v23 (nth v17 2))) (fun v24 =>
  bnd (lft (loadA T 55 v24)) (fun v25 =>
  bnd (lft (fieldAddrA T 43 (nth v17 1) 2)) (fun v26 =>
  bnd (lft (loadA T 40 v26)) (fun v27 =>
  bnd (lft (indexAddrA T 40 v27 (nth v17 2))) (fun v28 =>
  bnd (lft (loadA T 55 v28)) (fun v29 =>
  bnd (lft (binA T BinOp.neq 55 v25 v29)) (fun v30 =>
  condM v30 (M.pure (AV.bool false)) (bnd (lft (binA T BinOp.add 3 (nth v17 2) (AV.int IntKind.i64 1))) (fun v31 =>
  v16 [nth v17 0, nth v17 1, v31])))))))))))) (fx (L25_0 call fx) [nth v17 0, nth v17 1, AV.int IntKind.i64 0])))))
theorem XL25_0 {call : FuncId → List AV → M AV} : Cont1 (L25_0 call fixW ) fun _n => L25_0 call fixW  := by
  intro v32 v32s hself v33
  unfold L25_0
  exact (LimM.bnd (LimM.const _) fun _ => (LimM.bnd (LimM.const _) fun _ => (LimM.bnd (LimM.const _) fun _ => (LimM.bnd (LimM.const _) fun _ => (condM_lim (LimM.bnd (LimM.const _) fun _ => (LimM.bnd (LimM.const _) fun _ => (LimM.bnd (LimM.const _) fun _ => (LimM.bnd (LimM.const _) fun _ => (LimM.bnd (LimM.const _) fun _ => (LimM.bnd (LimM.const _) fun _ => (LimM.bnd (LimM.const _) fun _ => (LimM.bnd (LimM.const _) fun _ => (LimM.bnd (LimM.const _) fun _ => (LimM.bnd (LimM.const _) fun _ => (LimM.bnd (LimM.const _) fun _ => (LimM.bnd (LimM.const _) fun _ => (LimM.bnd (LimM.const _) fun _ => (LimM.bnd (LimM.const _) fun _ => (LimM.bnd (LimM.const _) fun _ => (condM_lim (LimM.const _) (LimM.bnd (LimM.const _) fun _ => (hself _)))))))))))))))))) (LimM.const _))))))
theorem FL25_0 (call : FuncId → List AV → M AV) (vs : List AV) : fixW (L25_0 call fixW ) vs = L25_0 call fixW  (fixW (L25_0 call fixW )) vs := fixW_eq (XL25_0 ) vs
theorem XL25_1 {call : FuncId → List AV → M AV} : Cont1 (L25_1 call fixW ) fun _n => L25_1 call fixW  := by
  intro v16 v16s hself v17
  unfold L25_1
  exact (LimM.bnd (LimM.const _) fun _ => (LimM.bnd (LimM.const _) fun _ => (LimM.bnd (LimM.const _) fun _ => (LimM.bnd (LimM.const _) fun _ => (condM_lim (LimM.bnd (LimM.const _) fun _ => (LimM.bnd (LimM.const _) fun _ => (LimM.bnd (LimM.const _) fun _ => (LimM.bnd (LimM.const _) fun _ => (LimM.bnd (LimM.const _) fun _ => (LimM.bnd (LimM.const _) fun _ => (LimM.bnd (LimM.const _) fun _ => (LimM.bnd (LimM.const _) fun _ => (LimM.bnd (LimM.const _) fun _ => (condM_lim (LimM.const _) (LimM.bnd (LimM.const _) fun _ => (hself _)))))))))))) (LimM.const _))))))
theorem FL25_1 (call : FuncId → List AV → M AV) (vs : List AV) : fixW (L25_1 call fixW ) vs = L25_1 call fixW  (fixW (L25_1 call fixW )) vs := fixW_eq (XL25_1 ) vs
noncomputable def S25 (call : FuncId → List AV → M AV) (fx : Fix AV) (a0 a1 : AV) : M AV :=
  bnd (lft (fieldAddrA T 43 (AV.ip (acells a1)) 2)) (fun v0 =>
  bnd (lft (loadA T 40 v0)) (fun v1 =>
  bnd (lft (lenA T 40 v1)) (fun v2 =>
  bnd (lft (fieldAddrA T 43 (AV.ip (acells a0)) 2)) (fun v3 =>
  bnd (lft (loadA T 40 v3)) (fun v4 =>
  bnd (lft (lenA T 40 v4)) (fun v5 =>
  bnd (lft (binA T BinOp.gtr 3 v2 v5)) (fun v6 =>
  bnd (guardM v6 false 1 (bnd (lft (fieldAddrA T 43 (AV.ip (acells a1)) 3)) (fun v7 =>
  bnd (lft (loadA T 41 v7)) (fun v8 =>
  bnd (lft (lenA T 41 v8)) (fun v9 =>
  bnd (lft (fieldAddrA T 43 (AV.ip (acells a0)) 3)) (fun v10 =>
  bnd (lft (loadA T 41 v10)) (fun v11 =>
  bnd (lft (lenA T 41 v11)) (fun v12 =>
  bnd (lft (binA T BinOp.gtr 3 v9 v12)) (fun v13 =>
  M.pure [v13]))))))))) (fun v14 =>
  bnd (lft (pickA v6 (AV.bool true) (nth v14 0))) (fun v15 =>
  condM v15 (M.pure (AV.bool false)) (fx (L25_1 call fx) [AV.ip (acells a0), AV.ip (acells a1), AV.int IntKind.i64 0]))))))))))
theorem E25 (call : FuncId → List AV → M AV) (fx : Fix AV) (a0 a1 : AV) : evBody (pg.cx call Try.f25.ntmps ann25) fx Try.f25 (own 25) [a0, a1] = S25 call fx a0 a1 := by kernel_rfl
theorem C25 (a0 a1 : AV) : callW pg 25 [a0, a1] = isoP (S25 (callW pg) fixW (cl noHs a0) (cl noHs a1)) := (callW_iso hOther rfl rfl rfl _).trans (congrArg isoP (E25 _ _ (cl noHs a0) (cl noHs a1)))
noncomputable def L31_0 (call : FuncId → List AV → M AV) (fx : Fix AV) (v2 : List AV → M AV) (v3 : List AV) : M AV :=
  bnd (lft (fieldAddrA T 39 (nth v3 2) 3)) (fun v4 =>
  bnd (lft (loadA T 23 v4)) (fun v5 =>
  bnd (lft (lenA T 23 v5)) (fun v6 =>
  bnd (lft (binA T BinOp.lss 3 (nth v3 4) v6)) (fun v7 =>
  bnd (guardM v7 true 1 (bnd (lft (binA T BinOp.leq 3 (nth v3 3) (nth v3 0))) (fun v8 =>
  M.pure [v8]))) (fun v9 =>
  bnd (lft (pickA v7 (nth v9 0) (AV.bool false))) (fun v10 =>
  condM v10 (bnd (lft (fieldAddrA T 39 (nth v3 2) 3)) (fun v11 =>
  bnd (lft (loadA T 23 v11)) (fun v12 =>
  bnd (lft (indexAddrA T 23 v12 (nth v3 4))) (fun v13 =>
  bnd (lft (loadA T 39 v13)) (fun v14 =>
  bnd (lft (binA T BinOp.sub 3 (nth v3 0) (nth v3 3))) (fun v15 =>
  bnd (lft (binA T BinOp.sub 3 (nth v3 1) (AV.int IntKind.i64 1))) (fun v16 =>
  bnd (call 31 [v14, v15, v16]) (fun v17 =>
  bnd (lft (binA T BinOp.add 3 (nth v3 3) v17)) (fun v18 =>
  bnd (lft (binA T BinOp.add 3 (nth v3 4) (AV.int IntKind.i64 1))) (fun v19 =>
  v2 [nth v3 0, nth v3 1, nth v3 2, v18, v19])))))))))) (M.pure (nth v3 3))))))))
theorem XL31_0 {call : FuncId → List AV → M AV} : Cont1 (L31_0 call fixW ) fun _n => L31_0 call fixW  := by
  intro v2 v2s hself v3
  unfold L31_0
  exact (LimM.bnd (LimM.const _) fun _ => (LimM.bnd (LimM.const _) fun _ => (LimM.bnd (LimM.const _) fun _ => (LimM.bnd (LimM.const _) fun _ => (LimM.bnd (LimM.const _) fun _ => (LimM.bnd (LimM.const _) fun _ => (condM_lim (LimM.bnd (LimM.const _) fun _ => (LimM.bnd (LimM.const _) fun _ => (LimM.bnd (LimM.const _) fun _ => (LimM.bnd (LimM.const _) fun _ => (LimM.bnd (LimM.const _) fun _ => (LimM.bnd (LimM.const _) fun _ => (LimM.bnd (LimM.const _) fun _ => (LimM.bnd (LimM.const _) fun _ => (LimM.bnd (LimM.const _) fun _ => (hself _)))))))))) (LimM.const _))))))))
theorem FL31_0 (call : FuncId → List AV → M AV) (vs : List AV) : fixW (L31_0 call fixW ) vs = L31_0 call fixW  (fixW (L31_0 call fixW )) vs := fixW_eq (XL31_0 ) vs
noncomputable def S31 (call : FuncId → List AV → M AV) (fx : Fix AV) (a0 a1 a2 : AV) : M AV :=
  bnd (lft (binA T BinOp.lss 3 a2 (AV.int IntKind.i64 1))) (fun v0 =>
  condM v0 (bnd (lft (binA T BinOp.add 3 a1 (AV.int IntKind.i64 1))) (fun v1 =>
  M.pure v1)) (fx (L31_0 call fx) [a1, a2, AV.ip (acells a0), AV.int IntKind.i64 1, AV.int IntKind.i64 0]))
theorem E31 (call : FuncId → List AV → M AV) (fx : Fix AV) (a0 a1 a2 : AV) : evBody (pg.cx call Try.f31.ntmps ann31) fx Try.f31 (own 31) [a0, a1, a2] = S31 call fx a0 a1 a2 := by kernel_rfl
theorem C31 (a0 a1 a2 : AV) : callW pg 31 [a0, a1, a2] = isoP (S31 (callW pg) fixW (cl noHs a0) (cl noHs a1) (cl noHs a2)) := (callW_iso hOther rfl rfl rfl _).trans (congrArg isoP (E31 _ _ (cl noHs a0) (cl noHs a1) (cl noHs a2)))
noncomputable def S35 (call : FuncId → List AV → M AV) (fx : Fix AV) (a0 a1 : AV) : M AV :=
  bnd (lft (nilChkA a0)) (fun v0 =>
  bnd (lft (fieldAddrA T 81 v0 0)) (fun v1 =>
  bnd (loadH T 22 v1) (fun v2 =>
  bnd (call 63 [v2, AV.fn (Fn.func 64) [] [AV.ip (acells a1)]]) (fun v3 =>
  M.pure v3))))
theorem E35 (call : FuncId → List AV → M AV) (fx : Fix AV) (a0 a1 : AV) : evBody (pg.cx call Try.f35.ntmps ann35) fx Try.f35 (own 35) [a0, a1] = S35 call fx a0 a1 := by kernel_rfl
theorem C35 (a0 a1 : AV) : callW pg 35 [a0, a1] = S35 (callW pg) fixW a0 a1 := (callW_heap hOther rfl rfl rfl _).trans (E35 _ _ a0 a1)
noncomputable def S36 (call : FuncId → List AV → M AV) (fx : Fix AV) (a0 a1 a2 : AV) : M AV :=
  bnd (lft (binA T BinOp.lss 3 a1 (AV.int IntKind.i64 0))) (fun v0 =>
  condM v0 (bnd (lft (buildA T false 67 [])) (fun v1 =>
  bnd (cellsNil 12 [] v1) (fun v2 =>
  M.pure (AV.tup [AV.agg [nth (acells v2) 0, nth (acells v2) 1, nth (acells v2) 2, nth (acells v2) 3, nth (acells v2) 4, nth (acells v2) 5, nth (acells v2) 6, nth (acells v2) 7, nth (acells v2) 8, nth (acells v2) 9, nth (acells v2) 10, nth (acells v2) 11], AV.bool false])))) (bnd (lft (nilChkA a0)) (fun v3 =>
  bnd (lft (fieldAddrA T 81 v3 0)) (fun v4 =>
  bnd (loadH T 22 v4) (fun v5 =>
  bnd (lft (indexAddrA T 22 v5 a1)) (fun v6 =>
  bnd (lft (fieldAddrA T 63 v6 4)) (fun v7 =>
  bnd (lft (loadA T 59 v7)) (fun v8 =>
  bnd (call 65 [v8, AV.fn (Fn.func 66) [] [AV.ip (acells a2)]]) (fun v9 =>
  bnd (lft (binA T BinOp.lss 3 v9 (AV.int IntKind.i64 0))) (fun v10 =>
  condM v10 (bnd (lft (buildA T false 67 [])) (fun v11 =>
  bnd (cellsNil 12 [] v11) (fun v12 =>
  M.pure (AV.tup [AV.agg [nth (acells v12) 0, nth (acells v12) 1, nth (acells v12) 2, nth (acells v12) 3, nth (acells v12) 4, nth (acells v12) 5, nth (acells v12) 6, nth (acells v12) 7, nth (acells v12) 8, nth (acells v12) 9, nth (acells v12) 10, nth (acells v12) 11], AV.bool false])))) (bnd (lft (indexAddrA T 59 v8 v9)) (fun v13 =>
  bnd (lft (loadA T 67 v13)) (fun v14 =>
  bnd (cellsNil 12 [] v14) (fun v15 =>
  M.pure (AV.tup [AV.agg [nth (acells v15) 0, nth (acells v15) 1, nth (acells v15) 2, nth (acells v15) 3, nth (acells v15) 4, nth (acells v15) 5, nth (acells v15) 6, nth (acells v15) 7, nth (acells v15) 8, nth (acells v15) 9, nth (acells v15) 10, nth (acells v15) 11], AV.bool true])))))))))))))))
theorem E36 (call : FuncId → List AV → M AV) (fx : Fix AV) (a0 a1 a2 : AV) : evBody (pg.cx call Try.f36.ntmps ann36) fx Try.f36 (own 36) [a0, a1, a2] = S36 call fx a0 a1 a2 := by kernel_rfl
theorem C36 (a0 a1 a2 : AV) : callW pg 36 [a0, a1, a2] = S36 (callW pg) fixW a0 a1 a2 := (callW_heap hOther rfl rfl rfl _).trans (E36 _ _ a0 a1 a2)
noncomputable def S37 (call : FuncId → List AV → M AV) (fx : Fix AV) (a0 a1 : AV) : M AV :=
  bnd (call 67 [a0, a1]) (fun v0 =>
  bnd (lft (binA T BinOp.geq 3 v0 (AV.int IntKind.i64 0))) (fun v1 =>
  M.pure v1))
theorem E37 (call : FuncId → List AV → M AV) (fx : Fix AV) (a0 a1 : AV) : evBody (pg.cx call Try.f37.ntmps ann37) fx Try.f37 (own 37) [a0, a1] = S37 call fx a0 a1 := by kernel_rfl
theorem C37 (a0 a1 : AV) : callW pg 37 [a0, a1] = isoP (S37 (callW pg) fixW (cl noHs a0) (cl noHs a1)) := (callW_iso hOther rfl rfl rfl _).trans (congrArg isoP (E37 _ _ (cl noHs a0) (cl noHs a1)))
noncomputable def L46_0 (call : FuncId → List AV → M AV) (fx : Fix AV) (v0 : List AV → M AV) (v1 : List AV) : M AV :=
  bnd (lft (lenA T 23 (nth v1 0))) (fun v2 =>
  bnd (lft (binA T BinOp.lss 3 (nth v1 1) v2)) (fun v3 =>
  condM v3 (bnd (lft (indexAddrA T 23 (nth v1 0) (nth v1 1))) (fun v4 =>
  bnd (lft (loadA T 39 v4)) (fun v5 =>
  bnd (call 22 [v5]) (fun v6 =>
  bnd (lft (unA UnOp.not v6)) (fun v7 =>
  condM v7 (M.pure (AV.bool false)) (bnd (lft (binA T BinOp.add 3 (nth v1 1) (AV.int IntKind.i64 1))) (fun v8 =>
  v0 [nth v1 0, v8]))))))) (M.pure (AV.bool true))))
theorem XL46_0 {call : FuncId → List AV → M AV} : Cont1 (L46_0 call fixW ) fun _n => L46_0 call fixW  := by
  intro v0 v0s hself v1
  unfold L46_0
  exact (LimM.bnd (LimM.const _) fun _ => (LimM.bnd (LimM.const _) fun _ => (condM_lim (LimM.bnd (LimM.const _) fun _ => (LimM.bnd (LimM.const _) fun _ => (LimM.bnd (LimM.const _) fun _ => (LimM.bnd (LimM.const _) fun _ => (condM_lim (LimM.const _) (LimM.bnd (LimM.const _) fun _ => (hself _))))))) (LimM.const _))))
theorem FL46_0 (call : FuncId → List AV → M AV) (vs : List AV) : fixW (L46_0 call fixW ) vs = L46_0 call fixW  (fixW (L46_0 call fixW )) vs := fixW_eq (XL46_0 ) vs
noncomputable def S46 (call : FuncId → List AV → M AV) (fx : Fix AV) (a0 : AV) : M AV :=
  fx (L46_0 call fx) [a0, AV.int IntKind.i64 0]
theorem E46 (call : FuncId → List AV → M AV) (fx : Fix AV) (a0 : AV) : evBody (pg.cx call Try.f46.ntmps ann46) fx Try.f46 (own 46) [a0] = S46 call fx a0 := by kernel_rfl
theorem C46 (a0 : AV) : callW pg 46 [a0] = isoP (S46 (callW pg) fixW (cl noHs a0)) := (callW_iso hOther rfl rfl rfl _).trans (congrArg isoP (E46 _ _ (cl noHs a0)))
noncomputable def S48 (call : FuncId → List AV → M AV) (fx : Fix AV) (a0 : AV) : M AV :=
  bnd (lft (loadA T 39 (AV.ip (acells a0)))) (fun v0 =>
  bnd (call 21 [v0]) (fun v1 =>
  bnd (lft (unA UnOp.not v1)) (fun v2 =>
  M.pure v2)))
theorem E48 (call : FuncId → List AV → M AV) (fx : Fix AV) (a0 : AV) : evBody (pg.cx call Try.f48.ntmps ann48) fx Try.f48 (own 48) [a0] = S48 call fx a0 := by kernel_rfl
theorem C48 (a0 : AV) : callW pg 48 [a0] = isoP (S48 (callW pg) fixW (cl noHs a0)) := (callW_iso hOther rfl rfl rfl _).trans (congrArg isoP (E48 _ _ (cl noHs a0)))
noncomputable def L53_0 (call : FuncId → List AV → M AV) (fx : Fix AV) (v59 : List AV → M AV) (v60 : List AV) : M AV :=
  bnd (lft (fieldAddrA T 39 (nth v60 1) 3)) (fun v61 =>
  bnd (lft (loadA T 23 v61)) (fun v62 =>
  bnd (lft (lenA T 23 v62)) (fun v63 =>
  bnd (lft (binA T BinOp.lss 3 (nth v60 2) v63)) (fun v64 =>
  condM v64 (bnd (lft (fieldAddrA T 39 (nth v60 1) 3)) (fun v65 =>
  bnd (lft (loadA T 23 v65)) (fun v66 =>
  bnd (lft (indexAddrA T 23 v66 (nth v60 2))) (fun v67 =>
  bnd (lft (loadA T 39 v67)) (fun v68 =>
  bnd (lft (binA T BinOp.sub 3 (nth v60 0) (AV.int IntKind.i64 1))) (fun v69 =>
  bnd (call 53 [v68, v69]) (fun v70 =>
  bnd (lft (unA UnOp.not v70)) (fun v71 =>
  condM v71 (M.pure (AV.bool false)) (bnd (lft (binA T BinOp.add 3 (nth v60 2) (AV.int IntKind.i64 1))) (fun v72 =>
  v59 [nth v60 0, nth v60 1, v72])))))))))) (M.pure (AV.bool true))))))
theorem XL53_0 {call : FuncId → List AV → M AV} : Cont1 (L53_0 call fixW ) fun _n => L53_0 call fixW  := by
  intro v59 v59s hself v60
  unfold L53_0
  exact (LimM.bnd (LimM.const _) fun _ => (LimM.bnd (LimM.const _) fun _ => (LimM.bnd (LimM.const _) fun _ => (LimM.bnd (LimM.const _) fun _ => (condM_lim (LimM.bnd (LimM.const _) fun _ => (LimM.bnd (LimM.const _) fun _ => (LimM.bnd (LimM.const _) fun _ => (LimM.bnd (LimM.const _) fun _ => (LimM.bnd (LimM.const _) fun _ => (LimM.bnd (LimM.const _) fun _ => (LimM.bnd (LimM.const _) fun _ => (condM_lim (LimM.const _) (LimM.bnd (LimM.const _) fun _ => (hself _)))))))))) (LimM.const _))))))
theorem FL53_0 (call : FuncId → List AV → M AV) (vs : List AV) : fixW (L53_0 call fixW ) vs = L53_0 call fixW  (fixW (L53_0 call fixW )) vs := fixW_eq (XL53_0 ) vs
noncomputable def S53 (call : FuncId → List AV → M AV) (fx : Fix AV) (a0 a1 : AV) : M AV :=
  bnd (lft (binA T BinOp.lss 3 a1 (AV.int IntKind.i64 1))) (fun v0 =>
  bnd (guardM v0 false 1 (bnd (lft (fieldAddrA T 39 (AV.ip (acells a0)) 0)) (fun v1 =>
  bnd (lft (loadA T 3 v1)) (fun v2 =>
  bnd (lft (binA T BinOp.lss 3 v2 (AV.int IntKind.i64 0))) (fun v3 =>
  M.pure [v3]))))) (fun v4 =>
  bnd (lft (pickA v0 (AV.bool true) (nth v4 0))) (fun v5 =>
  bnd (guardM v5 false 1 (bnd (lft (fieldAddrA T 39 (AV.ip (acells a0)) 0)) (fun v6 =>
  bnd (lft (loadA T 3 v6)) (fun v7 =>
  bnd (lft (binA T BinOp.geq 3 v7 (AV.int IntKind.i64 3))) (fun v8 =>
  M.pure [v8]))))) (fun v9 =>
  bnd (lft (pickA v5 (AV.bool true) (nth v9 0))) (fun v10 =>
  bnd (guardM v10 false 1 (bnd (lft (fieldAddrA T 39 (AV.ip (acells a0)) 2)) (fun v11 =>
  bnd (lft (loadA T 25 v11)) (fun v12 =>
  bnd (lft (lenA T 25 v12)) (fun v13 =>
  bnd (lft (fieldAddrA T 39 (AV.ip (acells a0)) 3)) (fun v14 =>
  bnd (lft (loadA T 23 v14)) (fun v15 =>
  bnd (lft (lenA T 23 v15)) (fun v16 =>
  bnd (lft (binA T BinOp.neq 3 v13 v16)) (fun v17 =>
  M.pure [v17]))))))))) (fun v18 =>
  bnd (lft (pickA v10 (AV.bool true) (nth v18 0))) (fun v19 =>
  condM v19 (M.pure (AV.bool false)) (bnd (lft (fieldAddrA T 39 (AV.ip (acells a0)) 0)) (fun v20 =>
  bnd (lft (loadA T 3 v20)) (fun v21 =>
  bnd (lft (binA T BinOp.eql 3 v21 (AV.int IntKind.i64 0))) (fun v22 =>
  condM v22 (bnd (lft (fieldAddrA T 39 (AV.ip (acells a0)) 2)) (fun v23 =>
  bnd (lft (loadA T 25 v23)) (fun v24 =>
  bnd (lft (lenA T 25 v24)) (fun v25 =>
  bnd (lft (binA T BinOp.eql 3 v25 (AV.int IntKind.i64 0))) (fun v26 =>
  M.pure v26))))) (bnd (lft (fieldAddrA T 39 (AV.ip (acells a0)) 0)) (fun v27 =>
  bnd (lft (loadA T 3 v27)) (fun v28 =>
  bnd (lft (binA T BinOp.eql 3 v28 (AV.int IntKind.i64 1))) (fun v29 =>
  condM v29 (bnd (lft (fieldAddrA T 39 (AV.ip (acells a0)) 2)) (fun v30 =>
  bnd (lft (loadA T 25 v30)) (fun v31 =>
  bnd (lft (lenA T 25 v31)) (fun v32 =>
  bnd (lft (binA T BinOp.eql 3 v32 (AV.int IntKind.i64 0))) (fun v33 =>
  bnd (guardM v33 true 1 (bnd (lft (fieldAddrA T 39 (AV.ip (acells a0)) 1)) (fun v34 =>
  bnd (lft (loadA T 3 v34)) (fun v35 =>
  bnd (lft (binA T BinOp.geq 3 v35 (AV.int IntKind.i64 0))) (fun v36 =>
  M.pure [v36]))))) (fun v37 =>
  bnd (lft (pickA v33 (nth v37 0) (AV.bool false))) (fun v38 =>
  bnd (guardM v38 true 1 (bnd (lft (fieldAddrA T 39 (AV.ip (acells a0)) 1)) (fun v39 =>
  bnd (lft (loadA T 3 v39)) (fun v40 =>
  bnd (lft (binA T BinOp.leq 3 v40 (AV.int IntKind.i64 1))) (fun v41 =>
  M.pure [v41]))))) (fun v42 =>
  bnd (lft (pickA v38 (nth v42 0) (AV.bool false))) (fun v43 =>
  M.pure v43))))))))) (bnd (lft (fieldAddrA T 39 (AV.ip (acells a0)) 1)) (fun v44 =>
  bnd (lft (loadA T 3 v44)) (fun v45 =>
  bnd (lft (binA T BinOp.neq 3 v45 (AV.int IntKind.i64 0))) (fun v46 =>
  bnd (guardM v46 false 1 (bnd (lft (fieldAddrA T 39 (AV.ip (acells a0)) 2)) (fun v47 =>
  bnd (lft (loadA T 25 v47)) (fun v48 =>
  bnd (lft (lenA T 25 v48)) (fun v49 =>
  bnd (lft (binA T BinOp.gtr 3 v49 (AV.int IntKind.i64 8))) (fun v50 =>
  M.pure [v50])))))) (fun v51 =>
  bnd (lft (pickA v46 (AV.bool true) (nth v51 0))) (fun v52 =>
  bnd (guardM v52 false 1 (bnd (lft (fieldAddrA T 39 (AV.ip (acells a0)) 2)) (fun v53 =>
  bnd (lft (loadA T 25 v53)) (fun v54 =>
  bnd (call 91 [v54]) (fun v55 =>
  bnd (lft (unA UnOp.not v55)) (fun v56 =>
  M.pure [v56])))))) (fun v57 =>
  bnd (lft (pickA v52 (AV.bool true) (nth v57 0))) (fun v58 =>
  condM v58 (M.pure (AV.bool false)) (fx (L53_0 call fx) [a1, AV.ip (acells a0), AV.int IntKind.i64 0]))))))))))))))))))))))))
theorem E53 (call : FuncId → List AV → M AV) (fx : Fix AV) (a0 a1 : AV) : evBody (pg.cx call Try.f53.ntmps ann53) fx Try.f53 (own 53) [a0, a1] = S53 call fx a0 a1 := by kernel_rfl
theorem C53 (a0 a1 : AV) : callW pg 53 [a0, a1] = isoP (S53 (callW pg) fixW (cl noHs a0) (cl noHs a1)) := (callW_iso hOther rfl rfl rfl _).trans (congrArg isoP (E53 _ _ (cl noHs a0) (cl noHs a1)))
noncomputable def L65_0 (call : FuncId → List AV → M AV) (fx : Fix AV) (v1 : List AV → M AV) (v2 : List AV) : M AV :=
  bnd (lft (binA T BinOp.lss 3 (nth v2 3) (nth v2 2))) (fun v3 =>
  condM v3 (bnd (lft (indexAddrA T 59 (nth v2 0) (nth v2 3))) (fun v4 =>
  bnd (lft (loadA T 67 v4)) (fun v5 =>
  bnd (callV call (nth v2 1) [v5]) (fun v6 =>
  condM v6 (M.pure (nth v2 3)) (bnd (lft (binA T BinOp.add 3 (nth v2 3) (AV.int IntKind.i64 1))) (fun v7 =>
  v1 [nth v2 0, nth v2 1, nth v2 2, v7])))))) (M.pure (AV.int IntKind.i64 (-1))))
theorem XL65_0 {call : FuncId → List AV → M AV} : Cont1 (L65_0 call fixW ) fun _n => L65_0 call fixW  := by
  intro v1 v1s hself v2
  unfold L65_0
  exact (LimM.bnd (LimM.const _) fun _ => (condM_lim (LimM.bnd (LimM.const _) fun _ => (LimM.bnd (LimM.const _) fun _ => (LimM.bnd (LimM.const _) fun _ => (condM_lim (LimM.const _) (LimM.bnd (LimM.const _) fun _ => (hself _)))))) (LimM.const _)))
theorem FL65_0 (call : FuncId → List AV → M AV) (vs : List AV) : fixW (L65_0 call fixW ) vs = L65_0 call fixW  (fixW (L65_0 call fixW )) vs := fixW_eq (XL65_0 ) vs
noncomputable def S65 (call : FuncId → List AV → M AV) (fx : Fix AV) (a0 a1 : AV) : M AV :=
  bnd (lft (lenA T 59 a0)) (fun v0 =>
  fx (L65_0 call fx) [a0, a1, v0, AV.int IntKind.i64 0])
theorem E65 (call : FuncId → List AV → M AV) (fx : Fix AV) (a0 a1 : AV) : evBody (pg.cx call Try.f65.ntmps ann65) fx Try.f65 (own 65) [a0, a1] = S65 call fx a0 a1 := by kernel_rfl
theorem C65 (a0 a1 : AV) : callW pg 65 [a0, a1] = isoP (S65 (callW pg) fixW (cl noHs a0) (cl noHs a1)) := (callW_iso hOther rfl rfl rfl _).trans (congrArg isoP (E65 _ _ (cl noHs a0) (cl noHs a1)))
noncomputable def S69 (call : FuncId → List AV → M AV) (fx : Fix AV) (a0 a1 : AV) : M AV :=
  bnd (lft (unA UnOp.not a0)) (fun v0 =>
  condM v0 (bnd (lft (mkIfaceA T 33 a1)) (fun v1 =>
  bnd (panM v1) (fun v2 =>
  M.pure (AV.tup [])))) (M.pure (AV.tup [])))
theorem E69 (call : FuncId → List AV → M AV) (fx : Fix AV) (a0 a1 : AV) : evBody (pg.cx call Try.f69.ntmps ann69) fx Try.f69 (own 69) [a0, a1] = S69 call fx a0 a1 := by kernel_rfl
theorem C69 (a0 a1 : AV) : callW pg 69 [a0, a1] = isoP (S69 (callW pg) fixW (cl noHs a0) (cl noHs a1)) := (callW_iso hOther rfl rfl rfl _).trans (congrArg isoP (E69 _ _ (cl noHs a0) (cl noHs a1)))
noncomputable def S77 (call : FuncId → List AV → M AV) (fx : Fix AV) (a0 a1 a2 : AV) : M AV :=
  bnd (lft (loadA T 98 (AV.ip (acells a1)))) (fun v0 =>
  bnd (lft (loadA T 28 (AV.ip (acells a2)))) (fun v1 =>
  bnd (call 50 [a0, v0, v1]) (fun v2 =>
  bnd (cellsM 4 v2) (fun v3 =>
  bnd (lft (fieldAddrA T 39 (AV.ip (acells v3)) 0)) (fun v4 =>
  bnd (lft (loadA T 3 v4)) (fun v5 =>
  bnd (lft (binA T BinOp.eql 3 v5 (AV.int IntKind.i64 1))) (fun v6 =>
  bnd (call 69 [v6, AV.int IntKind.i64 13]) (fun v7 =>
  bnd (lft (fieldAddrA T 39 (AV.ip (acells v3)) 1)) (fun v8 =>
  bnd (lft (loadA T 3 v8)) (fun v9 =>
  bnd (lft (binA T BinOp.eql 3 v9 (AV.int IntKind.i64 1))) (fun v10 =>
  M.pure v10)))))))))))
theorem E77 (call : FuncId → List AV → M AV) (fx : Fix AV) (a0 a1 a2 : AV) : evBody (pg.cx call Try.f77.ntmps ann77) fx Try.f77 (own 77) [a0, a1, a2] = S77 call fx a0 a1 a2 := by kernel_rfl
theorem C77 (a0 a1 a2 : AV) : callW pg 77 [a0, a1, a2] = S77 (callW pg) fixW a0 a1 a2 := (callW_heap hOther rfl rfl rfl _).trans (E77 _ _ a0 a1 a2)
noncomputable def K81_0 (call : FuncId → List AV → M AV) (fx : Fix AV) (v33 : List AV) : M AV :=
  bnd (lft (nilChkA (nth v33 0))) (fun v34 =>
  bnd (lft (fieldAddrA T 81 v34 4)) (fun v35 =>
  bnd (lft (fieldAddrA T 43 v35 2)) (fun v36 =>
  bnd (loadH T 40 v36) (fun v37 =>
  bnd (lft (fieldAddrA T 28 (nth v33 1) 1)) (fun v38 =>
  bnd (lft (loadA T 3 v38)) (fun v39 =>
  bnd (lft (fieldAddrA T 39 (nth v33 2) 1)) (fun v40 =>
  bnd (lft (loadA T 3 v40)) (fun v41 =>
  bnd (lft (buildA T false 55 [(0, v39), (1, v41), (2, nth v33 3)])) (fun v42 =>
  bnd (lft (buildSliceA T 40 1 [(0, v42)])) (fun v43 =>
  bnd (appH T 40 false v37 v43) (fun v44 =>
  bnd (lft (nilChkA (nth v33 0))) (fun v45 =>
  bnd (lft (fieldAddrA T 81 v45 4)) (fun v46 =>
  bnd (lft (fieldAddrA T 43 v46 2)) (fun v47 =>
  bnd (storeH T 40 v47 v44) (fun v48 =>
  bnd (call 74 [nth v33 3]) (fun v49 =>
  bnd (cellsNil 4 [] v49) (fun v50 =>
  M.pure (AV.agg [nth (acells v50) 0, nth (acells v50) 1, nth (acells v50) 2, nth (acells v50) 3]))))))))))))))))))
noncomputable def K81_1 (call : FuncId → List AV → M AV) (fx : Fix AV) (v93 : List AV) : M AV :=
  bnd (lft (indexAddrA T 23 (nth v93 1) (nth v93 0))) (fun v94 =>
  bnd (loadH T 39 v94) (fun v95 =>
  bnd (cellsNil 4 [] v95) (fun v96 =>
  M.pure (AV.agg [nth (acells v96) 0, nth (acells v96) 1, nth (acells v96) 2, nth (acells v96) 3]))))
noncomputable def S81 (call : FuncId → List AV → M AV) (fx : Fix AV) (a0 a1 a2 : AV) : M AV :=
  bnd (lft (fieldAddrA T 28 (AV.ip (acells a2)) 0)) (fun v0 =>
  bnd (lft (loadA T 3 v0)) (fun v1 =>
  bnd (lft (binA T BinOp.eql 3 v1 (AV.int IntKind.i64 16))) (fun v2 =>
  condM v2 (bnd (lft (loadA T 98 (AV.ip (acells a1)))) (fun v3 =>
  bnd (lft (fieldAddrA T 28 (AV.ip (acells a2)) 5)) (fun v4 =>
  bnd (lft (loadA T 26 v4)) (fun v5 =>
  bnd (lft (indexAddrA T 26 v5 (AV.int IntKind.i64 0))) (fun v6 =>
  bnd (lft (loadA T 28 v6)) (fun v7 =>
  bnd (call 50 [a0, v3, v7]) (fun v8 =>
  bnd (cellsM 4 v8) (fun v9 =>
  bnd (lft (fieldAddrA T 39 (AV.ip (acells v9)) 0)) (fun v10 =>
  bnd (lft (loadA T 3 v10)) (fun v11 =>
  bnd (lft (binA T BinOp.eql 3 v11 (AV.int IntKind.i64 0))) (fun v12 =>
  bnd (call 69 [v12, AV.int IntKind.i64 13]) (fun v13 =>
  bnd (lft (fieldAddrA T 28 (AV.ip (acells a2)) 1)) (fun v14 =>
  bnd (lft (loadA T 3 v14)) (fun v15 =>
  bnd (lft (binA T BinOp.eql 3 v15 (AV.int IntKind.i64 1))) (fun v16 =>
  bnd (guardM v16 false 1 (bnd (lft (fieldAddrA T 28 (AV.ip (acells a2)) 1)) (fun v17 =>
  bnd (lft (loadA T 3 v17)) (fun v18 =>
  bnd (lft (binA T BinOp.eql 3 v18 (AV.int IntKind.i64 2))) (fun v19 =>
  M.pure [v19]))))) (fun v20 =>
  bnd (lft (pickA v16 (AV.bool true) (nth v20 0))) (fun v21 =>
  bnd (guardM v21 false 1 (bnd (lft (fieldAddrA T 28 (AV.ip (acells a2)) 1)) (fun v22 =>
  bnd (lft (loadA T 3 v22)) (fun v23 =>
  bnd (lft (binA T BinOp.eql 3 v23 (AV.int IntKind.i64 4))) (fun v24 =>
  M.pure [v24]))))) (fun v25 =>
  bnd (lft (pickA v21 (AV.bool true) (nth v25 0))) (fun v26 =>
  bnd (guardM v26 false 1 (bnd (lft (fieldAddrA T 28 (AV.ip (acells a2)) 1)) (fun v27 =>
  bnd (lft (loadA T 3 v27)) (fun v28 =>
  bnd (lft (binA T BinOp.eql 3 v28 (AV.int IntKind.i64 8))) (fun v29 =>
  M.pure [v29]))))) (fun v30 =>
  bnd (lft (pickA v26 (AV.bool true) (nth v30 0))) (fun v31 =>
  bnd (call 69 [v31, AV.int IntKind.i64 14]) (fun v32 =>
  jn (K81_0 call fx) (fun v51 =>
  bnd (lft (nilChkA a0)) (fun v52 =>
  bnd (lft (fieldAddrA T 81 v52 1)) (fun v53 =>
  bnd (loadH T 24 v53) (fun v54 =>
  bnd (lft (lenA T 24 v54)) (fun v55 =>
  bnd (lft (binA T BinOp.gtr 3 v55 (AV.int IntKind.i64 0))) (fun v56 =>
  condM v56 (bnd (lft (nilChkA a0)) (fun v57 =>
  bnd (lft (fieldAddrA T 81 v57 1)) (fun v58 =>
  bnd (loadH T 24 v58) (fun v59 =>
  bnd (lft (indexAddrA T 24 v59 (AV.int IntKind.i64 0))) (fun v60 =>
  bnd (lft (loadA T 3 v60)) (fun v61 =>
  bnd (lft (nilChkA a0)) (fun v62 =>
  bnd (lft (fieldAddrA T 81 v62 1)) (fun v63 =>
  bnd (loadH T 24 v63) (fun v64 =>
  bnd (lft (sliceA T 24 v64 (some (AV.int IntKind.i64 1)) none none)) (fun v65 =>
  bnd (lft (nilChkA a0)) (fun v66 =>
  bnd (lft (fieldAddrA T 81 v66 1)) (fun v67 =>
  bnd (storeH T 24 v67 v65) (fun v68 =>
  v51 [a0, AV.ip (acells a2), AV.ip (acells v9), v61, AV.int IntKind.i64 0, AV.int IntKind.i64 0, AV.sl [], AV.sl []]))))))))))))) (v51 [a0, AV.ip (acells a2), AV.ip (acells v9), AV.int IntKind.i64 0, AV.int IntKind.i64 0, AV.int IntKind.i64 0, AV.sl [], AV.sl []]))))))))))))))))))))))))))))) (bnd (lft (fieldAddrA T 98 (AV.ip (acells a1)) 0)) (fun v69 =>
  bnd (lft (loadA T 3 v69)) (fun v70 =>
  bnd (lft (binA T BinOp.geq 3 v70 (AV.int IntKind.i64 0))) (fun v71 =>
  bnd (call 69 [v71, AV.int IntKind.i64 12]) (fun v72 =>
  bnd (lft (nilChkA a0)) (fun v73 =>
  bnd (lft (fieldAddrA T 81 v73 0)) (fun v74 =>
  bnd (loadH T 22 v74) (fun v75 =>
  bnd (lft (fieldAddrA T 98 (AV.ip (acells a1)) 0)) (fun v76 =>
  bnd (lft (loadA T 3 v76)) (fun v77 =>
  bnd (lft (indexAddrA T 22 v75 v77)) (fun v78 =>
  bnd (lft (fieldAddrA T 63 v78 2)) (fun v79 =>
  bnd (lft (loadA T 58 v79)) (fun v80 =>
  bnd (noPan (call 98 [v80, AV.fn (Fn.func 99) [] [AV.ip (acells a2)]])) (fun v81 =>
  bnd (lft (binA T BinOp.geq 3 v81 (AV.int IntKind.i64 0))) (fun v82 =>
  bnd (call 69 [v82, AV.int IntKind.i64 12]) (fun v83 =>
  bnd (lft (nilChkA a0)) (fun v84 =>
  bnd (lft (fieldAddrA T 81 v84 4)) (fun v85 =>
  bnd (lft (fieldAddrA T 43 v85 4)) (fun v86 =>
  bnd (loadH T 32 v86) (fun v87 =>
  bnd (lft (fieldAddrA T 98 (AV.ip (acells a1)) 0)) (fun v88 =>
  bnd (lft (loadA T 3 v88)) (fun v89 =>
  bnd (lft (indexAddrA T 32 v87 v89)) (fun v90 =>
  bnd (lft (fieldAddrA T 47 v90 1)) (fun v91 =>
  bnd (loadH T 23 v91) (fun v92 =>
  jn (K81_1 call fx) (fun v97 =>
  bnd (lft (fieldAddrA T 28 (AV.ip (acells a2)) 0)) (fun v98 =>
  bnd (lft (loadA T 3 v98)) (fun v99 =>
  bnd (lft (binA T BinOp.eql 3 v99 (AV.int IntKind.i64 18))) (fun v100 =>
  condM v100 (bnd (lft (loadA T 98 (AV.ip (acells a1)))) (fun v101 =>
  bnd (lft (fieldAddrA T 28 (AV.ip (acells a2)) 5)) (fun v102 =>
  bnd (lft (loadA T 26 v102)) (fun v103 =>
  bnd (lft (indexAddrA T 26 v103 (AV.int IntKind.i64 0))) (fun v104 =>
  bnd (lft (loadA T 28 v104)) (fun v105 =>
  bnd (call 50 [a0, v101, v105]) (fun v106 =>
  bnd (lft (indexAddrA T 23 v92 v81)) (fun v107 =>
  bnd (storeH T 39 v107 v106) (fun v108 =>
  v97 [v81, v92, AV.int IntKind.i64 0, AV.int IntKind.i64 0, AV.sl [], AV.sl []]))))))))) (v97 [v81, v92, AV.int IntKind.i64 0, AV.int IntKind.i64 0, AV.sl [], AV.sl []])))))))))))))))))))))))))))))))))
theorem E81 (call : FuncId → List AV → M AV) (fx : Fix AV) (a0 a1 a2 : AV) : evBody (pg.cx call Try.f81.ntmps ann81) fx Try.f81 (own 81) [a0, a1, a2] = S81 call fx a0 a1 a2 := by kernel_rfl
theorem C81 (a0 a1 a2 : AV) : callW pg 81 [a0, a1, a2] = S81 (callW pg) fixW a0 a1 a2 := (callW_heap hOther rfl rfl rfl _).trans (E81 _ _ a0 a1 a2)
noncomputable def L89_0 (call : FuncId → List AV → M AV) (fx : Fix AV) (v0 : List AV → M AV) (v1 : List AV) : M AV :=
  bnd (lft (lenA T 25 (nth v1 0))) (fun v2 =>
  bnd (lft (binA T BinOp.lss 3 (nth v1 1) v2)) (fun v3 =>
  condM v3 (bnd (lft (binA T BinOp.sub 3 (nth v1 1) (AV.int IntKind.i64 1))) (fun v4 =>
  bnd (lft (indexAddrA T 25 (nth v1 0) v4)) (fun v5 =>
  bnd (lft (loadA T 9 v5)) (fun v6 =>
  bnd (lft (indexAddrA T 25 (nth v1 0) (nth v1 1))) (fun v7 =>
  bnd (lft (loadA T 9 v7)) (fun v8 =>
  bnd (lft (binA T BinOp.geq 9 v6 v8)) (fun v9 =>
  condM v9 (M.pure (AV.bool false)) (bnd (lft (binA T BinOp.add 3 (nth v1 1) (AV.int IntKind.i64 1))) (fun v10 =>
  v0 [nth v1 0, v10]))))))))) (M.pure (AV.bool true))))
theorem XL89_0 {call : FuncId → List AV → M AV} : Cont1 (L89_0 call fixW ) fun _n => L89_0 call fixW  := by
  intro v0 v0s hself v1
  unfold L89_0
  exact (LimM.bnd (LimM.const _) fun _ => (LimM.bnd (LimM.const _) fun _ => (condM_lim (LimM.bnd (LimM.const _) fun _ => (LimM.bnd (LimM.const _) fun _ => (LimM.bnd (LimM.const _) fun _ => (LimM.bnd (LimM.const _) fun _ => (LimM.bnd (LimM.const _) fun _ => (LimM.bnd (LimM.const _) fun _ => (condM_lim (LimM.const _) (LimM.bnd (LimM.const _) fun _ => (hself _))))))))) (LimM.const _))))
theorem FL89_0 (call : FuncId → List AV → M AV) (vs : List AV) : fixW (L89_0 call fixW ) vs = L89_0 call fixW  (fixW (L89_0 call fixW )) vs := fixW_eq (XL89_0 ) vs
noncomputable def S89 (call : FuncId → List AV → M AV) (fx : Fix AV) (a0 : AV) : M AV :=
  fx (L89_0 call fx) [a0, AV.int IntKind.i64 1]
theorem E89 (call : FuncId → List AV → M AV) (fx : Fix AV) (a0 : AV) : evBody (pg.cx call Try.f89.ntmps ann89) fx Try.f89 (own 89) [a0] = S89 call fx a0 := by kernel_rfl
theorem C89 (a0 : AV) : callW pg 89 [a0] = isoP (S89 (callW pg) fixW (cl noHs a0)) := (callW_iso hOther rfl rfl rfl _).trans (congrArg isoP (E89 _ _ (cl noHs a0)))
noncomputable def L92_0 (call : FuncId → List AV → M AV) (fx : Fix AV) (v4 : List AV → M AV) (v5 : List AV) : M AV :=
  bnd (lft (binA T BinOp.lss 3 (nth v5 3) (nth v5 2))) (fun v6 =>
  condM v6 (bnd (lft (indexAddrA T 25 (nth v5 0) (nth v5 3))) (fun v7 =>
  bnd (lft (loadA T 9 v7)) (fun v8 =>
  bnd (lft (indexAddrA T 25 (nth v5 1) (nth v5 3))) (fun v9 =>
  bnd (lft (loadA T 9 v9)) (fun v10 =>
  bnd (lft (binA T BinOp.neq 9 v8 v10)) (fun v11 =>
  condM v11 (M.pure (AV.bool false)) (bnd (lft (binA T BinOp.add 3 (nth v5 3) (AV.int IntKind.i64 1))) (fun v12 =>
  v4 [nth v5 0, nth v5 1, nth v5 2, v12])))))))) (M.pure (AV.bool true)))
theorem XL92_0 {call : FuncId → List AV → M AV} : Cont1 (L92_0 call fixW ) fun _n => L92_0 call fixW  := by
  intro v4 v4s hself v5
  unfold L92_0
  exact (LimM.bnd (LimM.const _) fun _ => (condM_lim (LimM.bnd (LimM.const _) fun _ => (LimM.bnd (LimM.const _) fun _ => (LimM.bnd (LimM.const _) fun _ => (LimM.bnd (LimM.const _) fun _ => (LimM.bnd (LimM.const _) fun _ => (condM_lim (LimM.const _) (LimM.bnd (LimM.const _) fun _ => (hself _)))))))) (LimM.const _)))
theorem FL92_0 (call : FuncId → List AV → M AV) (vs : List AV) : fixW (L92_0 call fixW ) vs = L92_0 call fixW  (fixW (L92_0 call fixW )) vs := fixW_eq (XL92_0 ) vs
noncomputable def S92 (call : FuncId → List AV → M AV) (fx : Fix AV) (a0 a1 : AV) : M AV :=
  bnd (lft (lenA T 25 a0)) (fun v0 =>
  bnd (lft (lenA T 25 a1)) (fun v1 =>
  bnd (lft (binA T BinOp.neq 3 v0 v1)) (fun v2 =>
  condM v2 (M.pure (AV.bool false)) (bnd (lft (lenA T 25 a0)) (fun v3 =>
  fx (L92_0 call fx) [a0, a1, v3, AV.int IntKind.i64 0])))))
theorem E92 (call : FuncId → List AV → M AV) (fx : Fix AV) (a0 a1 : AV) : evBody (pg.cx call Try.f92.ntmps ann92) fx Try.f92 (own 92) [a0, a1] = S92 call fx a0 a1 := by kernel_rfl
theorem C92 (a0 a1 : AV) : callW pg 92 [a0, a1] = isoP (S92 (callW pg) fixW (cl noHs a0) (cl noHs a1)) := (callW_iso hOther rfl rfl rfl _).trans (congrArg isoP (E92 _ _ (cl noHs a0) (cl noHs a1)))
noncomputable def S99 (call : FuncId → List AV → M AV) (fx : Fix AV) (a0 a1 : AV) : M AV :=
  bnd (lft (fieldAddrA T 104 (AV.ip (acells a0)) 0)) (fun v0 =>
  bnd (lft (loadA T 9 v0)) (fun v1 =>
  bnd (lft (fieldAddrA T 28 a1 2)) (fun v2 =>
  bnd (lft (loadA T 9 v2)) (fun v3 =>
  bnd (lft (binA T BinOp.eql 9 v1 v3)) (fun v4 =>
  M.pure v4)))))
theorem E99 (call : FuncId → List AV → M AV) (fx : Fix AV) (a0 a1 : AV) : evBody (pg.cx call Try.f99.ntmps ann99) fx Try.f99 (own 99) [a0, a1] = S99 call fx a0 a1 := by kernel_rfl
theorem C99 (a0 a1 : AV) : callW pg 99 [a0, a1] = isoP (S99 (callW pg) fixW (cl noHs a0) (cl noHs a1)) := (callW_iso hOther rfl rfl rfl _).trans (congrArg isoP (E99 _ _ (cl noHs a0) (cl noHs a1)))
end Go.Proofs.Ytgbopmciiadmlaa
