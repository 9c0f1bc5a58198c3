/- Shallow programs of the functions, part 3: written by a program. No condition. -/
import Derived.Test.YteemeakjlfnapaaGreatDoorAnn
namespace Go.Proofs.YteemeakjlfnapaaGreatDoor
open Go Go.Av
set_option maxRecDepth 100000
noncomputable def K7_0 (call : FuncId → List AV → M AV) (fx : Fix AV) (v64 : List AV → M AV) (v75 : List AV) : M AV :=
  bnd (lft (buildSliceA T 54 1 [(0, AV.agg [nth v75 15, nth v75 16])])) (fun v76 =>
  bnd (lft (appA T 54 (nth v75 11) v76)) (fun v77 =>
  bnd (cell1M v77) (fun v78 =>
  bnd (lft (binA T BinOp.add 3 (nth v75 4) (AV.int IntKind.i64 1))) (fun v79 =>
  v64 [nth v75 0, nth v75 1, nth v75 2, nth v75 3, v79, nth v75 5, nth v75 6, nth v75 7, nth v75 8, nth v75 9, nth v75 10, v77, nth v75 12, nth v75 13, nth v75 14]))))
noncomputable def L7_0 (call : FuncId → List AV → M AV) (fx : Fix AV) (v64 : List AV → M AV) (v65 : List AV) : M AV :=
  bnd (lft (fieldAddrA T 56 (nth v65 0) 1)) (fun v66 =>
  bnd (lft (loadA T 54 v66)) (fun v67 =>
  bnd (lft (lenA T 54 v67)) (fun v68 =>
  bnd (lft (binA T BinOp.lss 3 (nth v65 4) v68)) (fun v69 =>
  condM v69 (bnd (lft (fieldAddrA T 56 (nth v65 0) 1)) (fun v70 =>
  bnd (lft (loadA T 54 v70)) (fun v71 =>
  bnd (lft (indexAddrA T 54 v71 (nth v65 4))) (fun v72 =>
  bnd (lft (loadA T 27 v72)) (fun v73 =>
  bnd (cellsNil 2 [] v73) (fun v74 =>
  jn (K7_0 call fx v64) (fun v80 =>
  bnd (lft (lenA T 25 (nth (acells v74) 1))) (fun v81 =>
  bnd (lft (binA T BinOp.gtr 3 v81 (AV.int IntKind.i64 1))) (fun v82 =>
  condM v82 (bnd (lft (buildSliceA T 25 0 [])) (fun v83 =>
  bnd (lft (sliceA T 25 (nth (acells v74) 1) (some (AV.int IntKind.i64 1)) none none)) (fun v84 =>
  bnd (lft (appA T 25 v83 v84)) (fun v85 =>
  bnd (cell1M v85) (fun v86 =>
  v80 [nth v65 0, nth v65 1, nth v65 2, nth v65 3, nth v65 4, nth v65 5, nth v65 6, nth v65 7, nth v65 8, nth v65 9, nth v65 10, nth v65 11, nth v65 12, nth v65 13, nth v65 14, nth (acells v74) 0, v85]))))) (v80 [nth v65 0, nth v65 1, nth v65 2, nth v65 3, nth v65 4, nth v65 5, nth v65 6, nth v65 7, nth v65 8, nth v65 9, nth v65 10, nth v65 11, nth v65 12, nth v65 13, nth v65 14, nth (acells v74) 0, nth (acells v74) 1])))))))))) (bnd (guardM (nth v65 2) true 1 (bnd (lft (unA UnOp.not (nth v65 3))) (fun v87 =>
  M.pure [v87]))) (fun v88 =>
  bnd (guardM (nth v88 0) false 1 (bnd (lft (loadA T 56 (nth v65 0))) (fun v89 =>
  bnd (call 44 [AV.agg [nth v65 5, nth v65 6, nth v65 7, nth v65 8, nth v65 9], v89]) (fun v90 =>
  M.pure [v90])))) (fun v91 =>
  bnd (guardM (nth v91 0) true 1 (bnd (lft (loadA T 56 (nth v65 0))) (fun v92 =>
  bnd (call 44 [AV.agg [nth v65 10, nth v65 11, nth v65 12, nth v65 13, nth v65 14], v92]) (fun v93 =>
  M.pure [v93])))) (fun v94 =>
  bnd (guardM (nth v88 0) false 1 (bnd (lft (pickA (nth v91 0) (nth v94 0) (AV.bool false))) (fun v95 =>
  M.pure [v95]))) (fun v96 =>
  bnd (guardM (nth v65 2) true 1 (bnd (lft (pickA (nth v88 0) (AV.bool true) (nth v96 0))) (fun v97 =>
  M.pure [v97]))) (fun v98 =>
  bnd (lft (pickA (nth v65 2) (nth v98 0) (AV.bool false))) (fun v99 =>
  bnd (guardM v99 true 1 (bnd (lft (loadA T 56 (nth v65 0))) (fun v100 =>
  bnd (lft (loadA T 56 (nth v65 1))) (fun v101 =>
  bnd (call 44 [v100, v101]) (fun v102 =>
  bnd (lft (unA UnOp.not v102)) (fun v103 =>
  M.pure [v103])))))) (fun v104 =>
  bnd (guardM (nth v104 0) false 1 (bnd (lft (fieldAddrA T 56 (nth v65 0) 1)) (fun v105 =>
  bnd (lft (loadA T 54 v105)) (fun v106 =>
  bnd (lft (lenA T 54 v106)) (fun v107 =>
  bnd (lft (fieldAddrA T 56 (nth v65 1) 1)) (fun v108 =>
  bnd (lft (loadA T 54 v108)) (fun v109 =>
  bnd (lft (lenA T 54 v109)) (fun v110 =>
  bnd (lft (binA T BinOp.eql 3 v107 v110)) (fun v111 =>
  M.pure [v111]))))))))) (fun v112 =>
  bnd (guardM (nth v112 0) true 1 (bnd (lft (fieldAddrA T 56 (nth v65 0) 3)) (fun v113 =>
  bnd (lft (loadA T 3 v113)) (fun v114 =>
  bnd (lft (fieldAddrA T 56 (nth v65 1) 3)) (fun v115 =>
  bnd (lft (loadA T 3 v115)) (fun v116 =>
  bnd (lft (binA T BinOp.and 3 v114 v116)) (fun v117 =>
  bnd (lft (fieldAddrA T 56 (nth v65 0) 3)) (fun v118 =>
  bnd (lft (loadA T 3 v118)) (fun v119 =>
  bnd (lft (binA T BinOp.eql 3 v117 v119)) (fun v120 =>
  M.pure [v120])))))))))) (fun v121 =>
  bnd (guardM (nth v104 0) false 1 (bnd (lft (pickA (nth v112 0) (nth v121 0) (AV.bool false))) (fun v122 =>
  M.pure [v122]))) (fun v123 =>
  bnd (guardM v99 true 1 (bnd (lft (pickA (nth v104 0) (AV.bool true) (nth v123 0))) (fun v124 =>
  M.pure [v124]))) (fun v125 =>
  bnd (lft (pickA v99 (nth v125 0) (AV.bool false))) (fun v126 =>
  M.pure v126)))))))))))))))))
noncomputable def L7_1 (call : FuncId → List AV → M AV) (fx : Fix AV) (v17 : List AV → M AV) (v18 : List AV) : M AV :=
  bnd (lft (fieldAddrA T 56 (nth v18 1) 1)) (fun v19 =>
  bnd (lft (loadA T 54 v19)) (fun v20 =>
  bnd (lft (lenA T 54 v20)) (fun v21 =>
  bnd (lft (binA T BinOp.lss 3 (nth v18 6) v21)) (fun v22 =>
  condM v22 (bnd (guardM (nth v18 5) true 1 (bnd (lft (fieldAddrA T 56 (nth v18 1) 1)) (fun v23 =>
  bnd (lft (loadA T 54 v23)) (fun v24 =>
  bnd (lft (indexAddrA T 54 v24 (nth v18 6))) (fun v25 =>
  bnd (lft (loadA T 27 v25)) (fun v26 =>
  bnd (call 47 [v26]) (fun v27 =>
  M.pure [v27]))))))) (fun v28 =>
  bnd (lft (pickA (nth v18 5) (nth v28 0) (AV.bool false))) (fun v29 =>
  bnd (lft (binA T BinOp.add 3 (nth v18 6) (AV.int IntKind.i64 1))) (fun v30 =>
  v17 [nth v18 0, nth v18 1, nth v18 2, nth v18 3, nth v18 4, v29, v30])))) (bnd (lft (loadA T 56 (nth v18 1))) (fun v31 =>
  bnd (lft (loadA T 56 (nth v18 1))) (fun v32 =>
  bnd (call 44 [v31, v32]) (fun v33 =>
  bnd (lft (binA T BinOp.neq 4 v33 (nth v18 5))) (fun v34 =>
  bnd (guardM v34 false 1 (bnd (lft (loadA T 56 (nth v18 1))) (fun v35 =>
  bnd (lft (loadA T 56 (nth v18 2))) (fun v36 =>
  bnd (call 44 [v35, v36]) (fun v37 =>
  M.pure [v37]))))) (fun v38 =>
  bnd (guardM (nth v38 0) true 1 (bnd (lft (loadA T 56 (nth v18 2))) (fun v39 =>
  bnd (lft (loadA T 56 (nth v18 3))) (fun v40 =>
  bnd (call 44 [v39, v40]) (fun v41 =>
  M.pure [v41]))))) (fun v42 =>
  bnd (guardM v34 false 1 (bnd (lft (pickA (nth v38 0) (nth v42 0) (AV.bool false))) (fun v43 =>
  M.pure [v43]))) (fun v44 =>
  bnd (guardM (nth v44 0) true 1 (bnd (lft (loadA T 56 (nth v18 1))) (fun v45 =>
  bnd (lft (loadA T 56 (nth v18 3))) (fun v46 =>
  bnd (call 44 [v45, v46]) (fun v47 =>
  bnd (lft (unA UnOp.not v47)) (fun v48 =>
  M.pure [v48])))))) (fun v49 =>
  bnd (guardM v34 false 1 (bnd (lft (pickA (nth v44 0) (nth v49 0) (AV.bool false))) (fun v50 =>
  M.pure [v50]))) (fun v51 =>
  bnd (lft (pickA v34 (AV.bool true) (nth v51 0))) (fun v52 =>
  condM v52 (M.pure (AV.bool false)) (bnd (lft (loadA T 56 (nth v18 1))) (fun v53 =>
  bnd (cellsNil 5 [] v53) (fun v54 =>
  bnd (lft (fieldAddrA T 56 (nth v18 1) 3)) (fun v55 =>
  bnd (lft (loadA T 3 v55)) (fun v56 =>
  bnd (lft (binA T BinOp.and 3 v56 (nth v18 0))) (fun v57 =>
  bnd (cell1M v57) (fun v58 =>
  bnd (lft (loadA T 56 (nth v18 1))) (fun v59 =>
  bnd (cellsNil 5 [] v59) (fun v60 =>
  bnd (lft (fieldAddrA T 56 (nth v18 2) 0)) (fun v61 =>
  bnd (lft (loadA T 9 v61)) (fun v62 =>
  bnd (cell1M v62) (fun v63 =>
  fx (L7_0 call fx) [nth v18 1, nth v18 2, nth v18 4, nth v18 5, AV.int IntKind.i64 0, nth (acells v54) 0, nth (acells v54) 1, nth (acells v54) 2, nth (acells v54) 3, v57, v62, AV.sl [], nth (acells v60) 2, nth (acells v60) 3, nth (acells v60) 4])))))))))))))))))))))))))))
theorem XK7_0 {call : FuncId → List AV → M AV} {v64 : List AV → M AV} {v64s : Nat → List AV → M AV} (hv64 : LimF v64 fun n => v64s n) : LimF (K7_0 call fixW v64) fun n => K7_0 call fixW (v64s n) := by
  intro v75
  unfold K7_0
  exact (LimM.bnd (LimM.const _) fun _ => (LimM.bnd (LimM.const _) fun _ => (LimM.bnd (LimM.const _) fun _ => (LimM.bnd (LimM.const _) fun _ => (hv64 _)))))
theorem XL7_0 {call : FuncId → List AV → M AV} : Cont1 (L7_0 call fixW ) fun _n => L7_0 call fixW  := by
  intro v64 v64s hself v65
  unfold L7_0
  exact (LimM.bnd (LimM.const _) fun _ => (LimM.bnd (LimM.const _) fun _ => (LimM.bnd (LimM.const _) fun _ => (LimM.bnd (LimM.const _) fun _ => (condM_lim (LimM.bnd (LimM.const _) fun _ => (LimM.bnd (LimM.const _) fun _ => (LimM.bnd (LimM.const _) fun _ => (LimM.bnd (LimM.const _) fun _ => (LimM.bnd (LimM.const _) fun _ => (jn_lim (XK7_0 hself) fun _ _ hv80 => (LimM.bnd (LimM.const _) fun _ => (LimM.bnd (LimM.const _) fun _ => (condM_lim (LimM.bnd (LimM.const _) fun _ => (LimM.bnd (LimM.const _) fun _ => (LimM.bnd (LimM.const _) fun _ => (LimM.bnd (LimM.const _) fun _ => (hv80 _))))) (hv80 _)))))))))) (LimM.const _))))))
theorem FL7_0 (call : FuncId → List AV → M AV) (vs : List AV) : fixW (L7_0 call fixW ) vs = L7_0 call fixW  (fixW (L7_0 call fixW )) vs := fixW_eq (XL7_0 ) vs
theorem XL7_1 {call : FuncId → List AV → M AV} : Cont1 (L7_1 call fixW ) fun _n => L7_1 call fixW  := by
  intro v17 v17s hself v18
  unfold L7_1
  exact (LimM.bnd (LimM.const _) fun _ => (LimM.bnd (LimM.const _) fun _ => (LimM.bnd (LimM.const _) fun _ => (LimM.bnd (LimM.const _) fun _ => (condM_lim (LimM.bnd (LimM.const _) fun _ => (LimM.bnd (LimM.const _) fun _ => (LimM.bnd (LimM.const _) fun _ => (hself _)))) (LimM.const _))))))
theorem FL7_1 (call : FuncId → List AV → M AV) (vs : List AV) : fixW (L7_1 call fixW ) vs = L7_1 call fixW  (fixW (L7_1 call fixW )) vs := fixW_eq (XL7_1 ) vs
noncomputable def S7 (call : FuncId → List AV → M AV) (fx : Fix AV) (a0 a1 a2 a3 : AV) : M AV :=
  bnd (call 29 []) (fun v0 =>
  bnd (lft (loadA T 56 (AV.ip (acells a0)))) (fun v1 =>
  bnd (call 32 [v1]) (fun v2 =>
  bnd (lft (unA UnOp.not v2)) (fun v3 =>
  bnd (guardM v3 false 1 (bnd (lft (loadA T 56 (AV.ip (acells a1)))) (fun v4 =>
  bnd (call 32 [v4]) (fun v5 =>
  bnd (lft (unA UnOp.not v5)) (fun v6 =>
  M.pure [v6]))))) (fun v7 =>
  bnd (lft (pickA v3 (AV.bool true) (nth v7 0))) (fun v8 =>
  bnd (guardM v8 false 1 (bnd (lft (loadA T 56 (AV.ip (acells a2)))) (fun v9 =>
  bnd (call 32 [v9]) (fun v10 =>
  bnd (lft (unA UnOp.not v10)) (fun v11 =>
  M.pure [v11]))))) (fun v12 =>
  bnd (lft (pickA v8 (AV.bool true) (nth v12 0))) (fun v13 =>
  condM v13 (M.pure v0) (bnd (lft (fieldAddrA T 56 (AV.ip (acells a0)) 2)) (fun v14 =>
  bnd (lft (loadA T 27 v14)) (fun v15 =>
  bnd (call 47 [v15]) (fun v16 =>
  fx (L7_1 call fx) [a3, AV.ip (acells a0), AV.ip (acells a1), AV.ip (acells a2), v0, v16, AV.int IntKind.i64 0]))))))))))))
theorem E7 (call : FuncId → List AV → M AV) (fx : Fix AV) (a0 a1 a2 a3 : AV) : evBody (pg.cx call Tryz.f7.ntmps ann7) fx Tryz.f7 (own 7) [a0, a1, a2, a3] = S7 call fx a0 a1 a2 a3 := by kernel_rfl
theorem C7 (a0 a1 a2 a3 : AV) : callW pg 7 [a0, a1, a2, a3] = isoP (S7 (callW pg) fixW (cl noHs a0) (cl noHs a1) (cl noHs a2) (cl noHs a3)) := (callW_iso hOther rfl rfl rfl _).trans (congrArg isoP (E7 _ _ (cl noHs a0) (cl noHs a1) (cl noHs a2) (cl noHs a3)))
noncomputable def L37_0 (call : FuncId → List AV → M AV) (fx : Fix AV) (v16 : List AV → M AV) (v17 : List AV) : M AV :=
  bnd (lft (binA T BinOp.lss 3 (nth v17 2) (nth v17 1))) (fun v18 =>
  condM v18 (bnd (lft (indexAddrA T 54 (nth v17 0) (nth v17 2))) (fun v19 =>
  bnd (loadH T 27 v19) (fun v20 =>
  bnd (cellsM 2 v20) (fun v21 =>
  bnd (lft (loadA T 27 (AV.ip (acells v21)))) (fun v22 =>
  bnd (noPan (call 104 [v22])) (fun v23 =>
  bnd (lft (indexAddrA T 54 (nth v17 9) (nth v17 2))) (fun v24 =>
  bnd (storeH T 27 v24 v23) (fun v25 =>
  bnd (lft (binA T BinOp.add 3 (nth v17 2) (AV.int IntKind.i64 1))) (fun v26 =>
  v16 [nth v17 0, nth v17 1, v26, nth v17 3, nth v17 4, nth v17 5, nth v17 6, nth v17 7, nth v17 8, nth v17 9, nth v17 10, nth v17 11, nth v17 12]))))))))) (bnd (cellsNil 5 [] (AV.agg [nth v17 8, nth v17 9, nth v17 10, nth v17 11, nth v17 12])) (fun v27 =>
  M.pure (AV.tup [AV.agg [nth (acells v27) 0, nth (acells v27) 1, nth (acells v27) 2, nth (acells v27) 3, nth (acells v27) 4], AV.bool true]))))
theorem XL37_0 {call : FuncId → List AV → M AV} : Cont1 (L37_0 call fixW ) fun _n => L37_0 call fixW  := by
  intro v16 v16s hself v17
  unfold L37_0
  exact (LimM.bnd (LimM.const _) fun _ => (condM_lim (LimM.bnd (LimM.const _) fun _ => (LimM.bnd (LimM.const _) fun _ => (LimM.bnd (LimM.const _) fun _ => (LimM.bnd (LimM.const _) fun _ => (LimM.bnd (LimM.const _) fun _ => (LimM.bnd (LimM.const _) fun _ => (LimM.bnd (LimM.const _) fun _ => (LimM.bnd (LimM.const _) fun _ => (hself _))))))))) (LimM.const _)))
theorem FL37_0 (call : FuncId → List AV → M AV) (vs : List AV) : fixW (L37_0 call fixW ) vs = L37_0 call fixW  (fixW (L37_0 call fixW )) vs := fixW_eq (XL37_0 ) vs
noncomputable def S37 (call : FuncId → List AV → M AV) (fx : Fix AV) (a0 a1 : AV) : M AV :=
  bnd (lft (fieldAddrA T 24 (AV.ip (acells a0)) 1)) (fun v0 =>
  bnd (lft (loadA T 22 v0)) (fun v1 =>
  bnd (call 101 [v1, AV.fn (Fn.func 102) [] [AV.ip (acells a1)]]) (fun v2 =>
  bnd (lft (binA T BinOp.lss 3 v2 (AV.int IntKind.i64 0))) (fun v3 =>
  condM v3 (bnd (lft (buildA T false 56 [])) (fun v4 =>
  bnd (cellsNil 5 [] v4) (fun v5 =>
  M.pure (AV.tup [AV.agg [nth (acells v5) 0, nth (acells v5) 1, nth (acells v5) 2, nth (acells v5) 3, nth (acells v5) 4], AV.bool false])))) (bnd (lft (fieldAddrA T 24 (AV.ip (acells a0)) 1)) (fun v6 =>
  bnd (lft (loadA T 22 v6)) (fun v7 =>
  bnd (lft (indexAddrA T 22 v7 v2)) (fun v8 =>
  bnd (lft (loadA T 56 v8)) (fun v9 =>
  bnd (cellsNil 5 [] v9) (fun v10 =>
  bnd (call 103 [nth (acells v10) 1]) (fun v11 =>
  bnd (noPan (call 104 [AV.agg [nth (acells v10) 2, nth (acells v10) 3]])) (fun v12 =>
  bnd (cell1M v11) (fun v13 =>
  bnd (cellsNil 2 [] v12) (fun v14 =>
  bnd (lft (lenA T 54 v11)) (fun v15 =>
  fx (L37_0 call fx) [v11, v15, AV.int IntKind.i64 0, AV.str [], AV.sl [], AV.int IntKind.i64 0, AV.sl [], AV.int IntKind.i64 0, nth (acells v10) 0, v11, nth (acells v14) 0, nth (acells v14) 1, nth (acells v10) 4])))))))))))))))
theorem E37 (call : FuncId → List AV → M AV) (fx : Fix AV) (a0 a1 : AV) : evBody (pg.cx call Tryz.f37.ntmps ann37) fx Tryz.f37 (own 37) [a0, a1] = S37 call fx a0 a1 := by kernel_rfl
theorem C37 (a0 a1 : AV) : callW pg 37 [a0, a1] = isoP (S37 (callW pg) fixW (cl noHs a0) (cl noHs a1)) := (callW_iso hOther rfl rfl rfl _).trans (congrArg isoP (E37 _ _ (cl noHs a0) (cl noHs a1)))
noncomputable def S73 (call : FuncId → List AV → M AV) (fx : Fix AV) (a0 : AV) : M AV :=
  bnd (lft (loadA T 27 (AV.ip (acells a0)))) (fun v0 =>
  bnd (call 47 [v0]) (fun v1 =>
  M.pure v1))
theorem E73 (call : FuncId → List AV → M AV) (fx : Fix AV) (a0 : AV) : evBody (pg.cx call Tryz.f73.ntmps ann73) fx Tryz.f73 (own 73) [a0] = S73 call fx a0 := by kernel_rfl
theorem C73 (a0 : AV) : callW pg 73 [a0] = isoP (S73 (callW pg) fixW (cl noHs a0)) := (callW_iso hOther rfl rfl rfl _).trans (congrArg isoP (E73 _ _ (cl noHs a0)))
noncomputable def L104_0 (call : FuncId → List AV → M AV) (fx : Fix AV) (v4 : List AV → M AV) (v5 : List AV) : M AV :=
  bnd (lft (binA T BinOp.lss 3 (nth v5 2) (nth v5 1))) (fun v6 =>
  condM v6 (bnd (lft (indexAddrA T 25 (nth v5 0) (nth v5 2))) (fun v7 =>
  bnd (loadH T 76 v7) (fun v8 =>
  bnd (cellsM 3 v8) (fun v9 =>
  bnd (lft (fieldAddrA T 76 (AV.ip (acells v9)) 1)) (fun v10 =>
  bnd (lft (loadA T 27 v10)) (fun v11 =>
  bnd (noPan (call 104 [v11])) (fun v12 =>
  bnd (lft (indexAddrA T 25 (nth v5 4) (nth v5 2))) (fun v13 =>
  bnd (lft (fieldAddrA T 76 v13 1)) (fun v14 =>
  bnd (storeH T 27 v14 v12) (fun v15 =>
  bnd (lft (binA T BinOp.add 3 (nth v5 2) (AV.int IntKind.i64 1))) (fun v16 =>
  v4 [nth v5 0, nth v5 1, v16, nth v5 3, nth v5 4, nth v5 5, nth v5 6]))))))))))) (bnd (cellsNil 2 [] (AV.agg [nth v5 3, nth v5 4])) (fun v17 =>
  M.pure (AV.agg [nth (acells v17) 0, nth (acells v17) 1]))))
theorem XL104_0 {call : FuncId → List AV → M AV} : Cont1 (L104_0 call fixW ) fun _n => L104_0 call fixW  := by
  intro v4 v4s hself v5
  unfold L104_0
  exact (LimM.bnd (LimM.const _) fun _ => (condM_lim (LimM.bnd (LimM.const _) fun _ => (LimM.bnd (LimM.const _) fun _ => (LimM.bnd (LimM.const _) fun _ => (LimM.bnd (LimM.const _) fun _ => (LimM.bnd (LimM.const _) fun _ => (LimM.bnd (LimM.const _) fun _ => (LimM.bnd (LimM.const _) fun _ => (LimM.bnd (LimM.const _) fun _ => (LimM.bnd (LimM.const _) fun _ => (LimM.bnd (LimM.const _) fun _ => (hself _))))))))))) (LimM.const _)))
theorem FL104_0 (call : FuncId → List AV → M AV) (vs : List AV) : fixW (L104_0 call fixW ) vs = L104_0 call fixW  (fixW (L104_0 call fixW )) vs := fixW_eq (XL104_0 ) vs
noncomputable def S104 (call : FuncId → List AV → M AV) (fx : Fix AV) (a0 : AV) : M AV :=
  bnd (cellsM 2 a0) (fun v0 =>
  bnd (call 163 [nth (acells v0) 1]) (fun v1 =>
  bnd (cell1M v1) (fun v2 =>
  bnd (lft (lenA T 25 v1)) (fun v3 =>
  fx (L104_0 call fx) [v1, v3, AV.int IntKind.i64 0, nth (acells v0) 0, v1, AV.int IntKind.i64 0, AV.sl []]))))
theorem E104 (call : FuncId → List AV → M AV) (fx : Fix AV) (a0 : AV) : evBody (pg.cx call Tryz.f104.ntmps ann104) fx Tryz.f104 (own 104) [a0] = S104 call fx a0 := by kernel_rfl
theorem C104 (a0 : AV) : callW pg 104 [a0] = isoP (S104 (callW pg) fixW (cl noHs a0)) := (callW_iso hOther rfl rfl rfl _).trans (congrArg isoP (E104 _ _ (cl noHs a0)))
end Go.Proofs.YteemeakjlfnapaaGreatDoor
