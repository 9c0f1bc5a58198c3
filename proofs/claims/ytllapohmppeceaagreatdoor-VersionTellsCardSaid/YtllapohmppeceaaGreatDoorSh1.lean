/- Shallow programs of the functions, part 1: written by a program. No condition. -/
import Derived.Test.YtllapohmppeceaaGreatDoorAnn
namespace Go.Proofs.YtllapohmppeceaaGreatDoor
open Go Go.Av
set_option maxRecDepth 100000
noncomputable def S3 (call : FuncId → List AV → M AV) (fx : Fix AV) (a0 a1 a2 a3 a4 a5 : AV) : M AV :=
  bnd (call 4 []) (fun v0 =>
  bnd (lft (lenA T 9 a2)) (fun v1 =>
  bnd (lft (binA T BinOp.gtr 3 v1 (AV.int IntKind.i64 100))) (fun v2 =>
  bnd (guardM v2 false 1 (bnd (lft (lenA T 24 a3)) (fun v3 =>
  bnd (lft (binA T BinOp.gtr 3 v3 (AV.int IntKind.i64 20))) (fun v4 =>
  M.pure [v4])))) (fun v5 =>
  bnd (lft (pickA v2 (AV.bool true) (nth v5 0))) (fun v6 =>
  bnd (guardM v6 false 1 (bnd (lft (lenA T 24 a4)) (fun v7 =>
  bnd (lft (binA T BinOp.gtr 3 v7 (AV.int IntKind.i64 20))) (fun v8 =>
  M.pure [v8])))) (fun v9 =>
  bnd (lft (pickA v6 (AV.bool true) (nth v9 0))) (fun v10 =>
  bnd (guardM v10 false 1 (bnd (lft (lenA T 25 a5)) (fun v11 =>
  bnd (lft (binA T BinOp.gtr 3 v11 (AV.int IntKind.i64 30))) (fun v12 =>
  M.pure [v12])))) (fun v13 =>
  bnd (lft (pickA v10 (AV.bool true) (nth v13 0))) (fun v14 =>
  condM v14 (M.pure v0) (bnd (call 5 [a2]) (fun v15 =>
  bnd (lft (extractA v15 0)) (fun v16 =>
  bnd (lft (extractA v15 1)) (fun v17 =>
  bnd (cellsM 3 v16) (fun v18 =>
  bnd (call 6 [a2]) (fun v19 =>
  bnd (lft (extractA v19 0)) (fun v20 =>
  bnd (lft (extractA v19 1)) (fun v21 =>
  bnd (cellsM 3 v20) (fun v22 =>
  bnd (call 7 [a5, a3]) (fun v23 =>
  bnd (lft (extractA v23 0)) (fun v24 =>
  bnd (lft (extractA v23 1)) (fun v25 =>
  bnd (cellsM 3 v24) (fun v26 =>
  bnd (call 8 [a5, a3]) (fun v27 =>
  bnd (lft (extractA v27 0)) (fun v28 =>
  bnd (lft (extractA v27 1)) (fun v29 =>
  bnd (cellsM 3 v28) (fun v30 =>
  bnd (lft (loadA T 23 (AV.ip (acells a0)))) (fun v31 =>
  bnd (noPan (call 9 [v31])) (fun v32 =>
  bnd (lft (loadA T 23 (AV.ip (acells a0)))) (fun v33 =>
  bnd (noPan (call 10 [v33])) (fun v34 =>
  bnd (lft (binA T BinOp.eql 4 v32 v34)) (fun v35 =>
  bnd (guardM v35 true 1 (bnd (lft (loadA T 23 (AV.ip (acells a0)))) (fun v36 =>
  bnd (lft (loadA T 23 (AV.ip (acells a1)))) (fun v37 =>
  bnd (noPan (call 11 [v36, v37])) (fun v38 =>
  bnd (lft (loadA T 23 (AV.ip (acells a0)))) (fun v39 =>
  bnd (lft (loadA T 23 (AV.ip (acells a1)))) (fun v40 =>
  bnd (noPan (call 12 [v39, v40])) (fun v41 =>
  bnd (lft (binA T BinOp.eql 3 v38 v41)) (fun v42 =>
  M.pure [v42]))))))))) (fun v43 =>
  bnd (lft (pickA v35 (nth v43 0) (AV.bool false))) (fun v44 =>
  bnd (guardM v44 true 1 (bnd (lft (loadA T 23 (AV.ip (acells a0)))) (fun v45 =>
  bnd (noPan (call 13 [v45])) (fun v46 =>
  bnd (lft (loadA T 23 (AV.ip (acells a0)))) (fun v47 =>
  bnd (noPan (call 14 [v47])) (fun v48 =>
  bnd (lft (binA T BinOp.eql 9 v46 v48)) (fun v49 =>
  M.pure [v49]))))))) (fun v50 =>
  bnd (lft (pickA v44 (nth v50 0) (AV.bool false))) (fun v51 =>
  bnd (guardM v51 true 1 (bnd (lft (loadA T 23 (AV.ip (acells v18)))) (fun v52 =>
  bnd (lft (loadA T 23 (AV.ip (acells v22)))) (fun v53 =>
  bnd (lft (binA T BinOp.eql 23 v52 v53)) (fun v54 =>
  M.pure [v54]))))) (fun v55 =>
  bnd (lft (pickA v51 (nth v55 0) (AV.bool false))) (fun v56 =>
  bnd (guardM v56 true 1 (bnd (lft (binA T BinOp.eql 4 v17 v21)) (fun v57 =>
  M.pure [v57]))) (fun v58 =>
  bnd (lft (pickA v56 (nth v58 0) (AV.bool false))) (fun v59 =>
  bnd (guardM v59 true 1 (bnd (lft (loadA T 23 (AV.ip (acells a0)))) (fun v60 =>
  bnd (lft (loadA T 23 (AV.ip (acells a1)))) (fun v61 =>
  bnd (noPan (call 15 [v60, v61])) (fun v62 =>
  bnd (lft (loadA T 23 (AV.ip (acells a0)))) (fun v63 =>
  bnd (lft (loadA T 23 (AV.ip (acells a1)))) (fun v64 =>
  bnd (noPan (call 16 [v63, v64])) (fun v65 =>
  bnd (lft (binA T BinOp.eql 3 v62 v65)) (fun v66 =>
  M.pure [v66]))))))))) (fun v67 =>
  bnd (lft (pickA v59 (nth v67 0) (AV.bool false))) (fun v68 =>
  bnd (lft (loadA T 23 (AV.ip (acells a0)))) (fun v69 =>
  bnd (noPan (call 17 [a3, v69])) (fun v70 =>
  bnd (lft (loadA T 23 (AV.ip (acells a0)))) (fun v71 =>
  bnd (noPan (call 18 [a3, v71])) (fun v72 =>
  bnd (lft (binA T BinOp.eql 4 v70 v72)) (fun v73 =>
  bnd (guardM v73 true 1 (bnd (noPan (call 20 [a3])) (fun v74 =>
  bnd (noPan (call 21 [a3])) (fun v75 =>
  bnd (noPan (call 19 [v74, v75])) (fun v76 =>
  M.pure [v76]))))) (fun v77 =>
  bnd (lft (pickA v73 (nth v77 0) (AV.bool false))) (fun v78 =>
  bnd (guardM v78 true 1 (bnd (noPan (call 22 [a3, a4])) (fun v79 =>
  bnd (noPan (call 23 [a3, a4, AV.int IntKind.i64 0])) (fun v80 =>
  bnd (noPan (call 19 [v79, v80])) (fun v81 =>
  M.pure [v81]))))) (fun v82 =>
  bnd (lft (pickA v78 (nth v82 0) (AV.bool false))) (fun v83 =>
  bnd (guardM v83 true 1 (bnd (noPan (call 24 [a3, a4])) (fun v84 =>
  bnd (noPan (call 23 [a3, a4, AV.int IntKind.i64 1])) (fun v85 =>
  bnd (noPan (call 19 [v84, v85])) (fun v86 =>
  M.pure [v86]))))) (fun v87 =>
  bnd (lft (pickA v83 (nth v87 0) (AV.bool false))) (fun v88 =>
  bnd (guardM v0 true 1 (M.pure [v68])) (fun v89 =>
  bnd (lft (pickA v0 (nth v89 0) (AV.bool false))) (fun v90 =>
  bnd (guardM v90 true 1 (M.pure [v88])) (fun v91 =>
  bnd (lft (pickA v90 (nth v91 0) (AV.bool false))) (fun v92 =>
  bnd (guardM v92 true 1 (bnd (call 25 [a3, a4]) (fun v93 =>
  bnd (call 23 [a3, a4, AV.int IntKind.i64 2]) (fun v94 =>
  bnd (call 19 [v93, v94]) (fun v95 =>
  M.pure [v95]))))) (fun v96 =>
  bnd (lft (pickA v92 (nth v96 0) (AV.bool false))) (fun v97 =>
  bnd (guardM v97 true 1 (bnd (lft (loadA T 23 (AV.ip (acells v26)))) (fun v98 =>
  bnd (lft (loadA T 23 (AV.ip (acells v30)))) (fun v99 =>
  bnd (lft (binA T BinOp.eql 23 v98 v99)) (fun v100 =>
  M.pure [v100]))))) (fun v101 =>
  bnd (lft (pickA v97 (nth v101 0) (AV.bool false))) (fun v102 =>
  bnd (guardM v102 true 1 (bnd (lft (binA T BinOp.eql 4 v25 v29)) (fun v103 =>
  M.pure [v103]))) (fun v104 =>
  bnd (lft (pickA v102 (nth v104 0) (AV.bool false))) (fun v105 =>
  M.pure v105))))))))))))))))))))))))))))))))))))))))))))))))))))))))))))))
theorem E3 (call : FuncId → List AV → M AV) (fx : Fix AV) (a0 a1 a2 a3 a4 a5 : AV) : evBody (pg.cx call Tryz.f3.ntmps ann3) fx Tryz.f3 (own 3) [a0, a1, a2, a3, a4, a5] = S3 call fx a0 a1 a2 a3 a4 a5 := by kernel_rfl
theorem C3 (a0 a1 a2 a3 a4 a5 : AV) : callW pg 3 [a0, a1, a2, a3, a4, a5] = isoP (S3 (callW pg) fixW (cl noHs a0) (cl noHs a1) (cl noHs a2) (cl noHs a3) (cl noHs a4) (cl noHs a5)) := (callW_iso hOther rfl rfl rfl _).trans (congrArg isoP (E3 _ _ (cl noHs a0) (cl noHs a1) (cl noHs a2) (cl noHs a3) (cl noHs a4) (cl noHs a5)))
noncomputable def L5_0 (call : FuncId → List AV → M AV) (fx : Fix AV) (v7 : List AV → M AV) (v8 : List AV) : M AV :=
  bnd (lft (binA T BinOp.lss 3 (nth v8 3) (nth v8 2))) (fun v9 =>
  condM v9 (bnd (lft (indexAddrA T 43 (nth v8 1) (nth v8 3))) (fun v10 =>
  bnd (lft (loadA T 9 v10)) (fun v11 =>
  bnd (call 29 [v11]) (fun v12 =>
  bnd (lft (extractA v12 0)) (fun v13 =>
  bnd (lft (extractA v12 1)) (fun v14 =>
  bnd (lft (binA T BinOp.neq 47 v14 AV.nili)) (fun v15 =>
  bnd (guardM v15 false 1 (bnd (call 30 [v13]) (fun v16 =>
  bnd (lft (binA T BinOp.neq 9 v16 v11)) (fun v17 =>
  M.pure [v17])))) (fun v18 =>
  bnd (lft (pickA v15 (AV.bool true) (nth v18 0))) (fun v19 =>
  condM v19 (bnd (lft (buildA T false 23 [])) (fun v20 =>
  bnd (cellsNil 3 [] v20) (fun v21 =>
  M.pure (AV.tup [AV.agg [nth (acells v21) 0, nth (acells v21) 1, nth (acells v21) 2], AV.bool false])))) (bnd (lft (indexAddrA T 45 (nth v8 0) (nth v8 3))) (fun v22 =>
  bnd (storeH T 3 v22 v13) (fun v23 =>
  bnd (lft (binA T BinOp.add 3 (nth v8 3) (AV.int IntKind.i64 1))) (fun v24 =>
  v7 [nth v8 0, nth v8 1, nth v8 2, v24, nth v8 4, nth v8 5, nth v8 6]))))))))))))) (bnd (lft (indexAddrA T 45 (nth v8 0) (AV.int IntKind.i64 0))) (fun v25 =>
  bnd (loadH T 3 v25) (fun v26 =>
  bnd (lft (indexAddrA T 45 (nth v8 0) (AV.int IntKind.i64 1))) (fun v27 =>
  bnd (loadH T 3 v27) (fun v28 =>
  bnd (lft (indexAddrA T 45 (nth v8 0) (AV.int IntKind.i64 2))) (fun v29 =>
  bnd (loadH T 3 v29) (fun v30 =>
  bnd (lft (buildA T false 23 [(0, v26), (1, v28), (2, v30)])) (fun v31 =>
  bnd (cellsM 3 v31) (fun v32 =>
  bnd (lft (loadA T 23 (AV.ip (acells v32)))) (fun v33 =>
  bnd (call 9 [v33]) (fun v34 =>
  bnd (lft (unA UnOp.not v34)) (fun v35 =>
  condM v35 (bnd (lft (buildA T false 23 [])) (fun v36 =>
  bnd (cellsNil 3 [] v36) (fun v37 =>
  M.pure (AV.tup [AV.agg [nth (acells v37) 0, nth (acells v37) 1, nth (acells v37) 2], AV.bool false])))) (bnd (lft (loadA T 23 (AV.ip (acells v32)))) (fun v38 =>
  bnd (cellsNil 3 [] v38) (fun v39 =>
  M.pure (AV.tup [AV.agg [nth (acells v39) 0, nth (acells v39) 1, nth (acells v39) 2], AV.bool true])))))))))))))))))
theorem XL5_0 {call : FuncId → List AV → M AV} : Cont1 (L5_0 call fixW ) fun _n => L5_0 call fixW  := by
  intro v7 v7s hself v8
  unfold L5_0
  exact (LimM.bnd (LimM.const _) fun _ => (condM_lim (LimM.bnd (LimM.const _) fun _ => (LimM.bnd (LimM.const _) fun _ => (LimM.bnd (LimM.const _) fun _ => (LimM.bnd (LimM.const _) fun _ => (LimM.bnd (LimM.const _) fun _ => (LimM.bnd (LimM.const _) fun _ => (LimM.bnd (LimM.const _) fun _ => (LimM.bnd (LimM.const _) fun _ => (condM_lim (LimM.const _) (LimM.bnd (LimM.const _) fun _ => (LimM.bnd (LimM.const _) fun _ => (LimM.bnd (LimM.const _) fun _ => (hself _))))))))))))) (LimM.const _)))
theorem FL5_0 (call : FuncId → List AV → M AV) (vs : List AV) : fixW (L5_0 call fixW ) vs = L5_0 call fixW  (fixW (L5_0 call fixW )) vs := fixW_eq (XL5_0 ) vs
noncomputable def S5 (call : FuncId → List AV → M AV) (fx : Fix AV) (a0 : AV) : M AV :=
  bnd (call 28 [a0, AV.str [46]]) (fun v0 =>
  bnd (lft (lenA T 43 v0)) (fun v1 =>
  bnd (lft (binA T BinOp.neq 3 v1 (AV.int IntKind.i64 3))) (fun v2 =>
  condM v2 (bnd (lft (buildA T false 23 [])) (fun v3 =>
  bnd (cellsNil 3 [] v3) (fun v4 =>
  M.pure (AV.tup [AV.agg [nth (acells v4) 0, nth (acells v4) 1, nth (acells v4) 2], AV.bool false])))) (bnd (newH [AV.int IntKind.i64 0, AV.int IntKind.i64 0, AV.int IntKind.i64 0]) (fun v5 =>
  bnd (lft (lenA T 43 v0)) (fun v6 =>
  fx (L5_0 call fx) [v5, v0, v6, AV.int IntKind.i64 0, AV.int IntKind.i64 0, AV.int IntKind.i64 0, AV.int IntKind.i64 0]))))))
theorem E5 (call : FuncId → List AV → M AV) (fx : Fix AV) (a0 : AV) : evBody (pg.cx call Tryz.f5.ntmps ann5) fx Tryz.f5 (own 5) [a0] = S5 call fx a0 := by kernel_rfl
theorem C5 (a0 : AV) : callW pg 5 [a0] = isoP (S5 (callW pg) fixW (cl noHs a0)) := (callW_iso hOther rfl rfl rfl _).trans (congrArg isoP (E5 _ _ (cl noHs a0)))
noncomputable def K6_0 (call : FuncId → List AV → M AV) (fx : Fix AV) (v1 : List AV → M AV) (v5 : List AV) : M AV :=
  bnd (lft (binA T BinOp.add 3 (nth v5 3) (AV.int IntKind.i64 1))) (fun v6 =>
  v1 [nth v5 0, nth v5 1, nth v5 2, v6, nth v5 4, nth v5 5, nth v5 6])
noncomputable def L6_0 (call : FuncId → List AV → M AV) (fx : Fix AV) (v1 : List AV → M AV) (v2 : List AV) : M AV :=
  bnd (lft (lenA T 9 (nth v2 0))) (fun v3 =>
  bnd (lft (binA T BinOp.lss 3 (nth v2 3) v3)) (fun v4 =>
  condM v4 (jn (K6_0 call fx v1) (fun v7 =>
  bnd (lft (indexStrA T 9 (nth v2 0) (nth v2 3))) (fun v8 =>
  bnd (lft (binA T BinOp.eql 5 v8 (AV.int IntKind.u8 46))) (fun v9 =>
  condM v9 (bnd (lft (binA T BinOp.add 3 (nth v2 2) (AV.int IntKind.i64 1))) (fun v10 =>
  bnd (lft (binA T BinOp.gtr 3 v10 (AV.int IntKind.i64 2))) (fun v11 =>
  condM v11 (bnd (lft (buildA T false 23 [])) (fun v12 =>
  bnd (cellsNil 3 [] v12) (fun v13 =>
  M.pure (AV.tup [AV.agg [nth (acells v13) 0, nth (acells v13) 1, nth (acells v13) 2], AV.bool false])))) (v7 [nth v2 0, nth v2 1, v10, nth v2 3, nth v2 4, nth v2 5, nth v2 6])))) (bnd (lft (indexStrA T 9 (nth v2 0) (nth v2 3))) (fun v14 =>
  bnd (lft (binA T BinOp.lss 5 v14 (AV.int IntKind.u8 48))) (fun v15 =>
  bnd (guardM v15 false 1 (bnd (lft (indexStrA T 9 (nth v2 0) (nth v2 3))) (fun v16 =>
  bnd (lft (binA T BinOp.gtr 5 v16 (AV.int IntKind.u8 57))) (fun v17 =>
  M.pure [v17])))) (fun v18 =>
  bnd (lft (pickA v15 (AV.bool true) (nth v18 0))) (fun v19 =>
  bnd (guardM v19 false 1 (bnd (lft (indexAddrA T 51 (nth v2 1) (nth v2 2))) (fun v20 =>
  bnd (loadH T 3 v20) (fun v21 =>
  bnd (lft (binA T BinOp.gtr 3 v21 (AV.int IntKind.i64 1048576))) (fun v22 =>
  M.pure [v22]))))) (fun v23 =>
  bnd (lft (pickA v19 (AV.bool true) (nth v23 0))) (fun v24 =>
  condM v24 (bnd (lft (buildA T false 23 [])) (fun v25 =>
  bnd (cellsNil 3 [] v25) (fun v26 =>
  M.pure (AV.tup [AV.agg [nth (acells v26) 0, nth (acells v26) 1, nth (acells v26) 2], AV.bool false])))) (bnd (lft (indexAddrA T 51 (nth v2 1) (nth v2 2))) (fun v27 =>
  bnd (loadH T 3 v27) (fun v28 =>
  bnd (lft (binA T BinOp.mul 3 (AV.int IntKind.i64 10) v28)) (fun v29 =>
  bnd (lft (indexStrA T 9 (nth v2 0) (nth v2 3))) (fun v30 =>
  bnd (lft (binA T BinOp.sub 5 v30 (AV.int IntKind.u8 48))) (fun v31 =>
  bnd (lft (convA T 5 3 v31)) (fun v32 =>
  bnd (lft (binA T BinOp.add 3 v29 v32)) (fun v33 =>
  bnd (lft (indexAddrA T 51 (nth v2 1) (nth v2 2))) (fun v34 =>
  bnd (storeH T 3 v34 v33) (fun v35 =>
  v7 [nth v2 0, nth v2 1, nth v2 2, nth v2 3, nth v2 4, nth v2 5, nth v2 6]))))))))))))))))))))) (bnd (lft (indexAddrA T 51 (nth v2 1) (AV.int IntKind.i64 0))) (fun v36 =>
  bnd (loadH T 3 v36) (fun v37 =>
  bnd (lft (indexAddrA T 51 (nth v2 1) (AV.int IntKind.i64 1))) (fun v38 =>
  bnd (loadH T 3 v38) (fun v39 =>
  bnd (lft (indexAddrA T 51 (nth v2 1) (AV.int IntKind.i64 2))) (fun v40 =>
  bnd (loadH T 3 v40) (fun v41 =>
  bnd (lft (buildA T false 23 [(0, v37), (1, v39), (2, v41)])) (fun v42 =>
  bnd (cellsM 3 v42) (fun v43 =>
  bnd (lft (loadA T 23 (AV.ip (acells v43)))) (fun v44 =>
  bnd (call 14 [v44]) (fun v45 =>
  bnd (lft (binA T BinOp.neq 9 v45 (nth v2 0))) (fun v46 =>
  bnd (guardM v46 false 1 (bnd (lft (binA T BinOp.eql 9 (nth v2 0) (AV.str []))) (fun v47 =>
  M.pure [v47]))) (fun v48 =>
  bnd (lft (pickA v46 (AV.bool true) (nth v48 0))) (fun v49 =>
  condM v49 (bnd (lft (buildA T false 23 [])) (fun v50 =>
  bnd (cellsNil 3 [] v50) (fun v51 =>
  M.pure (AV.tup [AV.agg [nth (acells v51) 0, nth (acells v51) 1, nth (acells v51) 2], AV.bool false])))) (bnd (lft (loadA T 23 (AV.ip (acells v43)))) (fun v52 =>
  bnd (cellsNil 3 [] v52) (fun v53 =>
  M.pure (AV.tup [AV.agg [nth (acells v53) 0, nth (acells v53) 1, nth (acells v53) 2], AV.bool true]))))))))))))))))))))
theorem XK6_0 {call : FuncId → List AV → M AV} {v1 : List AV → M AV} {v1s : Nat → List AV → M AV} (hv1 : LimF v1 fun n => v1s n) : LimF (K6_0 call fixW v1) fun n => K6_0 call fixW (v1s n) := by
  intro v5
  unfold K6_0
  exact (LimM.bnd (LimM.const _) fun _ => (hv1 _))
theorem XL6_0 {call : FuncId → List AV → M AV} : Cont1 (L6_0 call fixW ) fun _n => L6_0 call fixW  := by
  intro v1 v1s hself v2
  unfold L6_0
  exact (LimM.bnd (LimM.const _) fun _ => (LimM.bnd (LimM.const _) fun _ => (condM_lim (jn_lim (XK6_0 hself) fun _ _ hv7 => (LimM.bnd (LimM.const _) fun _ => (LimM.bnd (LimM.const _) fun _ => (condM_lim (LimM.bnd (LimM.const _) fun _ => (LimM.bnd (LimM.const _) fun _ => (condM_lim (LimM.const _) (hv7 _)))) (LimM.bnd (LimM.const _) fun _ => (LimM.bnd (LimM.const _) fun _ => (LimM.bnd (LimM.const _) fun _ => (LimM.bnd (LimM.const _) fun _ => (LimM.bnd (LimM.const _) fun _ => (LimM.bnd (LimM.const _) fun _ => (condM_lim (LimM.const _) (LimM.bnd (LimM.const _) fun _ => (LimM.bnd (LimM.const _) fun _ => (LimM.bnd (LimM.const _) fun _ => (LimM.bnd (LimM.const _) fun _ => (LimM.bnd (LimM.const _) fun _ => (LimM.bnd (LimM.const _) fun _ => (LimM.bnd (LimM.const _) fun _ => (LimM.bnd (LimM.const _) fun _ => (LimM.bnd (LimM.const _) fun _ => (hv7 _))))))))))))))))))))) (LimM.const _))))
theorem FL6_0 (call : FuncId → List AV → M AV) (vs : List AV) : fixW (L6_0 call fixW ) vs = L6_0 call fixW  (fixW (L6_0 call fixW )) vs := fixW_eq (XL6_0 ) vs
noncomputable def S6 (call : FuncId → List AV → M AV) (fx : Fix AV) (a0 : AV) : M AV :=
  bnd (buildH T 51 3 [(0, AV.int IntKind.i64 0), (1, AV.int IntKind.i64 0), (2, AV.int IntKind.i64 0)]) (fun v0 =>
  fx (L6_0 call fx) [a0, v0, AV.int IntKind.i64 0, AV.int IntKind.i64 0, AV.int IntKind.i64 0, AV.int IntKind.i64 0, AV.int IntKind.i64 0])
theorem E6 (call : FuncId → List AV → M AV) (fx : Fix AV) (a0 : AV) : evBody (pg.cx call Tryz.f6.ntmps ann6) fx Tryz.f6 (own 6) [a0] = S6 call fx a0 := by kernel_rfl
theorem C6 (a0 : AV) : callW pg 6 [a0] = isoP (S6 (callW pg) fixW (cl noHs a0)) := (callW_iso hOther rfl rfl rfl _).trans (congrArg isoP (E6 _ _ (cl noHs a0)))
noncomputable def K8_0 (call : FuncId → List AV → M AV) (fx : Fix AV) (v2 : List AV → M AV) (v6 : List AV) : M AV :=
  bnd (lft (binA T BinOp.add 3 (nth v6 3) (AV.int IntKind.i64 1))) (fun v7 =>
  v2 [nth v6 0, nth v6 1, nth v6 2, v7, nth v6 4, nth v6 5, nth v6 6, nth v6 7, nth v6 8, nth v6 9])
noncomputable def L8_0 (call : FuncId → List AV → M AV) (fx : Fix AV) (v2 : List AV → M AV) (v3 : List AV) : M AV :=
  bnd (lft (lenA T 25 (nth v3 0))) (fun v4 =>
  bnd (lft (binA T BinOp.lss 3 (nth v3 3) v4)) (fun v5 =>
  condM v5 (jn (K8_0 call fx v2) (fun v8 =>
  bnd (lft (indexAddrA T 25 (nth v3 0) (nth v3 3))) (fun v9 =>
  bnd (lft (loadA T 23 v9)) (fun v10 =>
  bnd (noPan (call 18 [nth v3 1, v10])) (fun v11 =>
  bnd (guardM v11 true 1 (bnd (lft (unA UnOp.not (nth v3 2))) (fun v12 =>
  M.pure [v12]))) (fun v13 =>
  bnd (guardM (nth v13 0) false 1 (bnd (lft (indexAddrA T 25 (nth v3 0) (nth v3 3))) (fun v14 =>
  bnd (lft (loadA T 23 v14)) (fun v15 =>
  bnd (noPan (call 12 [AV.agg [nth v3 7, nth v3 8, nth v3 9], v15])) (fun v16 =>
  bnd (lft (binA T BinOp.lss 3 v16 (AV.int IntKind.i64 0))) (fun v17 =>
  M.pure [v17])))))) (fun v18 =>
  bnd (guardM v11 true 1 (bnd (lft (pickA (nth v13 0) (AV.bool true) (nth v18 0))) (fun v19 =>
  M.pure [v19]))) (fun v20 =>
  bnd (lft (pickA v11 (nth v20 0) (AV.bool false))) (fun v21 =>
  condM v21 (bnd (lft (indexAddrA T 25 (nth v3 0) (nth v3 3))) (fun v22 =>
  bnd (lft (loadA T 23 v22)) (fun v23 =>
  bnd (cellsNil 3 [] v23) (fun v24 =>
  v8 [nth v3 0, nth v3 1, AV.bool true, nth v3 3, nth v3 4, nth v3 5, nth v3 6, nth (acells v24) 0, nth (acells v24) 1, nth (acells v24) 2])))) (v8 [nth v3 0, nth v3 1, nth v3 2, nth v3 3, nth v3 4, nth v3 5, nth v3 6, nth v3 7, nth v3 8, nth v3 9])))))))))) (bnd (cellsNil 3 [] (AV.agg [nth v3 7, nth v3 8, nth v3 9])) (fun v25 =>
  M.pure (AV.tup [AV.agg [nth (acells v25) 0, nth (acells v25) 1, nth (acells v25) 2], nth v3 2])))))
theorem XK8_0 {call : FuncId → List AV → M AV} {v2 : List AV → M AV} {v2s : Nat → List AV → M AV} (hv2 : LimF v2 fun n => v2s n) : LimF (K8_0 call fixW v2) fun n => K8_0 call fixW (v2s n) := by
  intro v6
  unfold K8_0
  exact (LimM.bnd (LimM.const _) fun _ => (hv2 _))
theorem XL8_0 {call : FuncId → List AV → M AV} : Cont1 (L8_0 call fixW ) fun _n => L8_0 call fixW  := by
  intro v2 v2s hself v3
  unfold L8_0
  exact (LimM.bnd (LimM.const _) fun _ => (LimM.bnd (LimM.const _) fun _ => (condM_lim (jn_lim (XK8_0 hself) fun _ _ hv8 => (LimM.bnd (LimM.const _) fun _ => (LimM.bnd (LimM.const _) fun _ => (LimM.bnd (LimM.const _) fun _ => (LimM.bnd (LimM.const _) fun _ => (LimM.bnd (LimM.const _) fun _ => (LimM.bnd (LimM.const _) fun _ => (LimM.bnd (LimM.const _) fun _ => (condM_lim (LimM.bnd (LimM.const _) fun _ => (LimM.bnd (LimM.const _) fun _ => (LimM.bnd (LimM.const _) fun _ => (hv8 _)))) (hv8 _)))))))))) (LimM.const _))))
theorem FL8_0 (call : FuncId → List AV → M AV) (vs : List AV) : fixW (L8_0 call fixW ) vs = L8_0 call fixW  (fixW (L8_0 call fixW )) vs := fixW_eq (XL8_0 ) vs
noncomputable def S8 (call : FuncId → List AV → M AV) (fx : Fix AV) (a0 a1 : AV) : M AV :=
  bnd (lft (buildA T false 23 [])) (fun v0 =>
  bnd (cellsNil 3 [] v0) (fun v1 =>
  fx (L8_0 call fx) [a0, a1, AV.bool false, AV.int IntKind.i64 0, AV.int IntKind.i64 0, AV.int IntKind.i64 0, AV.int IntKind.i64 0, nth (acells v1) 0, nth (acells v1) 1, nth (acells v1) 2]))
theorem E8 (call : FuncId → List AV → M AV) (fx : Fix AV) (a0 a1 : AV) : evBody (pg.cx call Tryz.f8.ntmps ann8) fx Tryz.f8 (own 8) [a0, a1] = S8 call fx a0 a1 := by kernel_rfl
theorem C8 (a0 a1 : AV) : callW pg 8 [a0, a1] = isoP (S8 (callW pg) fixW (cl noHs a0) (cl noHs a1)) := (callW_iso hOther rfl rfl rfl _).trans (congrArg isoP (E8 _ _ (cl noHs a0) (cl noHs a1)))
noncomputable def S11 (call : FuncId → List AV → M AV) (fx : Fix AV) (a0 a1 : AV) : M AV :=
  bnd (lft (fieldAddrA T 23 (AV.ip (acells a0)) 0)) (fun v0 =>
  bnd (lft (loadA T 3 v0)) (fun v1 =>
  bnd (lft (fieldAddrA T 23 (AV.ip (acells a1)) 0)) (fun v2 =>
  bnd (lft (loadA T 3 v2)) (fun v3 =>
  bnd (noPan (call 32 [v1, v3])) (fun v4 =>
  bnd (lft (fieldAddrA T 23 (AV.ip (acells a0)) 1)) (fun v5 =>
  bnd (lft (loadA T 3 v5)) (fun v6 =>
  bnd (lft (fieldAddrA T 23 (AV.ip (acells a1)) 1)) (fun v7 =>
  bnd (lft (loadA T 3 v7)) (fun v8 =>
  bnd (noPan (call 32 [v6, v8])) (fun v9 =>
  bnd (lft (fieldAddrA T 23 (AV.ip (acells a0)) 2)) (fun v10 =>
  bnd (lft (loadA T 3 v10)) (fun v11 =>
  bnd (lft (fieldAddrA T 23 (AV.ip (acells a1)) 2)) (fun v12 =>
  bnd (lft (loadA T 3 v12)) (fun v13 =>
  bnd (noPan (call 32 [v11, v13])) (fun v14 =>
  bnd (lft (buildSliceA T 51 3 [(0, v4), (1, v9), (2, v14)])) (fun v15 =>
  bnd (noPan (call 31 [v15])) (fun v16 =>
  M.pure v16)))))))))))))))))
theorem E11 (call : FuncId → List AV → M AV) (fx : Fix AV) (a0 a1 : AV) : evBody (pg.cx call Tryz.f11.ntmps ann11) fx Tryz.f11 (own 11) [a0, a1] = S11 call fx a0 a1 := by kernel_rfl
theorem C11 (a0 a1 : AV) : callW pg 11 [a0, a1] = isoP (S11 (callW pg) fixW (cl noHs a0) (cl noHs a1)) := (callW_iso hOther rfl rfl rfl _).trans (congrArg isoP (E11 _ _ (cl noHs a0) (cl noHs a1)))
noncomputable def S13 (call : FuncId → List AV → M AV) (fx : Fix AV) (a0 : AV) : M AV :=
  bnd (lft (loadA T 23 (AV.ip (acells a0)))) (fun v0 =>
  bnd (call 9 [v0]) (fun v1 =>
  bnd (lft (unA UnOp.not v1)) (fun v2 =>
  condM v2 (M.pure (AV.str [])) (bnd (lft (fieldAddrA T 23 (AV.ip (acells a0)) 0)) (fun v3 =>
  bnd (lft (loadA T 3 v3)) (fun v4 =>
  bnd (lft (fieldAddrA T 23 (AV.ip (acells a0)) 1)) (fun v5 =>
  bnd (lft (loadA T 3 v5)) (fun v6 =>
  bnd (lft (fieldAddrA T 23 (AV.ip (acells a0)) 2)) (fun v7 =>
  bnd (lft (loadA T 3 v7)) (fun v8 =>
  bnd (call 30 [v4]) (fun v9 =>
  bnd (lft (binA T BinOp.add 9 v9 (AV.str [46]))) (fun v10 =>
  bnd (call 30 [v6]) (fun v11 =>
  bnd (lft (binA T BinOp.add 9 v10 v11)) (fun v12 =>
  bnd (lft (binA T BinOp.add 9 v12 (AV.str [46]))) (fun v13 =>
  bnd (call 30 [v8]) (fun v14 =>
  bnd (lft (binA T BinOp.add 9 v13 v14)) (fun v15 =>
  M.pure v15)))))))))))))))))
theorem E13 (call : FuncId → List AV → M AV) (fx : Fix AV) (a0 : AV) : evBody (pg.cx call Tryz.f13.ntmps ann13) fx Tryz.f13 (own 13) [a0] = S13 call fx a0 := by kernel_rfl
theorem C13 (a0 : AV) : callW pg 13 [a0] = isoP (S13 (callW pg) fixW (cl noHs a0)) := (callW_iso hOther rfl rfl rfl _).trans (congrArg isoP (E13 _ _ (cl noHs a0)))
noncomputable def S15 (call : FuncId → List AV → M AV) (fx : Fix AV) (a0 a1 : AV) : M AV :=
  bnd (lft (loadA T 23 (AV.ip (acells a0)))) (fun v0 =>
  bnd (call 9 [v0]) (fun v1 =>
  bnd (lft (unA UnOp.not v1)) (fun v2 =>
  bnd (guardM v2 false 1 (bnd (lft (loadA T 23 (AV.ip (acells a1)))) (fun v3 =>
  bnd (call 9 [v3]) (fun v4 =>
  bnd (lft (unA UnOp.not v4)) (fun v5 =>
  M.pure [v5]))))) (fun v6 =>
  bnd (lft (pickA v2 (AV.bool true) (nth v6 0))) (fun v7 =>
  bnd (guardM v7 false 1 (bnd (lft (loadA T 23 (AV.ip (acells a0)))) (fun v8 =>
  bnd (lft (loadA T 23 (AV.ip (acells a1)))) (fun v9 =>
  bnd (call 11 [v8, v9]) (fun v10 =>
  bnd (lft (binA T BinOp.geq 3 v10 (AV.int IntKind.i64 0))) (fun v11 =>
  M.pure [v11])))))) (fun v12 =>
  bnd (lft (pickA v7 (AV.bool true) (nth v12 0))) (fun v13 =>
  condM v13 (M.pure (AV.int IntKind.i64 0)) (bnd (lft (fieldAddrA T 23 (AV.ip (acells a0)) 0)) (fun v14 =>
  bnd (lft (loadA T 3 v14)) (fun v15 =>
  bnd (lft (fieldAddrA T 23 (AV.ip (acells a1)) 0)) (fun v16 =>
  bnd (lft (loadA T 3 v16)) (fun v17 =>
  bnd (lft (binA T BinOp.lss 3 v15 v17)) (fun v18 =>
  condM v18 (M.pure (AV.int IntKind.i64 3)) (bnd (lft (fieldAddrA T 23 (AV.ip (acells a0)) 1)) (fun v19 =>
  bnd (lft (loadA T 3 v19)) (fun v20 =>
  bnd (lft (fieldAddrA T 23 (AV.ip (acells a1)) 1)) (fun v21 =>
  bnd (lft (loadA T 3 v21)) (fun v22 =>
  bnd (lft (binA T BinOp.lss 3 v20 v22)) (fun v23 =>
  condM v23 (M.pure (AV.int IntKind.i64 2)) (M.pure (AV.int IntKind.i64 1)))))))))))))))))))))
theorem E15 (call : FuncId → List AV → M AV) (fx : Fix AV) (a0 a1 : AV) : evBody (pg.cx call Tryz.f15.ntmps ann15) fx Tryz.f15 (own 15) [a0, a1] = S15 call fx a0 a1 := by kernel_rfl
theorem C15 (a0 a1 : AV) : callW pg 15 [a0, a1] = isoP (S15 (callW pg) fixW (cl noHs a0) (cl noHs a1)) := (callW_iso hOther rfl rfl rfl _).trans (congrArg isoP (E15 _ _ (cl noHs a0) (cl noHs a1)))
noncomputable def S17 (call : FuncId → List AV → M AV) (fx : Fix AV) (a0 a1 : AV) : M AV :=
  bnd (call 35 [a0, AV.fn (Fn.func 36) [] [AV.ip (acells a1)]]) (fun v0 =>
  M.pure v0)
theorem E17 (call : FuncId → List AV → M AV) (fx : Fix AV) (a0 a1 : AV) : evBody (pg.cx call Tryz.f17.ntmps ann17) fx Tryz.f17 (own 17) [a0, a1] = S17 call fx a0 a1 := by kernel_rfl
theorem C17 (a0 a1 : AV) : callW pg 17 [a0, a1] = isoP (S17 (callW pg) fixW (cl noHs a0) (cl noHs a1)) := (callW_iso hOther rfl rfl rfl _).trans (congrArg isoP (E17 _ _ (cl noHs a0) (cl noHs a1)))
noncomputable def L18_0 (call : FuncId → List AV → M AV) (fx : Fix AV) (v0 : List AV → M AV) (v1 : List AV) : M AV :=
  bnd (lft (lenA T 24 (nth v1 0))) (fun v2 =>
  bnd (lft (binA T BinOp.lss 3 (nth v1 2) v2)) (fun v3 =>
  condM v3 (bnd (lft (indexAddrA T 24 (nth v1 0) (nth v1 2))) (fun v4 =>
  bnd (lft (fieldAddrA T 40 v4 0)) (fun v5 =>
  bnd (lft (loadA T 23 v5)) (fun v6 =>
  bnd (lft (loadA T 23 (nth v1 1))) (fun v7 =>
  bnd (noPan (call 12 [v6, v7])) (fun v8 =>
  bnd (lft (binA T BinOp.leq 3 v8 (AV.int IntKind.i64 0))) (fun v9 =>
  bnd (guardM v9 true 1 (bnd (lft (loadA T 23 (nth v1 1))) (fun v10 =>
  bnd (lft (indexAddrA T 24 (nth v1 0) (nth v1 2))) (fun v11 =>
  bnd (lft (fieldAddrA T 40 v11 1)) (fun v12 =>
  bnd (lft (loadA T 23 v12)) (fun v13 =>
  bnd (noPan (call 12 [v10, v13])) (fun v14 =>
  bnd (lft (binA T BinOp.lss 3 v14 (AV.int IntKind.i64 0))) (fun v15 =>
  M.pure [v15])))))))) (fun v16 =>
  bnd (lft (pickA v9 (nth v16 0) (AV.bool false))) (fun v17 =>
  condM v17 (M.pure (AV.bool true)) (bnd (lft (binA T BinOp.add 3 (nth v1 2) (AV.int IntKind.i64 1))) (fun v18 =>
  v0 [nth v1 0, nth v1 1, v18]))))))))))) (M.pure (AV.bool false))))
theorem XL18_0 {call : FuncId → List AV → M AV} : Cont1 (L18_0 call fixW ) fun _n => L18_0 call fixW  := by
  intro v0 v0s hself v1
  unfold L18_0
  exact (LimM.bnd (LimM.const _) fun _ => (LimM.bnd (LimM.const _) fun _ => (condM_lim (LimM.bnd (LimM.const _) fun _ => (LimM.bnd (LimM.const _) fun _ => (LimM.bnd (LimM.const _) fun _ => (LimM.bnd (LimM.const _) fun _ => (LimM.bnd (LimM.const _) fun _ => (LimM.bnd (LimM.const _) fun _ => (LimM.bnd (LimM.const _) fun _ => (LimM.bnd (LimM.const _) fun _ => (condM_lim (LimM.const _) (LimM.bnd (LimM.const _) fun _ => (hself _))))))))))) (LimM.const _))))
theorem FL18_0 (call : FuncId → List AV → M AV) (vs : List AV) : fixW (L18_0 call fixW ) vs = L18_0 call fixW  (fixW (L18_0 call fixW )) vs := fixW_eq (XL18_0 ) vs
noncomputable def S18 (call : FuncId → List AV → M AV) (fx : Fix AV) (a0 a1 : AV) : M AV :=
  fx (L18_0 call fx) [a0, AV.ip (acells a1), AV.int IntKind.i64 0]
theorem E18 (call : FuncId → List AV → M AV) (fx : Fix AV) (a0 a1 : AV) : evBody (pg.cx call Tryz.f18.ntmps ann18) fx Tryz.f18 (own 18) [a0, a1] = S18 call fx a0 a1 := by kernel_rfl
theorem C18 (a0 a1 : AV) : callW pg 18 [a0, a1] = isoP (S18 (callW pg) fixW (cl noHs a0) (cl noHs a1)) := (callW_iso hOther rfl rfl rfl _).trans (congrArg isoP (E18 _ _ (cl noHs a0) (cl noHs a1)))
noncomputable def L20_0 (call : FuncId → List AV → M AV) (fx : Fix AV) (v4 : List AV → M AV) (v5 : List AV) : M AV :=
  bnd (lft (binA T BinOp.lss 3 (nth v5 3) (nth v5 2))) (fun v6 =>
  condM v6 (bnd (lft (indexAddrA T 24 (nth v5 1) (nth v5 3))) (fun v7 =>
  bnd (loadH T 40 v7) (fun v8 =>
  bnd (cellsM 6 v8) (fun v9 =>
  bnd (lft (lenA T 24 (nth v5 0))) (fun v10 =>
  bnd (lft (binA T BinOp.sub 3 v10 (AV.int IntKind.i64 1))) (fun v11 =>
  bnd (lft (binA T BinOp.geq 3 v11 (AV.int IntKind.i64 0))) (fun v12 =>
  bnd (guardM v12 true 1 (bnd (lft (fieldAddrA T 40 (AV.ip (acells v9)) 0)) (fun v13 =>
  bnd (lft (loadA T 23 v13)) (fun v14 =>
  bnd (lft (indexAddrA T 24 (nth v5 0) v11)) (fun v15 =>
  bnd (lft (fieldAddrA T 40 v15 1)) (fun v16 =>
  bnd (loadH T 23 v16) (fun v17 =>
  bnd (noPan (call 11 [v14, v17])) (fun v18 =>
  bnd (lft (binA T BinOp.leq 3 v18 (AV.int IntKind.i64 0))) (fun v19 =>
  M.pure [v19]))))))))) (fun v20 =>
  bnd (lft (pickA v12 (nth v20 0) (AV.bool false))) (fun v21 =>
  condM v21 (bnd (lft (indexAddrA T 24 (nth v5 0) v11)) (fun v22 =>
  bnd (lft (fieldAddrA T 40 v22 1)) (fun v23 =>
  bnd (loadH T 23 v23) (fun v24 =>
  bnd (lft (fieldAddrA T 40 (AV.ip (acells v9)) 1)) (fun v25 =>
  bnd (lft (loadA T 23 v25)) (fun v26 =>
  bnd (noPan (call 11 [v24, v26])) (fun v27 =>
  bnd (lft (binA T BinOp.lss 3 v27 (AV.int IntKind.i64 0))) (fun v28 =>
  condM v28 (bnd (lft (fieldAddrA T 40 (AV.ip (acells v9)) 1)) (fun v29 =>
  bnd (lft (loadA T 23 v29)) (fun v30 =>
  bnd (lft (indexAddrA T 24 (nth v5 0) v11)) (fun v31 =>
  bnd (lft (fieldAddrA T 40 v31 1)) (fun v32 =>
  bnd (storeH T 23 v32 v30) (fun v33 =>
  bnd (lft (binA T BinOp.add 3 (nth v5 3) (AV.int IntKind.i64 1))) (fun v34 =>
  v4 [nth v5 0, nth v5 1, nth v5 2, v34]))))))) (bnd (lft (binA T BinOp.add 3 (nth v5 3) (AV.int IntKind.i64 1))) (fun v35 =>
  v4 [nth v5 0, nth v5 1, nth v5 2, v35])))))))))) (bnd (lft (loadA T 40 (AV.ip (acells v9)))) (fun v36 =>
  bnd (lft (buildSliceA T 24 1 [(0, v36)])) (fun v37 =>
  bnd (appH T 24 false (nth v5 0) v37) (fun v38 =>
  bnd (lft (binA T BinOp.add 3 (nth v5 3) (AV.int IntKind.i64 1))) (fun v39 =>
  v4 [v38, nth v5 1, nth v5 2, v39])))))))))))))) (M.pure (nth v5 0)))
theorem XL20_0 {call : FuncId → List AV → M AV} : Cont1 (L20_0 call fixW ) fun _n => L20_0 call fixW  := by
  intro v4 v4s hself v5
  unfold L20_0
  exact (LimM.bnd (LimM.const _) fun _ => (condM_lim (LimM.bnd (LimM.const _) fun _ => (LimM.bnd (LimM.const _) fun _ => (LimM.bnd (LimM.const _) fun _ => (LimM.bnd (LimM.const _) fun _ => (LimM.bnd (LimM.const _) fun _ => (LimM.bnd (LimM.const _) fun _ => (LimM.bnd (LimM.const _) fun _ => (LimM.bnd (LimM.const _) fun _ => (condM_lim (LimM.bnd (LimM.const _) fun _ => (LimM.bnd (LimM.const _) fun _ => (LimM.bnd (LimM.const _) fun _ => (LimM.bnd (LimM.const _) fun _ => (LimM.bnd (LimM.const _) fun _ => (LimM.bnd (LimM.const _) fun _ => (LimM.bnd (LimM.const _) fun _ => (condM_lim (LimM.bnd (LimM.const _) fun _ => (LimM.bnd (LimM.const _) fun _ => (LimM.bnd (LimM.const _) fun _ => (LimM.bnd (LimM.const _) fun _ => (LimM.bnd (LimM.const _) fun _ => (LimM.bnd (LimM.const _) fun _ => (hself _))))))) (LimM.bnd (LimM.const _) fun _ => (hself _)))))))))) (LimM.bnd (LimM.const _) fun _ => (LimM.bnd (LimM.const _) fun _ => (LimM.bnd (LimM.const _) fun _ => (LimM.bnd (LimM.const _) fun _ => (hself _)))))))))))))) (LimM.const _)))
theorem FL20_0 (call : FuncId → List AV → M AV) (vs : List AV) : fixW (L20_0 call fixW ) vs = L20_0 call fixW  (fixW (L20_0 call fixW )) vs := fixW_eq (XL20_0 ) vs
noncomputable def S20 (call : FuncId → List AV → M AV) (fx : Fix AV) (a0 : AV) : M AV :=
  bnd (call 39 [a0]) (fun v0 =>
  bnd (call 38 [v0, AV.fn (Fn.func 40) [] []]) (fun v1 =>
  bnd (call 41 [v1, AV.fn (Fn.func 42) [] []]) (fun v2 =>
  bnd (lft (lenA T 24 v1)) (fun v3 =>
  fx (L20_0 call fx) [AV.hn, v1, v3, AV.int IntKind.i64 0]))))
theorem E20 (call : FuncId → List AV → M AV) (fx : Fix AV) (a0 : AV) : evBody (pg.cx call Tryz.f20.ntmps ann20) fx Tryz.f20 (own 20) [a0] = S20 call fx a0 := by kernel_rfl
theorem C20 (a0 : AV) : callW pg 20 [a0] = isoP (S20 (callW pg) fixW (cl noHs a0)) := (callW_iso hOther rfl rfl rfl _).trans (congrArg isoP (E20 _ _ (cl noHs a0)))
noncomputable def S22 (call : FuncId → List AV → M AV) (fx : Fix AV) (a0 a1 : AV) : M AV :=
  bnd (lft (buildSliceA T 71 2 [(0, a0), (1, a1)])) (fun v0 =>
  bnd (call 43 [v0]) (fun v1 =>
  bnd (call 20 [v1]) (fun v2 =>
  M.pure v2)))
theorem E22 (call : FuncId → List AV → M AV) (fx : Fix AV) (a0 a1 : AV) : evBody (pg.cx call Tryz.f22.ntmps ann22) fx Tryz.f22 (own 22) [a0, a1] = S22 call fx a0 a1 := by kernel_rfl
theorem C22 (a0 a1 : AV) : callW pg 22 [a0, a1] = isoP (S22 (callW pg) fixW (cl noHs a0) (cl noHs a1)) := (callW_iso hOther rfl rfl rfl _).trans (congrArg isoP (E22 _ _ (cl noHs a0) (cl noHs a1)))
noncomputable def L24_0 (call : FuncId → List AV → M AV) (fx : Fix AV) (v1 : List AV → M AV) (v8 : List AV → M AV) (v9 : List AV) : M AV :=
  bnd (lft (binA T BinOp.lss 3 (nth v9 8) (nth v9 7))) (fun v10 =>
  condM v10 (bnd (lft (indexAddrA T 24 (nth v9 6) (nth v9 8))) (fun v11 =>
  bnd (lft (loadA T 40 v11)) (fun v12 =>
  bnd (cellsM 6 v12) (fun v13 =>
  bnd (lft (fieldAddrA T 40 (nth v9 2) 0)) (fun v14 =>
  bnd (lft (loadA T 23 v14)) (fun v15 =>
  bnd (lft (fieldAddrA T 40 (AV.ip (acells v13)) 0)) (fun v16 =>
  bnd (lft (loadA T 23 v16)) (fun v17 =>
  bnd (noPan (call 46 [v15, v17])) (fun v18 =>
  bnd (lft (fieldAddrA T 40 (nth v9 2) 1)) (fun v19 =>
  bnd (lft (loadA T 23 v19)) (fun v20 =>
  bnd (lft (fieldAddrA T 40 (AV.ip (acells v13)) 1)) (fun v21 =>
  bnd (lft (loadA T 23 v21)) (fun v22 =>
  bnd (noPan (call 47 [v20, v22])) (fun v23 =>
  bnd (lft (buildA T false 40 [(0, v18), (1, v23)])) (fun v24 =>
  bnd (lft (buildSliceA T 24 1 [(0, v24)])) (fun v25 =>
  bnd (lft (appA T 24 (nth v9 1) v25)) (fun v26 =>
  bnd (lft (binA T BinOp.add 3 (nth v9 8) (AV.int IntKind.i64 1))) (fun v27 =>
  v8 [nth v9 0, v26, nth v9 2, nth v9 3, nth v9 4, nth v9 5, nth v9 6, nth v9 7, v27])))))))))))))))))) (bnd (lft (binA T BinOp.add 3 (nth v9 5) (AV.int IntKind.i64 1))) (fun v28 =>
  v1 [nth v9 0, nth v9 1, nth v9 3, nth v9 4, v28])))
noncomputable def L24_1 (call : FuncId → List AV → M AV) (fx : Fix AV) (v1 : List AV → M AV) (v2 : List AV) : M AV :=
  bnd (lft (binA T BinOp.lss 3 (nth v2 4) (nth v2 3))) (fun v3 =>
  condM v3 (bnd (lft (indexAddrA T 24 (nth v2 2) (nth v2 4))) (fun v4 =>
  bnd (lft (loadA T 40 v4)) (fun v5 =>
  bnd (cellsM 6 v5) (fun v6 =>
  bnd (lft (lenA T 24 (nth v2 0))) (fun v7 =>
  fx (L24_0 call fx v1) [nth v2 0, nth v2 1, AV.ip (acells v6), nth v2 2, nth v2 3, nth v2 4, nth v2 0, v7, AV.int IntKind.i64 0]))))) (bnd (call 20 [nth v2 1]) (fun v29 =>
  M.pure v29)))
theorem XL24_0 {call : FuncId → List AV → M AV} {v1 : List AV → M AV} {v1s : Nat → List AV → M AV} (hv1 : LimF v1 fun n => v1s n) : Cont1 (L24_0 call fixW v1) fun n => L24_0 call fixW (v1s n) := by
  intro v8 v8s hself v9
  unfold L24_0
  exact (LimM.bnd (LimM.const _) fun _ => (condM_lim (LimM.bnd (LimM.const _) fun _ => (LimM.bnd (LimM.const _) fun _ => (LimM.bnd (LimM.const _) fun _ => (LimM.bnd (LimM.const _) fun _ => (LimM.bnd (LimM.const _) fun _ => (LimM.bnd (LimM.const _) fun _ => (LimM.bnd (LimM.const _) fun _ => (LimM.bnd (LimM.const _) fun _ => (LimM.bnd (LimM.const _) fun _ => (LimM.bnd (LimM.const _) fun _ => (LimM.bnd (LimM.const _) fun _ => (LimM.bnd (LimM.const _) fun _ => (LimM.bnd (LimM.const _) fun _ => (LimM.bnd (LimM.const _) fun _ => (LimM.bnd (LimM.const _) fun _ => (LimM.bnd (LimM.const _) fun _ => (LimM.bnd (LimM.const _) fun _ => (hself _)))))))))))))))))) (LimM.bnd (LimM.const _) fun _ => (hv1 _))))
theorem YL24_0 {call : FuncId → List AV → M AV} {v1 : List AV → M AV} {v1s : Nat → List AV → M AV} (hv1 : LimF v1 fun n => v1s n) : LimF (fixW (L24_0 call fixW v1)) fun n => fixW (L24_0 call fixW (v1s n)) := fixW_limF (XL24_0 hv1) (XL24_0 (LimF.const _)) fun _ => XL24_0 (LimF.const _)
theorem FL24_0 (call : FuncId → List AV → M AV) (v1 : List AV → M AV) (vs : List AV) : fixW (L24_0 call fixW v1) vs = L24_0 call fixW v1 (fixW (L24_0 call fixW v1)) vs := fixW_eq (XL24_0 (LimF.const _)) vs
theorem XL24_1 {call : FuncId → List AV → M AV} : Cont1 (L24_1 call fixW ) fun _n => L24_1 call fixW  := by
  intro v1 v1s hself v2
  unfold L24_1
  exact (LimM.bnd (LimM.const _) fun _ => (condM_lim (LimM.bnd (LimM.const _) fun _ => (LimM.bnd (LimM.const _) fun _ => (LimM.bnd (LimM.const _) fun _ => (LimM.bnd (LimM.const _) fun _ => ((YL24_0 hself) _))))) (LimM.const _)))
theorem FL24_1 (call : FuncId → List AV → M AV) (vs : List AV) : fixW (L24_1 call fixW ) vs = L24_1 call fixW  (fixW (L24_1 call fixW )) vs := fixW_eq (XL24_1 ) vs
noncomputable def S24 (call : FuncId → List AV → M AV) (fx : Fix AV) (a0 a1 : AV) : M AV :=
  bnd (lft (lenA T 24 a0)) (fun v0 =>
  fx (L24_1 call fx) [a1, AV.sl [], a0, v0, AV.int IntKind.i64 0])
theorem E24 (call : FuncId → List AV → M AV) (fx : Fix AV) (a0 a1 : AV) : evBody (pg.cx call Tryz.f24.ntmps ann24) fx Tryz.f24 (own 24) [a0, a1] = S24 call fx a0 a1 := by kernel_rfl
theorem C24 (a0 a1 : AV) : callW pg 24 [a0, a1] = isoP (S24 (callW pg) fixW (cl noHs a0) (cl noHs a1)) := (callW_iso hOther rfl rfl rfl _).trans (congrArg isoP (E24 _ _ (cl noHs a0) (cl noHs a1)))
noncomputable def S32 (call : FuncId → List AV → M AV) (fx : Fix AV) (a0 a1 : AV) : M AV :=
  bnd (call 52 [a0]) (fun v0 =>
  bnd (call 52 [a1]) (fun v1 =>
  condM v0 (condM v1 (M.pure (AV.int IntKind.i64 0)) (M.pure (AV.int IntKind.i64 (-1)))) (condM v1 (M.pure (AV.int IntKind.i64 1)) (bnd (lft (binA T BinOp.lss 3 a0 a1)) (fun v2 =>
  condM v2 (M.pure (AV.int IntKind.i64 (-1))) (bnd (lft (binA T BinOp.gtr 3 a0 a1)) (fun v3 =>
  condM v3 (M.pure (AV.int IntKind.i64 1)) (M.pure (AV.int IntKind.i64 0)))))))))
theorem E32 (call : FuncId → List AV → M AV) (fx : Fix AV) (a0 a1 : AV) : evBody (pg.cx call Tryz.f32.ntmps ann32) fx Tryz.f32 (own 32) [a0, a1] = S32 call fx a0 a1 := by kernel_rfl
theorem C32 (a0 a1 : AV) : callW pg 32 [a0, a1] = isoP (S32 (callW pg) fixW (cl noHs a0) (cl noHs a1)) := (callW_iso hOther rfl rfl rfl _).trans (congrArg isoP (E32 _ _ (cl noHs a0) (cl noHs a1)))
noncomputable def S33 (call : FuncId → List AV → M AV) (fx : Fix AV) (a0 a1 : AV) : M AV :=
  bnd (lft (binA T BinOp.lss 3 a0 a1)) (fun v0 =>
  condM v0 (M.pure (AV.int IntKind.i64 (-1))) (bnd (lft (binA T BinOp.gtr 3 a0 a1)) (fun v1 =>
  condM v1 (M.pure (AV.int IntKind.i64 1)) (M.pure (AV.int IntKind.i64 0)))))
theorem E33 (call : FuncId → List AV → M AV) (fx : Fix AV) (a0 a1 : AV) : evBody (pg.cx call Tryz.f33.ntmps ann33) fx Tryz.f33 (own 33) [a0, a1] = S33 call fx a0 a1 := by kernel_rfl
theorem C33 (a0 a1 : AV) : callW pg 33 [a0, a1] = isoP (S33 (callW pg) fixW (cl noHs a0) (cl noHs a1)) := (callW_iso hOther rfl rfl rfl _).trans (congrArg isoP (E33 _ _ (cl noHs a0) (cl noHs a1)))
noncomputable def S36 (call : FuncId → List AV → M AV) (fx : Fix AV) (a0 a1 : AV) : M AV :=
  bnd (lft (loadA T 40 (AV.ip (acells a0)))) (fun v0 =>
  bnd (lft (loadA T 23 a1)) (fun v1 =>
  bnd (call 37 [v0, v1]) (fun v2 =>
  M.pure v2)))
theorem E36 (call : FuncId → List AV → M AV) (fx : Fix AV) (a0 a1 : AV) : evBody (pg.cx call Tryz.f36.ntmps ann36) fx Tryz.f36 (own 36) [a0, a1] = S36 call fx a0 a1 := by kernel_rfl
theorem C36 (a0 a1 : AV) : callW pg 36 [a0, a1] = isoP (S36 (callW pg) fixW (cl noHs a0) (cl noHs a1)) := (callW_iso hOther rfl rfl rfl _).trans (congrArg isoP (E36 _ _ (cl noHs a0) (cl noHs a1)))
noncomputable def S37 (call : FuncId → List AV → M AV) (fx : Fix AV) (a0 a1 : AV) : M AV :=
  bnd (lft (fieldAddrA T 40 (AV.ip (acells a0)) 0)) (fun v0 =>
  bnd (lft (loadA T 23 v0)) (fun v1 =>
  bnd (lft (loadA T 23 (AV.ip (acells a1)))) (fun v2 =>
  bnd (call 11 [v1, v2]) (fun v3 =>
  bnd (lft (binA T BinOp.leq 3 v3 (AV.int IntKind.i64 0))) (fun v4 =>
  bnd (guardM v4 true 1 (bnd (lft (loadA T 23 (AV.ip (acells a1)))) (fun v5 =>
  bnd (lft (fieldAddrA T 40 (AV.ip (acells a0)) 1)) (fun v6 =>
  bnd (lft (loadA T 23 v6)) (fun v7 =>
  bnd (call 11 [v5, v7]) (fun v8 =>
  bnd (lft (binA T BinOp.lss 3 v8 (AV.int IntKind.i64 0))) (fun v9 =>
  M.pure [v9]))))))) (fun v10 =>
  bnd (lft (pickA v4 (nth v10 0) (AV.bool false))) (fun v11 =>
  M.pure v11)))))))
theorem E37 (call : FuncId → List AV → M AV) (fx : Fix AV) (a0 a1 : AV) : evBody (pg.cx call Tryz.f37.ntmps ann37) fx Tryz.f37 (own 37) [a0, a1] = S37 call fx a0 a1 := by kernel_rfl
theorem C37 (a0 a1 : AV) : callW pg 37 [a0, a1] = isoP (S37 (callW pg) fixW (cl noHs a0) (cl noHs a1)) := (callW_iso hOther rfl rfl rfl _).trans (congrArg isoP (E37 _ _ (cl noHs a0) (cl noHs a1)))
noncomputable def K38_0 (call : FuncId → List AV → M AV) (fx : Fix AV) (v3 : List AV → M AV) (v7 : List AV) : M AV :=
  bnd (lft (binA T BinOp.add 3 (nth v7 3) (AV.int IntKind.i64 1))) (fun v8 =>
  v3 [nth v7 0, nth v7 1, nth v7 2, v8])
noncomputable def L38_0 (call : FuncId → List AV → M AV) (fx : Fix AV) (v3 : List AV → M AV) (v4 : List AV) : M AV :=
  bnd (lft (lenA T 24 (nth v4 0))) (fun v5 =>
  bnd (lft (binA T BinOp.lss 3 (nth v4 3) v5)) (fun v6 =>
  condM v6 (jn (K38_0 call fx v3) (fun v9 =>
  bnd (lft (indexAddrA T 24 (nth v4 0) (nth v4 3))) (fun v10 =>
  bnd (loadH T 40 v10) (fun v11 =>
  bnd (cellsM 6 v11) (fun v12 =>
  bnd (lft (loadA T 40 (AV.ip (acells v12)))) (fun v13 =>
  bnd (callV call (nth v4 1) [v13]) (fun v14 =>
  bnd (lft (unA UnOp.not v14)) (fun v15 =>
  condM v15 (bnd (lft (loadA T 40 (AV.ip (acells v12)))) (fun v16 =>
  bnd (lft (indexAddrA T 24 (nth v4 0) (nth v4 2))) (fun v17 =>
  bnd (storeH T 40 v17 v16) (fun v18 =>
  bnd (lft (binA T BinOp.add 3 (nth v4 2) (AV.int IntKind.i64 1))) (fun v19 =>
  v9 [nth v4 0, nth v4 1, v19, nth v4 3]))))) (v9 [nth v4 0, nth v4 1, nth v4 2, nth v4 3]))))))))) (bnd (lft (sliceA T 24 (nth v4 0) (some (nth v4 2)) none none)) (fun v20 =>
  bnd (clearH T 24 v20) (fun v21 =>
  bnd (lft (sliceA T 24 (nth v4 0) none (some (nth v4 2)) none)) (fun v22 =>
  M.pure v22))))))
theorem XK38_0 {call : FuncId → List AV → M AV} {v3 : List AV → M AV} {v3s : Nat → List AV → M AV} (hv3 : LimF v3 fun n => v3s n) : LimF (K38_0 call fixW v3) fun n => K38_0 call fixW (v3s n) := by
  intro v7
  unfold K38_0
  exact (LimM.bnd (LimM.const _) fun _ => (hv3 _))
theorem XL38_0 {call : FuncId → List AV → M AV} : Cont1 (L38_0 call fixW ) fun _n => L38_0 call fixW  := by
  intro v3 v3s hself v4
  unfold L38_0
  exact (LimM.bnd (LimM.const _) fun _ => (LimM.bnd (LimM.const _) fun _ => (condM_lim (jn_lim (XK38_0 hself) fun _ _ hv9 => (LimM.bnd (LimM.const _) fun _ => (LimM.bnd (LimM.const _) fun _ => (LimM.bnd (LimM.const _) fun _ => (LimM.bnd (LimM.const _) fun _ => (LimM.bnd (LimM.const _) fun _ => (LimM.bnd (LimM.const _) fun _ => (condM_lim (LimM.bnd (LimM.const _) fun _ => (LimM.bnd (LimM.const _) fun _ => (LimM.bnd (LimM.const _) fun _ => (LimM.bnd (LimM.const _) fun _ => (hv9 _))))) (hv9 _))))))))) (LimM.const _))))
theorem FL38_0 (call : FuncId → List AV → M AV) (vs : List AV) : fixW (L38_0 call fixW ) vs = L38_0 call fixW  (fixW (L38_0 call fixW )) vs := fixW_eq (XL38_0 ) vs
noncomputable def S38 (call : FuncId → List AV → M AV) (fx : Fix AV) (a0 a1 : AV) : M AV :=
  bnd (call 53 [a0, a1]) (fun v0 =>
  bnd (lft (binA T BinOp.eql 3 v0 (AV.int IntKind.i64 (-1)))) (fun v1 =>
  condM v1 (M.pure a0) (bnd (lft (binA T BinOp.add 3 v0 (AV.int IntKind.i64 1))) (fun v2 =>
  fx (L38_0 call fx) [a0, a1, v0, v2]))))
theorem E38 (call : FuncId → List AV → M AV) (fx : Fix AV) (a0 a1 : AV) : evBody (pg.cx call Tryz.f38.ntmps ann38) fx Tryz.f38 (own 38) [a0, a1] = S38 call fx a0 a1 := by kernel_rfl
theorem C38 (a0 a1 : AV) : callW pg 38 [a0, a1] = S38 (callW pg) fixW a0 a1 := (callW_heap hOther rfl rfl rfl _).trans (E38 _ _ a0 a1)
noncomputable def S40 (call : FuncId → List AV → M AV) (fx : Fix AV) (a0 : AV) : M AV :=
  bnd (lft (fieldAddrA T 40 (AV.ip (acells a0)) 0)) (fun v0 =>
  bnd (lft (loadA T 23 v0)) (fun v1 =>
  bnd (lft (fieldAddrA T 40 (AV.ip (acells a0)) 1)) (fun v2 =>
  bnd (lft (loadA T 23 v2)) (fun v3 =>
  bnd (call 11 [v1, v3]) (fun v4 =>
  bnd (lft (binA T BinOp.geq 3 v4 (AV.int IntKind.i64 0))) (fun v5 =>
  M.pure v5))))))
theorem E40 (call : FuncId → List AV → M AV) (fx : Fix AV) (a0 : AV) : evBody (pg.cx call Tryz.f40.ntmps ann40) fx Tryz.f40 (own 40) [a0] = S40 call fx a0 := by kernel_rfl
theorem C40 (a0 : AV) : callW pg 40 [a0] = isoP (S40 (callW pg) fixW (cl noHs a0)) := (callW_iso hOther rfl rfl rfl _).trans (congrArg isoP (E40 _ _ (cl noHs a0)))
noncomputable def S46 (call : FuncId → List AV → M AV) (fx : Fix AV) (a0 a1 : AV) : M AV :=
  bnd (lft (loadA T 23 (AV.ip (acells a0)))) (fun v0 =>
  bnd (lft (loadA T 23 (AV.ip (acells a1)))) (fun v1 =>
  bnd (call 11 [v0, v1]) (fun v2 =>
  bnd (lft (binA T BinOp.lss 3 v2 (AV.int IntKind.i64 0))) (fun v3 =>
  condM v3 (bnd (lft (loadA T 23 (AV.ip (acells a1)))) (fun v4 =>
  bnd (cellsNil 3 [] v4) (fun v5 =>
  M.pure (AV.agg [nth (acells v5) 0, nth (acells v5) 1, nth (acells v5) 2])))) (bnd (lft (loadA T 23 (AV.ip (acells a0)))) (fun v6 =>
  bnd (cellsNil 3 [] v6) (fun v7 =>
  M.pure (AV.agg [nth (acells v7) 0, nth (acells v7) 1, nth (acells v7) 2]))))))))
theorem E46 (call : FuncId → List AV → M AV) (fx : Fix AV) (a0 a1 : AV) : evBody (pg.cx call Tryz.f46.ntmps ann46) fx Tryz.f46 (own 46) [a0, a1] = S46 call fx a0 a1 := by kernel_rfl
theorem C46 (a0 a1 : AV) : callW pg 46 [a0, a1] = isoP (S46 (callW pg) fixW (cl noHs a0) (cl noHs a1)) := (callW_iso hOther rfl rfl rfl _).trans (congrArg isoP (E46 _ _ (cl noHs a0) (cl noHs a1)))
noncomputable def S52 (call : FuncId → List AV → M AV) (fx : Fix AV) (a0 : AV) : M AV :=
  bnd (lft (binA T BinOp.neq 3 a0 a0)) (fun v0 =>
  M.pure v0)
theorem E52 (call : FuncId → List AV → M AV) (fx : Fix AV) (a0 : AV) : evBody (pg.cx call Tryz.f52.ntmps ann52) fx Tryz.f52 (own 52) [a0] = S52 call fx a0 := by kernel_rfl
theorem C52 (a0 : AV) : callW pg 52 [a0] = isoP (S52 (callW pg) fixW (cl noHs a0)) := (callW_iso hOther rfl rfl rfl _).trans (congrArg isoP (E52 _ _ (cl noHs a0)))
noncomputable def L53_0 (call : FuncId → List AV → M AV) (fx : Fix AV) (v1 : List AV → M AV) (v2 : List AV) : M AV :=
  bnd (lft (binA T BinOp.lss 3 (nth v2 3) (nth v2 2))) (fun v3 =>
  condM v3 (bnd (lft (indexAddrA T 24 (nth v2 0) (nth v2 3))) (fun v4 =>
  bnd (loadH T 40 v4) (fun v5 =>
  bnd (callV call (nth v2 1) [v5]) (fun v6 =>
  condM v6 (M.pure (nth v2 3)) (bnd (lft (binA T BinOp.add 3 (nth v2 3) (AV.int IntKind.i64 1))) (fun v7 =>
  v1 [nth v2 0, nth v2 1, nth v2 2, v7])))))) (M.pure (AV.int IntKind.i64 (-1))))
theorem XL53_0 {call : FuncId → List AV → M AV} : Cont1 (L53_0 call fixW ) fun _n => L53_0 call fixW  := by
  intro v1 v1s hself v2
  unfold L53_0
  exact (LimM.bnd (LimM.const _) fun _ => (condM_lim (LimM.bnd (LimM.const _) fun _ => (LimM.bnd (LimM.const _) fun _ => (LimM.bnd (LimM.const _) fun _ => (condM_lim (LimM.const _) (LimM.bnd (LimM.const _) fun _ => (hself _)))))) (LimM.const _)))
theorem FL53_0 (call : FuncId → List AV → M AV) (vs : List AV) : fixW (L53_0 call fixW ) vs = L53_0 call fixW  (fixW (L53_0 call fixW )) vs := fixW_eq (XL53_0 ) vs
noncomputable def S53 (call : FuncId → List AV → M AV) (fx : Fix AV) (a0 a1 : AV) : M AV :=
  bnd (lft (lenA T 24 a0)) (fun v0 =>
  fx (L53_0 call fx) [a0, a1, v0, AV.int IntKind.i64 0])
theorem E53 (call : FuncId → List AV → M AV) (fx : Fix AV) (a0 a1 : AV) : evBody (pg.cx call Tryz.f53.ntmps ann53) fx Tryz.f53 (own 53) [a0, a1] = S53 call fx a0 a1 := by kernel_rfl
theorem C53 (a0 a1 : AV) : callW pg 53 [a0, a1] = S53 (callW pg) fixW a0 a1 := (callW_heap hOther rfl rfl rfl _).trans (E53 _ _ a0 a1)
end Go.Proofs.YtllapohmppeceaaGreatDoor
