/- Shallow programs of the functions, part 1: written by a program. No condition. -/
import Derived.Test.YteemeakjlfnapaaGreatDoorAnn
namespace Go.Proofs.YteemeakjlfnapaaGreatDoor
open Go Go.Av
set_option maxRecDepth 100000
noncomputable def S4 (call : FuncId → List AV → M AV) (fx : Fix AV) (a0 a1 a2 : AV) : M AV :=
  bnd (call 14 []) (fun v0 =>
  bnd (lft (loadA T 24 (AV.ip (acells a0)))) (fun v1 =>
  bnd (call 15 [v1]) (fun v2 =>
  bnd (lft (unA UnOp.not v2)) (fun v3 =>
  bnd (guardM v3 false 1 (bnd (lft (loadA T 24 (AV.ip (acells a1)))) (fun v4 =>
  bnd (call 15 [v4]) (fun v5 =>
  bnd (lft (unA UnOp.not v5)) (fun v6 =>
  M.pure [v6]))))) (fun v7 =>
  bnd (lft (pickA v3 (AV.bool true) (nth v7 0))) (fun v8 =>
  bnd (guardM v8 false 1 (bnd (lft (loadA T 24 (AV.ip (acells a2)))) (fun v9 =>
  bnd (call 15 [v9]) (fun v10 =>
  bnd (lft (unA UnOp.not v10)) (fun v11 =>
  M.pure [v11]))))) (fun v12 =>
  bnd (lft (pickA v8 (AV.bool true) (nth v12 0))) (fun v13 =>
  condM v13 (M.pure v0) (bnd (lft (loadA T 24 (AV.ip (acells a0)))) (fun v14 =>
  bnd (lft (loadA T 24 (AV.ip (acells a0)))) (fun v15 =>
  bnd (call 17 [v14, v15]) (fun v16 =>
  bnd (lft (extractA v16 0)) (fun v17 =>
  bnd (lft (extractA v16 1)) (fun v18 =>
  bnd (lft (loadA T 24 (AV.ip (acells a0)))) (fun v19 =>
  bnd (lft (loadA T 24 (AV.ip (acells a1)))) (fun v20 =>
  bnd (call 17 [v19, v20]) (fun v21 =>
  bnd (lft (extractA v21 0)) (fun v22 =>
  bnd (lft (extractA v21 1)) (fun v23 =>
  bnd (lft (loadA T 24 (AV.ip (acells a1)))) (fun v24 =>
  bnd (lft (loadA T 24 (AV.ip (acells a0)))) (fun v25 =>
  bnd (call 17 [v24, v25]) (fun v26 =>
  bnd (lft (extractA v26 0)) (fun v27 =>
  bnd (lft (extractA v26 1)) (fun v28 =>
  bnd (lft (loadA T 24 (AV.ip (acells a1)))) (fun v29 =>
  bnd (lft (loadA T 24 (AV.ip (acells a2)))) (fun v30 =>
  bnd (call 17 [v29, v30]) (fun v31 =>
  bnd (lft (extractA v31 0)) (fun v32 =>
  bnd (lft (extractA v31 1)) (fun v33 =>
  bnd (lft (loadA T 24 (AV.ip (acells a0)))) (fun v34 =>
  bnd (lft (loadA T 24 (AV.ip (acells a2)))) (fun v35 =>
  bnd (call 17 [v34, v35]) (fun v36 =>
  bnd (lft (extractA v36 0)) (fun v37 =>
  bnd (lft (extractA v36 1)) (fun v38 =>
  bnd (lft (binA T BinOp.neq 9 v18 (AV.str []))) (fun v39 =>
  bnd (guardM v39 false 1 (bnd (lft (binA T BinOp.eql 3 v17 (AV.int IntKind.i64 0))) (fun v40 =>
  bnd (lft (loadA T 24 (AV.ip (acells a0)))) (fun v41 =>
  bnd (call 27 [v41]) (fun v42 =>
  bnd (lft (binA T BinOp.neq 4 v40 v42)) (fun v43 =>
  M.pure [v43])))))) (fun v44 =>
  bnd (lft (pickA v39 (AV.bool true) (nth v44 0))) (fun v45 =>
  bnd (guardM v45 false 1 (bnd (lft (binA T BinOp.eql 3 v22 (AV.int IntKind.i64 0))) (fun v46 =>
  bnd (lft (binA T BinOp.eql 3 v27 (AV.int IntKind.i64 0))) (fun v47 =>
  bnd (lft (binA T BinOp.neq 4 v46 v47)) (fun v48 =>
  M.pure [v48]))))) (fun v49 =>
  bnd (lft (pickA v45 (AV.bool true) (nth v49 0))) (fun v50 =>
  bnd (guardM v50 false 1 (bnd (lft (binA T BinOp.eql 3 v22 (AV.int IntKind.i64 1))) (fun v51 =>
  M.pure [v51]))) (fun v52 =>
  bnd (guardM (nth v52 0) true 1 (bnd (lft (binA T BinOp.neq 3 v27 (AV.int IntKind.i64 2))) (fun v53 =>
  M.pure [v53]))) (fun v54 =>
  bnd (guardM v50 false 1 (bnd (lft (pickA (nth v52 0) (nth v54 0) (AV.bool false))) (fun v55 =>
  M.pure [v55]))) (fun v56 =>
  bnd (lft (pickA v50 (AV.bool true) (nth v56 0))) (fun v57 =>
  condM v57 (M.pure (AV.bool false)) (bnd (guardM v0 true 1 (bnd (lft (binA T BinOp.eql 3 v22 (AV.int IntKind.i64 2))) (fun v58 =>
  M.pure [v58]))) (fun v59 =>
  bnd (guardM (nth v59 0) false 1 (bnd (lft (binA T BinOp.eql 3 v32 (AV.int IntKind.i64 2))) (fun v60 =>
  M.pure [v60]))) (fun v61 =>
  bnd (guardM v0 true 1 (bnd (lft (pickA (nth v59 0) (AV.bool true) (nth v61 0))) (fun v62 =>
  M.pure [v62]))) (fun v63 =>
  bnd (guardM (nth v63 0) false 1 (bnd (lft (binA T BinOp.neq 3 v37 (AV.int IntKind.i64 2))) (fun v64 =>
  M.pure [v64]))) (fun v65 =>
  bnd (guardM (nth v65 0) true 2 (bnd (lft (binA T BinOp.eql 3 v37 (AV.int IntKind.i64 0))) (fun v66 =>
  bnd (lft (binA T BinOp.eql 3 v22 (AV.int IntKind.i64 0))) (fun v67 =>
  M.pure [v66, v67])))) (fun v68 =>
  bnd (guardM (nth v68 1) true 1 (bnd (lft (binA T BinOp.eql 3 v32 (AV.int IntKind.i64 0))) (fun v69 =>
  M.pure [v69]))) (fun v70 =>
  bnd (guardM (nth v65 0) true 1 (bnd (lft (pickA (nth v68 1) (nth v70 0) (AV.bool false))) (fun v71 =>
  bnd (lft (binA T BinOp.eql 4 (nth v68 0) v71)) (fun v72 =>
  M.pure [v72])))) (fun v73 =>
  bnd (guardM (nth v63 0) false 1 (bnd (lft (pickA (nth v65 0) (nth v73 0) (AV.bool false))) (fun v74 =>
  M.pure [v74]))) (fun v75 =>
  bnd (guardM v0 true 1 (bnd (lft (pickA (nth v63 0) (AV.bool true) (nth v75 0))) (fun v76 =>
  M.pure [v76]))) (fun v77 =>
  bnd (lft (pickA v0 (nth v77 0) (AV.bool false))) (fun v78 =>
  M.pure v78))))))))))))))))))))))))))))))))))))))))))))))))))))))
theorem E4 (call : FuncId → List AV → M AV) (fx : Fix AV) (a0 a1 a2 : AV) : evBody (pg.cx call Tryz.f4.ntmps ann4) fx Tryz.f4 (own 4) [a0, a1, a2] = S4 call fx a0 a1 a2 := by kernel_rfl
theorem C4 (a0 a1 a2 : AV) : callW pg 4 [a0, a1, a2] = isoP (S4 (callW pg) fixW (cl noHs a0) (cl noHs a1) (cl noHs a2)) := (callW_iso hOther rfl rfl rfl _).trans (congrArg isoP (E4 _ _ (cl noHs a0) (cl noHs a1) (cl noHs a2)))
noncomputable def L27_0 (call : FuncId → List AV → M AV) (fx : Fix AV) (v13 : List AV → M AV) (v14 : List AV) : M AV :=
  bnd (lft (binA T BinOp.lss 3 (nth v14 3) (nth v14 2))) (fun v15 =>
  condM v15 (bnd (lft (indexAddrA T 22 (nth v14 1) (nth v14 3))) (fun v16 =>
  bnd (lft (loadA T 56 v16)) (fun v17 =>
  bnd (cellsM 5 v17) (fun v18 =>
  bnd (lft (loadA T 56 (AV.ip (acells v18)))) (fun v19 =>
  bnd (noPan (call 77 [v19])) (fun v20 =>
  bnd (lft (unA UnOp.not v20)) (fun v21 =>
  bnd (guardM v21 false 1 (bnd (lft (binA T BinOp.gtr 3 (nth v14 3) (AV.int IntKind.i64 0))) (fun v22 =>
  M.pure [v22]))) (fun v23 =>
  bnd (guardM (nth v23 0) true 1 (bnd (lft (fieldAddrA T 24 (nth v14 0) 1)) (fun v24 =>
  bnd (lft (loadA T 22 v24)) (fun v25 =>
  bnd (lft (binA T BinOp.sub 3 (nth v14 3) (AV.int IntKind.i64 1))) (fun v26 =>
  bnd (lft (indexAddrA T 22 v25 v26)) (fun v27 =>
  bnd (lft (fieldAddrA T 56 v27 0)) (fun v28 =>
  bnd (lft (loadA T 9 v28)) (fun v29 =>
  bnd (lft (fieldAddrA T 56 (AV.ip (acells v18)) 0)) (fun v30 =>
  bnd (lft (loadA T 9 v30)) (fun v31 =>
  bnd (lft (binA T BinOp.geq 9 v29 v31)) (fun v32 =>
  M.pure [v32]))))))))))) (fun v33 =>
  bnd (guardM v21 false 1 (bnd (lft (pickA (nth v23 0) (nth v33 0) (AV.bool false))) (fun v34 =>
  M.pure [v34]))) (fun v35 =>
  bnd (lft (pickA v21 (AV.bool true) (nth v35 0))) (fun v36 =>
  condM v36 (M.pure (AV.bool false)) (bnd (lft (binA T BinOp.add 3 (nth v14 3) (AV.int IntKind.i64 1))) (fun v37 =>
  v13 [nth v14 0, nth v14 1, nth v14 2, v37]))))))))))))) (M.pure (AV.bool true)))
theorem XL27_0 {call : FuncId → List AV → M AV} : Cont1 (L27_0 call fixW ) fun _n => L27_0 call fixW  := by
  intro v13 v13s hself v14
  unfold L27_0
  exact (LimM.bnd (LimM.const _) fun _ => (condM_lim (LimM.bnd (LimM.const _) fun _ => (LimM.bnd (LimM.const _) fun _ => (LimM.bnd (LimM.const _) fun _ => (LimM.bnd (LimM.const _) fun _ => (LimM.bnd (LimM.const _) fun _ => (LimM.bnd (LimM.const _) fun _ => (LimM.bnd (LimM.const _) fun _ => (LimM.bnd (LimM.const _) fun _ => (LimM.bnd (LimM.const _) fun _ => (LimM.bnd (LimM.const _) fun _ => (condM_lim (LimM.const _) (LimM.bnd (LimM.const _) fun _ => (hself _))))))))))))) (LimM.const _)))
theorem FL27_0 (call : FuncId → List AV → M AV) (vs : List AV) : fixW (L27_0 call fixW ) vs = L27_0 call fixW  (fixW (L27_0 call fixW )) vs := fixW_eq (XL27_0 ) vs
noncomputable def S27 (call : FuncId → List AV → M AV) (fx : Fix AV) (a0 : AV) : M AV :=
  bnd (lft (fieldAddrA T 24 (AV.ip (acells a0)) 0)) (fun v0 =>
  bnd (lft (loadA T 9 v0)) (fun v1 =>
  bnd (call 76 [v1]) (fun v2 =>
  bnd (lft (unA UnOp.not v2)) (fun v3 =>
  bnd (guardM v3 false 1 (bnd (lft (fieldAddrA T 24 (AV.ip (acells a0)) 1)) (fun v4 =>
  bnd (lft (loadA T 22 v4)) (fun v5 =>
  bnd (lft (lenA T 22 v5)) (fun v6 =>
  bnd (lft (binA T BinOp.gtr 3 v6 (AV.int IntKind.i64 30))) (fun v7 =>
  M.pure [v7])))))) (fun v8 =>
  bnd (lft (pickA v3 (AV.bool true) (nth v8 0))) (fun v9 =>
  condM v9 (M.pure (AV.bool false)) (bnd (lft (fieldAddrA T 24 (AV.ip (acells a0)) 1)) (fun v10 =>
  bnd (lft (loadA T 22 v10)) (fun v11 =>
  bnd (lft (lenA T 22 v11)) (fun v12 =>
  fx (L27_0 call fx) [AV.ip (acells a0), v11, v12, AV.int IntKind.i64 0]))))))))))
theorem E27 (call : FuncId → List AV → M AV) (fx : Fix AV) (a0 : AV) : evBody (pg.cx call Tryz.f27.ntmps ann27) fx Tryz.f27 (own 27) [a0] = S27 call fx a0 := by kernel_rfl
theorem C27 (a0 : AV) : callW pg 27 [a0] = isoP (S27 (callW pg) fixW (cl noHs a0)) := (callW_iso hOther rfl rfl rfl _).trans (congrArg isoP (E27 _ _ (cl noHs a0)))
noncomputable def S56 (call : FuncId → List AV → M AV) (fx : Fix AV) (a0 a1 : AV) : M AV :=
  bnd (lft (loadA T 27 (AV.ip (acells a0)))) (fun v0 =>
  bnd (call 73 [v0]) (fun v1 =>
  bnd (guardM v1 true 1 (bnd (lft (loadA T 27 (AV.ip (acells a1)))) (fun v2 =>
  bnd (call 73 [v2]) (fun v3 =>
  M.pure [v3])))) (fun v4 =>
  bnd (lft (pickA v1 (nth v4 0) (AV.bool false))) (fun v5 =>
  bnd (guardM v5 true 1 (bnd (lft (loadA T 27 (AV.ip (acells a0)))) (fun v6 =>
  bnd (lft (loadA T 27 (AV.ip (acells a1)))) (fun v7 =>
  bnd (call 125 [v6, v7]) (fun v8 =>
  M.pure [v8]))))) (fun v9 =>
  bnd (lft (pickA v5 (nth v9 0) (AV.bool false))) (fun v10 =>
  M.pure v10))))))
theorem E56 (call : FuncId → List AV → M AV) (fx : Fix AV) (a0 a1 : AV) : evBody (pg.cx call Tryz.f56.ntmps ann56) fx Tryz.f56 (own 56) [a0, a1] = S56 call fx a0 a1 := by kernel_rfl
theorem C56 (a0 a1 : AV) : callW pg 56 [a0, a1] = isoP (S56 (callW pg) fixW (cl noHs a0) (cl noHs a1)) := (callW_iso hOther rfl rfl rfl _).trans (congrArg isoP (E56 _ _ (cl noHs a0) (cl noHs a1)))
noncomputable def L61_0 (call : FuncId → List AV → M AV) (fx : Fix AV) (v0 : List AV → M AV) (v1 : List AV) : M AV :=
  bnd (lft (lenA T 54 (nth v1 0))) (fun v2 =>
  bnd (lft (binA T BinOp.lss 3 (nth v1 1) v2)) (fun v3 =>
  condM v3 (bnd (lft (indexAddrA T 54 (nth v1 0) (nth v1 1))) (fun v4 =>
  bnd (lft (loadA T 27 v4)) (fun v5 =>
  bnd (call 16 [v5]) (fun v6 =>
  bnd (lft (unA UnOp.not v6)) (fun v7 =>
  condM v7 (M.pure (AV.bool false)) (bnd (lft (binA T BinOp.add 3 (nth v1 1) (AV.int IntKind.i64 1))) (fun v8 =>
  v0 [nth v1 0, v8]))))))) (M.pure (AV.bool true))))
theorem XL61_0 {call : FuncId → List AV → M AV} : Cont1 (L61_0 call fixW ) fun _n => L61_0 call fixW  := by
  intro v0 v0s hself v1
  unfold L61_0
  exact (LimM.bnd (LimM.const _) fun _ => (LimM.bnd (LimM.const _) fun _ => (condM_lim (LimM.bnd (LimM.const _) fun _ => (LimM.bnd (LimM.const _) fun _ => (LimM.bnd (LimM.const _) fun _ => (LimM.bnd (LimM.const _) fun _ => (condM_lim (LimM.const _) (LimM.bnd (LimM.const _) fun _ => (hself _))))))) (LimM.const _))))
theorem FL61_0 (call : FuncId → List AV → M AV) (vs : List AV) : fixW (L61_0 call fixW ) vs = L61_0 call fixW  (fixW (L61_0 call fixW )) vs := fixW_eq (XL61_0 ) vs
noncomputable def S61 (call : FuncId → List AV → M AV) (fx : Fix AV) (a0 : AV) : M AV :=
  fx (L61_0 call fx) [a0, AV.int IntKind.i64 0]
theorem E61 (call : FuncId → List AV → M AV) (fx : Fix AV) (a0 : AV) : evBody (pg.cx call Tryz.f61.ntmps ann61) fx Tryz.f61 (own 61) [a0] = S61 call fx a0 := by kernel_rfl
theorem C61 (a0 : AV) : callW pg 61 [a0] = isoP (S61 (callW pg) fixW (cl noHs a0)) := (callW_iso hOther rfl rfl rfl _).trans (congrArg isoP (E61 _ _ (cl noHs a0)))
noncomputable def S64 (call : FuncId → List AV → M AV) (fx : Fix AV) (a0 a1 : AV) : M AV :=
  bnd (lft (fieldAddrA T 24 (AV.ip (acells a0)) 0)) (fun v0 =>
  bnd (lft (loadA T 9 v0)) (fun v1 =>
  bnd (lft (fieldAddrA T 24 (AV.ip (acells a1)) 0)) (fun v2 =>
  bnd (lft (loadA T 9 v2)) (fun v3 =>
  bnd (lft (binA T BinOp.eql 9 v1 v3)) (fun v4 =>
  bnd (guardM v4 true 1 (bnd (lft (loadA T 24 (AV.ip (acells a0)))) (fun v5 =>
  bnd (call 27 [v5]) (fun v6 =>
  M.pure [v6])))) (fun v7 =>
  bnd (lft (pickA v4 (nth v7 0) (AV.bool false))) (fun v8 =>
  bnd (guardM v8 true 1 (bnd (lft (loadA T 24 (AV.ip (acells a1)))) (fun v9 =>
  bnd (call 27 [v9]) (fun v10 =>
  M.pure [v10])))) (fun v11 =>
  bnd (lft (pickA v8 (nth v11 0) (AV.bool false))) (fun v12 =>
  M.pure v12)))))))))
theorem E64 (call : FuncId → List AV → M AV) (fx : Fix AV) (a0 a1 : AV) : evBody (pg.cx call Tryz.f64.ntmps ann64) fx Tryz.f64 (own 64) [a0, a1] = S64 call fx a0 a1 := by kernel_rfl
theorem C64 (a0 a1 : AV) : callW pg 64 [a0, a1] = isoP (S64 (callW pg) fixW (cl noHs a0) (cl noHs a1)) := (callW_iso hOther rfl rfl rfl _).trans (congrArg isoP (E64 _ _ (cl noHs a0) (cl noHs a1)))
noncomputable def S76 (call : FuncId → List AV → M AV) (fx : Fix AV) (a0 : AV) : M AV :=
  bnd (call 146 [a0]) (fun v0 =>
  bnd (guardM v0 true 1 (bnd (lft (binA T BinOp.add 9 (AV.str [32]) a0)) (fun v1 =>
  bnd (lft (binA T BinOp.add 9 v1 (AV.str [32]))) (fun v2 =>
  bnd (call 147 [AV.str [32, 97, 110, 100, 32, 98, 97, 99, 107, 32, 98, 111, 111, 108, 32, 99, 108, 111, 99, 107, 32, 101, 108, 115, 101, 32, 102, 97, 108, 115, 101, 32, 102, 105, 108, 101, 115, 32, 102, 110, 32, 102, 111, 114, 119, 97, 114, 100, 32, 103, 101, 116, 32, 105, 102, 32, 105, 110, 32, 105, 110, 116, 32, 108, 101, 116, 32, 109, 111, 100, 117, 108, 101, 32, 109, 111, 118, 101, 32, 110, 101, 116, 32, 110, 111, 116, 32, 111, 114, 32, 112, 117, 98, 32, 115, 101, 99, 114, 101, 116, 115, 32, 115, 101, 116, 32, 116, 104, 101, 110, 32, 116, 114, 117, 101, 32, 117, 115, 101, 32, 118, 97, 114, 32], v2]) (fun v3 =>
  bnd (lft (unA UnOp.not v3)) (fun v4 =>
  M.pure [v4])))))) (fun v5 =>
  bnd (lft (pickA v0 (nth v5 0) (AV.bool false))) (fun v6 =>
  M.pure v6)))
theorem E76 (call : FuncId → List AV → M AV) (fx : Fix AV) (a0 : AV) : evBody (pg.cx call Tryz.f76.ntmps ann76) fx Tryz.f76 (own 76) [a0] = S76 call fx a0 := by kernel_rfl
theorem C76 (a0 : AV) : callW pg 76 [a0] = isoP (S76 (callW pg) fixW (cl noHs a0)) := (callW_iso hOther rfl rfl rfl _).trans (congrArg isoP (E76 _ _ (cl noHs a0)))
noncomputable def L104_0 (call : FuncId → List AV → M AV) (fx : Fix AV) (v4 : List AV → M AV) (v5 : List AV) : M AV :=
  bnd (lft (binA T BinOp.lss 3 (nth v5 2) (nth v5 1))) (fun v6 =>
  condM v6 (bnd (lft (indexAddrA T 25 (nth v5 0) (nth v5 2))) (fun v7 =>
  bnd (loadH T 76 v7) (fun v8 =>
  bnd (cellsM 3 v8) (fun v9 =>
  bnd (lft (fieldAddrA T 76 (AV.ip (acells v9)) 1)) (fun v10 =>
  bnd (lft (loadA T 27 v10)) (fun v11 =>
  bnd (noPan (call 104 [v11])) (fun v12 =>
  bnd (lft (indexAddrA T 25 (nth v5 4) (nth v5 2))) (fun v13 =>
  bnd (lft (fieldAddrA T 76 v13 1)) (fun v14 =>
  bnd (storeH T 27 v14 v12) (fun v15 =>
  bnd (lft (binA T BinOp.add 3 (nth v5 2) (AV.int IntKind.i64 1))) (fun v16 =>
  v4 [nth v5 0, nth v5 1, v16, nth v5 3, nth v5 4, nth v5 5, nth v5 6]))))))))))) (bnd (cellsNil 2 [] (AV.agg [nth v5 3, nth v5 4])) (fun v17 =>
  M.pure (AV.agg [nth (acells v17) 0, nth (acells v17) 1]))))
theorem XL104_0 {call : FuncId → List AV → M AV} : Cont1 (L104_0 call fixW ) fun _n => L104_0 call fixW  := by
  intro v4 v4s hself v5
  unfold L104_0
  exact (LimM.bnd (LimM.const _) fun _ => (condM_lim (LimM.bnd (LimM.const _) fun _ => (LimM.bnd (LimM.const _) fun _ => (LimM.bnd (LimM.const _) fun _ => (LimM.bnd (LimM.const _) fun _ => (LimM.bnd (LimM.const _) fun _ => (LimM.bnd (LimM.const _) fun _ => (LimM.bnd (LimM.const _) fun _ => (LimM.bnd (LimM.const _) fun _ => (LimM.bnd (LimM.const _) fun _ => (LimM.bnd (LimM.const _) fun _ => (hself _))))))))))) (LimM.const _)))
theorem FL104_0 (call : FuncId → List AV → M AV) (vs : List AV) : fixW (L104_0 call fixW ) vs = L104_0 call fixW  (fixW (L104_0 call fixW )) vs := fixW_eq (XL104_0 ) vs
noncomputable def S104 (call : FuncId → List AV → M AV) (fx : Fix AV) (a0 : AV) : M AV :=
  bnd (cellsM 2 a0) (fun v0 =>
  bnd (call 163 [nth (acells v0) 1]) (fun v1 =>
  bnd (cell1M v1) (fun v2 =>
  bnd (lft (lenA T 25 v1)) (fun v3 =>
  fx (L104_0 call fx) [v1, v3, AV.int IntKind.i64 0, nth (acells v0) 0, v1, AV.int IntKind.i64 0, AV.sl []]))))
theorem E104 (call : FuncId → List AV → M AV) (fx : Fix AV) (a0 : AV) : evBody (pg.cx call Tryz.f104.ntmps ann104) fx Tryz.f104 (own 104) [a0] = S104 call fx a0 := by kernel_rfl
theorem C104 (a0 : AV) : callW pg 104 [a0] = isoP (S104 (callW pg) fixW (cl noHs a0)) := (callW_iso hOther rfl rfl rfl _).trans (congrArg isoP (E104 _ _ (cl noHs a0)))
noncomputable def L116_0 (call : FuncId → List AV → M AV) (fx : Fix AV) (v32 : List AV → M AV) (v33 : List AV) : M AV :=
  bnd (lft (binA T BinOp.lss 3 (nth v33 4) (nth v33 3))) (fun v34 =>
  condM v34 (bnd (lft (indexAddrA T 25 (nth v33 2) (nth v33 4))) (fun v35 =>
  bnd (lft (loadA T 76 v35)) (fun v36 =>
  bnd (cellsM 3 v36) (fun v37 =>
  bnd (lft (fieldAddrA T 76 (AV.ip (acells v37)) 0)) (fun v38 =>
  bnd (lft (loadA T 9 v38)) (fun v39 =>
  bnd (noPan (call 76 [v39])) (fun v40 =>
  bnd (lft (unA UnOp.not v40)) (fun v41 =>
  bnd (guardM v41 false 1 (bnd (lft (binA T BinOp.gtr 3 (nth v33 4) (AV.int IntKind.i64 0))) (fun v42 =>
  M.pure [v42]))) (fun v43 =>
  bnd (guardM (nth v43 0) true 1 (bnd (lft (fieldAddrA T 76 (AV.ip (acells v37)) 0)) (fun v44 =>
  bnd (lft (loadA T 9 v44)) (fun v45 =>
  bnd (lft (fieldAddrA T 27 (nth v33 1) 1)) (fun v46 =>
  bnd (lft (loadA T 25 v46)) (fun v47 =>
  bnd (lft (binA T BinOp.sub 3 (nth v33 4) (AV.int IntKind.i64 1))) (fun v48 =>
  bnd (lft (indexAddrA T 25 v47 v48)) (fun v49 =>
  bnd (lft (fieldAddrA T 76 v49 0)) (fun v50 =>
  bnd (lft (loadA T 9 v50)) (fun v51 =>
  bnd (lft (binA T BinOp.leq 9 v45 v51)) (fun v52 =>
  M.pure [v52]))))))))))) (fun v53 =>
  bnd (guardM v41 false 1 (bnd (lft (pickA (nth v43 0) (nth v53 0) (AV.bool false))) (fun v54 =>
  M.pure [v54]))) (fun v55 =>
  bnd (lft (pickA v41 (AV.bool true) (nth v55 0))) (fun v56 =>
  bnd (guardM v56 false 1 (bnd (lft (fieldAddrA T 76 (AV.ip (acells v37)) 1)) (fun v57 =>
  bnd (lft (loadA T 27 v57)) (fun v58 =>
  bnd (lft (binA T BinOp.sub 3 (nth v33 0) (AV.int IntKind.i64 1))) (fun v59 =>
  bnd (noPan (call 116 [v58, v59])) (fun v60 =>
  bnd (lft (unA UnOp.not v60)) (fun v61 =>
  M.pure [v61]))))))) (fun v62 =>
  bnd (lft (pickA v56 (AV.bool true) (nth v62 0))) (fun v63 =>
  condM v63 (M.pure (AV.bool false)) (bnd (lft (binA T BinOp.add 3 (nth v33 4) (AV.int IntKind.i64 1))) (fun v64 =>
  v32 [nth v33 0, nth v33 1, nth v33 2, nth v33 3, v64])))))))))))))))) (M.pure (AV.bool true)))
theorem XL116_0 {call : FuncId → List AV → M AV} : Cont1 (L116_0 call fixW ) fun _n => L116_0 call fixW  := by
  intro v32 v32s hself v33
  unfold L116_0
  exact (LimM.bnd (LimM.const _) fun _ => (condM_lim (LimM.bnd (LimM.const _) fun _ => (LimM.bnd (LimM.const _) fun _ => (LimM.bnd (LimM.const _) fun _ => (LimM.bnd (LimM.const _) fun _ => (LimM.bnd (LimM.const _) fun _ => (LimM.bnd (LimM.const _) fun _ => (LimM.bnd (LimM.const _) fun _ => (LimM.bnd (LimM.const _) fun _ => (LimM.bnd (LimM.const _) fun _ => (LimM.bnd (LimM.const _) fun _ => (LimM.bnd (LimM.const _) fun _ => (LimM.bnd (LimM.const _) fun _ => (LimM.bnd (LimM.const _) fun _ => (condM_lim (LimM.const _) (LimM.bnd (LimM.const _) fun _ => (hself _)))))))))))))))) (LimM.const _)))
theorem FL116_0 (call : FuncId → List AV → M AV) (vs : List AV) : fixW (L116_0 call fixW ) vs = L116_0 call fixW  (fixW (L116_0 call fixW )) vs := fixW_eq (XL116_0 ) vs
noncomputable def S116 (call : FuncId → List AV → M AV) (fx : Fix AV) (a0 a1 : AV) : M AV :=
  bnd (lft (binA T BinOp.eql 3 a1 (AV.int IntKind.i64 0))) (fun v0 =>
  bnd (guardM v0 false 1 (bnd (lft (fieldAddrA T 27 (AV.ip (acells a0)) 0)) (fun v1 =>
  bnd (lft (loadA T 3 v1)) (fun v2 =>
  bnd (lft (binA T BinOp.lss 3 v2 (AV.int IntKind.i64 0))) (fun v3 =>
  M.pure [v3]))))) (fun v4 =>
  bnd (lft (pickA v0 (AV.bool true) (nth v4 0))) (fun v5 =>
  bnd (guardM v5 false 1 (bnd (lft (fieldAddrA T 27 (AV.ip (acells a0)) 0)) (fun v6 =>
  bnd (lft (loadA T 3 v6)) (fun v7 =>
  bnd (lft (binA T BinOp.geq 3 v7 (AV.int IntKind.i64 3))) (fun v8 =>
  M.pure [v8]))))) (fun v9 =>
  bnd (lft (pickA v5 (AV.bool true) (nth v9 0))) (fun v10 =>
  bnd (guardM v10 false 1 (bnd (lft (fieldAddrA T 27 (AV.ip (acells a0)) 1)) (fun v11 =>
  bnd (lft (loadA T 25 v11)) (fun v12 =>
  bnd (lft (lenA T 25 v12)) (fun v13 =>
  bnd (lft (binA T BinOp.gtr 3 v13 (AV.int IntKind.i64 8))) (fun v14 =>
  M.pure [v14])))))) (fun v15 =>
  bnd (lft (pickA v10 (AV.bool true) (nth v15 0))) (fun v16 =>
  bnd (guardM v16 false 1 (bnd (lft (fieldAddrA T 27 (AV.ip (acells a0)) 0)) (fun v17 =>
  bnd (lft (loadA T 3 v17)) (fun v18 =>
  bnd (lft (binA T BinOp.neq 3 v18 (AV.int IntKind.i64 2))) (fun v19 =>
  M.pure [v19]))))) (fun v20 =>
  bnd (guardM (nth v20 0) true 1 (bnd (lft (fieldAddrA T 27 (AV.ip (acells a0)) 1)) (fun v21 =>
  bnd (lft (loadA T 25 v21)) (fun v22 =>
  bnd (lft (lenA T 25 v22)) (fun v23 =>
  bnd (lft (binA T BinOp.gtr 3 v23 (AV.int IntKind.i64 0))) (fun v24 =>
  M.pure [v24])))))) (fun v25 =>
  bnd (guardM v16 false 1 (bnd (lft (pickA (nth v20 0) (nth v25 0) (AV.bool false))) (fun v26 =>
  M.pure [v26]))) (fun v27 =>
  bnd (lft (pickA v16 (AV.bool true) (nth v27 0))) (fun v28 =>
  condM v28 (M.pure (AV.bool false)) (bnd (lft (fieldAddrA T 27 (AV.ip (acells a0)) 1)) (fun v29 =>
  bnd (lft (loadA T 25 v29)) (fun v30 =>
  bnd (lft (lenA T 25 v30)) (fun v31 =>
  fx (L116_0 call fx) [a1, AV.ip (acells a0), v30, v31, AV.int IntKind.i64 0])))))))))))))))
theorem E116 (call : FuncId → List AV → M AV) (fx : Fix AV) (a0 a1 : AV) : evBody (pg.cx call Tryz.f116.ntmps ann116) fx Tryz.f116 (own 116) [a0, a1] = S116 call fx a0 a1 := by kernel_rfl
theorem C116 (a0 a1 : AV) : callW pg 116 [a0, a1] = isoP (S116 (callW pg) fixW (cl noHs a0) (cl noHs a1)) := (callW_iso hOther rfl rfl rfl _).trans (congrArg isoP (E116 _ _ (cl noHs a0) (cl noHs a1)))
noncomputable def S125 (call : FuncId → List AV → M AV) (fx : Fix AV) (a0 a1 : AV) : M AV :=
  bnd (lft (fieldAddrA T 27 (AV.ip (acells a0)) 0)) (fun v0 =>
  bnd (lft (loadA T 3 v0)) (fun v1 =>
  bnd (lft (fieldAddrA T 27 (AV.ip (acells a1)) 0)) (fun v2 =>
  bnd (lft (loadA T 3 v2)) (fun v3 =>
  bnd (lft (binA T BinOp.eql 3 v1 v3)) (fun v4 =>
  bnd (guardM v4 true 1 (bnd (lft (fieldAddrA T 27 (AV.ip (acells a1)) 1)) (fun v5 =>
  bnd (lft (loadA T 25 v5)) (fun v6 =>
  bnd (call 131 [v6, AV.fn (Fn.func 186) [] [AV.ip (acells a0)]]) (fun v7 =>
  bnd (lft (unA UnOp.not v7)) (fun v8 =>
  M.pure [v8])))))) (fun v9 =>
  bnd (lft (pickA v4 (nth v9 0) (AV.bool false))) (fun v10 =>
  M.pure v10)))))))
theorem E125 (call : FuncId → List AV → M AV) (fx : Fix AV) (a0 a1 : AV) : evBody (pg.cx call Tryz.f125.ntmps ann125) fx Tryz.f125 (own 125) [a0, a1] = S125 call fx a0 a1 := by kernel_rfl
theorem C125 (a0 a1 : AV) : callW pg 125 [a0, a1] = isoP (S125 (callW pg) fixW (cl noHs a0) (cl noHs a1)) := (callW_iso hOther rfl rfl rfl _).trans (congrArg isoP (E125 _ _ (cl noHs a0) (cl noHs a1)))
noncomputable def S131 (call : FuncId → List AV → M AV) (fx : Fix AV) (a0 a1 : AV) : M AV :=
  bnd (call 189 [a0, a1]) (fun v0 =>
  bnd (lft (binA T BinOp.geq 3 v0 (AV.int IntKind.i64 0))) (fun v1 =>
  M.pure v1))
theorem E131 (call : FuncId → List AV → M AV) (fx : Fix AV) (a0 a1 : AV) : evBody (pg.cx call Tryz.f131.ntmps ann131) fx Tryz.f131 (own 131) [a0, a1] = S131 call fx a0 a1 := by kernel_rfl
theorem C131 (a0 a1 : AV) : callW pg 131 [a0, a1] = isoP (S131 (callW pg) fixW (cl noHs a0) (cl noHs a1)) := (callW_iso hOther rfl rfl rfl _).trans (congrArg isoP (E131 _ _ (cl noHs a0) (cl noHs a1)))
noncomputable def S186 (call : FuncId → List AV → M AV) (fx : Fix AV) (a0 a1 : AV) : M AV :=
  bnd (lft (fieldAddrA T 27 a1 1)) (fun v0 =>
  bnd (lft (loadA T 25 v0)) (fun v1 =>
  bnd (lft (fieldAddrA T 76 (AV.ip (acells a0)) 0)) (fun v2 =>
  bnd (lft (loadA T 9 v2)) (fun v3 =>
  bnd (call 181 [v1, v3]) (fun v4 =>
  bnd (lft (extractA v4 0)) (fun v5 =>
  bnd (lft (extractA v4 1)) (fun v6 =>
  bnd (cellsM 2 v5) (fun v7 =>
  bnd (lft (unA UnOp.not v6)) (fun v8 =>
  bnd (guardM v8 false 1 (bnd (lft (loadA T 27 (AV.ip (acells v7)))) (fun v9 =>
  bnd (lft (fieldAddrA T 76 (AV.ip (acells a0)) 1)) (fun v10 =>
  bnd (lft (loadA T 27 v10)) (fun v11 =>
  bnd (call 125 [v9, v11]) (fun v12 =>
  bnd (lft (unA UnOp.not v12)) (fun v13 =>
  M.pure [v13]))))))) (fun v14 =>
  bnd (lft (pickA v8 (AV.bool true) (nth v14 0))) (fun v15 =>
  M.pure v15)))))))))))
theorem E186 (call : FuncId → List AV → M AV) (fx : Fix AV) (a0 a1 : AV) : evBody (pg.cx call Tryz.f186.ntmps ann186) fx Tryz.f186 (own 186) [a0, a1] = S186 call fx a0 a1 := by kernel_rfl
theorem C186 (a0 a1 : AV) : callW pg 186 [a0, a1] = isoP (S186 (callW pg) fixW (cl noHs a0) (cl noHs a1)) := (callW_iso hOther rfl rfl rfl _).trans (congrArg isoP (E186 _ _ (cl noHs a0) (cl noHs a1)))
noncomputable def L189_0 (call : FuncId → List AV → M AV) (fx : Fix AV) (v1 : List AV → M AV) (v2 : List AV) : M AV :=
  bnd (lft (binA T BinOp.lss 3 (nth v2 3) (nth v2 2))) (fun v3 =>
  condM v3 (bnd (lft (indexAddrA T 25 (nth v2 0) (nth v2 3))) (fun v4 =>
  bnd (lft (loadA T 76 v4)) (fun v5 =>
  bnd (callV call (nth v2 1) [v5]) (fun v6 =>
  condM v6 (M.pure (nth v2 3)) (bnd (lft (binA T BinOp.add 3 (nth v2 3) (AV.int IntKind.i64 1))) (fun v7 =>
  v1 [nth v2 0, nth v2 1, nth v2 2, v7])))))) (M.pure (AV.int IntKind.i64 (-1))))
theorem XL189_0 {call : FuncId → List AV → M AV} : Cont1 (L189_0 call fixW ) fun _n => L189_0 call fixW  := by
  intro v1 v1s hself v2
  unfold L189_0
  exact (LimM.bnd (LimM.const _) fun _ => (condM_lim (LimM.bnd (LimM.const _) fun _ => (LimM.bnd (LimM.const _) fun _ => (LimM.bnd (LimM.const _) fun _ => (condM_lim (LimM.const _) (LimM.bnd (LimM.const _) fun _ => (hself _)))))) (LimM.const _)))
theorem FL189_0 (call : FuncId → List AV → M AV) (vs : List AV) : fixW (L189_0 call fixW ) vs = L189_0 call fixW  (fixW (L189_0 call fixW )) vs := fixW_eq (XL189_0 ) vs
noncomputable def S189 (call : FuncId → List AV → M AV) (fx : Fix AV) (a0 a1 : AV) : M AV :=
  bnd (lft (lenA T 25 a0)) (fun v0 =>
  fx (L189_0 call fx) [a0, a1, v0, AV.int IntKind.i64 0])
theorem E189 (call : FuncId → List AV → M AV) (fx : Fix AV) (a0 a1 : AV) : evBody (pg.cx call Tryz.f189.ntmps ann189) fx Tryz.f189 (own 189) [a0, a1] = S189 call fx a0 a1 := by kernel_rfl
theorem C189 (a0 a1 : AV) : callW pg 189 [a0, a1] = isoP (S189 (callW pg) fixW (cl noHs a0) (cl noHs a1)) := (callW_iso hOther rfl rfl rfl _).trans (congrArg isoP (E189 _ _ (cl noHs a0) (cl noHs a1)))
noncomputable def S202 (call : FuncId → List AV → M AV) (fx : Fix AV) (a0 : AV) : M AV :=
  bnd (lft (binA T BinOp.geq 5 a0 (AV.int IntKind.u8 48))) (fun v0 =>
  bnd (guardM v0 true 1 (bnd (lft (binA T BinOp.leq 5 a0 (AV.int IntKind.u8 57))) (fun v1 =>
  M.pure [v1]))) (fun v2 =>
  bnd (lft (pickA v0 (nth v2 0) (AV.bool false))) (fun v3 =>
  M.pure v3)))
theorem E202 (call : FuncId → List AV → M AV) (fx : Fix AV) (a0 : AV) : evBody (pg.cx call Tryz.f202.ntmps ann202) fx Tryz.f202 (own 202) [a0] = S202 call fx a0 := by kernel_rfl
theorem C202 (a0 : AV) : callW pg 202 [a0] = isoP (S202 (callW pg) fixW (cl noHs a0)) := (callW_iso hOther rfl rfl rfl _).trans (congrArg isoP (E202 _ _ (cl noHs a0)))
end Go.Proofs.YteemeakjlfnapaaGreatDoor
