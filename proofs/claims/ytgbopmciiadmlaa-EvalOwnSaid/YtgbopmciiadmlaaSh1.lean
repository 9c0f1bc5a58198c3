/- Shallow programs of the functions, part 1: written by a program. No condition. -/
import Derived.Test.YtgbopmciiadmlaaAnn
namespace Go.Proofs.Ytgbopmciiadmlaa
open Go Go.Av
set_option maxRecDepth 100000
noncomputable def S5 (call : FuncId → List AV → M AV) (fx : Fix AV) (a0 a1 a2 a3 a4 a5 a6 : AV) : M AV :=
  bnd (call 7 []) (fun v0 =>
  bnd (call 8 [a0, a3, a4, a5]) (fun v1 =>
  bnd (lft (unA UnOp.not v1)) (fun v2 =>
  bnd (guardM v2 false 1 (bnd (lft (binA T BinOp.lss 3 a5 (AV.int IntKind.i64 0))) (fun v3 =>
  M.pure [v3]))) (fun v4 =>
  bnd (lft (pickA v2 (AV.bool true) (nth v4 0))) (fun v5 =>
  bnd (guardM v5 false 1 (bnd (lft (convA T 5 3 a6)) (fun v6 =>
  bnd (lft (binA T BinOp.add 3 a5 v6)) (fun v7 =>
  bnd (lft (binA T BinOp.gtr 3 v7 (AV.int IntKind.i64 2000))) (fun v8 =>
  M.pure [v8]))))) (fun v9 =>
  bnd (lft (pickA v5 (AV.bool true) (nth v9 0))) (fun v10 =>
  condM v10 (M.pure v0) (bnd (call 14 [a0, a1, a2, a3, a4, a5]) (fun v11 =>
  bnd (cellsM 8 v11) (fun v12 =>
  bnd (lft (convA T 5 3 a6)) (fun v13 =>
  bnd (lft (binA T BinOp.add 3 a5 v13)) (fun v14 =>
  bnd (call 14 [a0, a1, a2, a3, a4, v14]) (fun v15 =>
  bnd (cellsM 8 v15) (fun v16 =>
  bnd (lft (fieldAddrA T 43 (AV.ip (acells v12)) 0)) (fun v17 =>
  bnd (lft (loadA T 33 v17)) (fun v18 =>
  bnd (lft (binA T BinOp.neq 33 v18 (AV.int IntKind.i64 16))) (fun v19 =>
  condM v19 (bnd (guardM v0 true 1 (bnd (lft (loadA T 43 (AV.ip (acells v12)))) (fun v20 =>
  bnd (lft (loadA T 43 (AV.ip (acells v16)))) (fun v21 =>
  bnd (call 13 [v20, v21]) (fun v22 =>
  M.pure [v22]))))) (fun v23 =>
  bnd (lft (pickA v0 (nth v23 0) (AV.bool false))) (fun v24 =>
  M.pure v24))) (bnd (guardM v0 true 1 (bnd (lft (loadA T 43 (AV.ip (acells v16)))) (fun v25 =>
  bnd (lft (loadA T 43 (AV.ip (acells v12)))) (fun v26 =>
  bnd (call 25 [v25, v26]) (fun v27 =>
  M.pure [v27]))))) (fun v28 =>
  bnd (lft (pickA v0 (nth v28 0) (AV.bool false))) (fun v29 =>
  M.pure v29))))))))))))))))))))
theorem E5 (call : FuncId → List AV → M AV) (fx : Fix AV) (a0 a1 a2 a3 a4 a5 a6 : AV) : evBody (pg.cx call Try.f5.ntmps ann5) fx Try.f5 (own 5) [a0, a1, a2, a3, a4, a5, a6] = S5 call fx a0 a1 a2 a3 a4 a5 a6 := by kernel_rfl
theorem C5 (a0 a1 a2 a3 a4 a5 a6 : AV) : callW pg 5 [a0, a1, a2, a3, a4, a5, a6] = isoP (S5 (callW pg) fixW (cl noHs a0) (cl noHs a1) (cl noHs a2) (cl noHs a3) (cl noHs a4) (cl noHs a5) (cl noHs a6)) := (callW_iso hOther rfl rfl rfl _).trans (congrArg isoP (E5 _ _ (cl noHs a0) (cl noHs a1) (cl noHs a2) (cl noHs a3) (cl noHs a4) (cl noHs a5) (cl noHs a6)))
noncomputable def L9_0 (call : FuncId → List AV → M AV) (fx : Fix AV) (v2 : List AV → M AV) (v3 : List AV) : M AV :=
  bnd (lft (fieldAddrA T 28 (nth v3 2) 5)) (fun v4 =>
  bnd (lft (loadA T 26 v4)) (fun v5 =>
  bnd (lft (lenA T 26 v5)) (fun v6 =>
  bnd (lft (binA T BinOp.lss 3 (nth v3 4) v6)) (fun v7 =>
  bnd (guardM v7 true 1 (bnd (lft (binA T BinOp.leq 3 (nth v3 3) (nth v3 0))) (fun v8 =>
  M.pure [v8]))) (fun v9 =>
  bnd (lft (pickA v7 (nth v9 0) (AV.bool false))) (fun v10 =>
  condM v10 (bnd (lft (fieldAddrA T 28 (nth v3 2) 5)) (fun v11 =>
  bnd (lft (loadA T 26 v11)) (fun v12 =>
  bnd (lft (indexAddrA T 26 v12 (nth v3 4))) (fun v13 =>
  bnd (lft (loadA T 28 v13)) (fun v14 =>
  bnd (lft (binA T BinOp.sub 3 (nth v3 0) (nth v3 3))) (fun v15 =>
  bnd (lft (binA T BinOp.sub 3 (nth v3 1) (AV.int IntKind.i64 1))) (fun v16 =>
  bnd (call 9 [v14, v15, v16]) (fun v17 =>
  bnd (lft (binA T BinOp.add 3 (nth v3 3) v17)) (fun v18 =>
  bnd (lft (binA T BinOp.add 3 (nth v3 4) (AV.int IntKind.i64 1))) (fun v19 =>
  v2 [nth v3 0, nth v3 1, nth v3 2, v18, v19])))))))))) (M.pure (nth v3 3))))))))
theorem XL9_0 {call : FuncId → List AV → M AV} : Cont1 (L9_0 call fixW ) fun _n => L9_0 call fixW  := by
  intro v2 v2s hself v3
  unfold L9_0
  exact (LimM.bnd (LimM.const _) fun _ => (LimM.bnd (LimM.const _) fun _ => (LimM.bnd (LimM.const _) fun _ => (LimM.bnd (LimM.const _) fun _ => (LimM.bnd (LimM.const _) fun _ => (LimM.bnd (LimM.const _) fun _ => (condM_lim (LimM.bnd (LimM.const _) fun _ => (LimM.bnd (LimM.const _) fun _ => (LimM.bnd (LimM.const _) fun _ => (LimM.bnd (LimM.const _) fun _ => (LimM.bnd (LimM.const _) fun _ => (LimM.bnd (LimM.const _) fun _ => (LimM.bnd (LimM.const _) fun _ => (LimM.bnd (LimM.const _) fun _ => (LimM.bnd (LimM.const _) fun _ => (hself _)))))))))) (LimM.const _))))))))
theorem FL9_0 (call : FuncId → List AV → M AV) (vs : List AV) : fixW (L9_0 call fixW ) vs = L9_0 call fixW  (fixW (L9_0 call fixW )) vs := fixW_eq (XL9_0 ) vs
noncomputable def S9 (call : FuncId → List AV → M AV) (fx : Fix AV) (a0 a1 a2 : AV) : M AV :=
  bnd (lft (binA T BinOp.lss 3 a2 (AV.int IntKind.i64 1))) (fun v0 =>
  condM v0 (bnd (lft (binA T BinOp.add 3 a1 (AV.int IntKind.i64 1))) (fun v1 =>
  M.pure v1)) (fx (L9_0 call fx) [a1, a2, AV.ip (acells a0), AV.int IntKind.i64 1, AV.int IntKind.i64 0]))
theorem E9 (call : FuncId → List AV → M AV) (fx : Fix AV) (a0 a1 a2 : AV) : evBody (pg.cx call Try.f9.ntmps ann9) fx Try.f9 (own 9) [a0, a1, a2] = S9 call fx a0 a1 a2 := by kernel_rfl
theorem C9 (a0 a1 a2 : AV) : callW pg 9 [a0, a1, a2] = isoP (S9 (callW pg) fixW (cl noHs a0) (cl noHs a1) (cl noHs a2)) := (callW_iso hOther rfl rfl rfl _).trans (congrArg isoP (E9 _ _ (cl noHs a0) (cl noHs a1) (cl noHs a2)))
noncomputable def L17_0 (call : FuncId → List AV → M AV) (fx : Fix AV) (v42 : List AV → M AV) (v43 : List AV) : M AV :=
  bnd (lft (binA T BinOp.lss 3 (nth v43 6) (nth v43 5))) (fun v44 =>
  condM v44 (bnd (lft (indexAddrA T 32 (nth v43 4) (nth v43 6))) (fun v45 =>
  bnd (lft (loadA T 47 v45)) (fun v46 =>
  bnd (cellsM 2 v46) (fun v47 =>
  bnd (lft (loadA T 79 (nth v43 1))) (fun v48 =>
  bnd (lft (loadA T 79 (nth v43 1))) (fun v49 =>
  bnd (lft (nilChkA v49)) (fun v50 =>
  bnd (lft (fieldAddrA T 81 v50 4)) (fun v51 =>
  bnd (lft (fieldAddrA T 43 v51 4)) (fun v52 =>
  bnd (loadH T 32 v52) (fun v53 =>
  bnd (lft (fieldAddrA T 47 (AV.ip (acells v47)) 0)) (fun v54 =>
  bnd (lft (loadA T 9 v54)) (fun v55 =>
  bnd (lft (fieldAddrA T 47 (AV.ip (acells v47)) 1)) (fun v56 =>
  bnd (lft (loadA T 23 v56)) (fun v57 =>
  bnd (call 39 [v57]) (fun v58 =>
  bnd (lft (buildA T false 47 [(0, v55), (1, v58)])) (fun v59 =>
  bnd (lft (buildSliceA T 32 1 [(0, v59)])) (fun v60 =>
  bnd (appH T 32 false v53 v60) (fun v61 =>
  bnd (lft (nilChkA v48)) (fun v62 =>
  bnd (lft (fieldAddrA T 81 v62 4)) (fun v63 =>
  bnd (lft (fieldAddrA T 43 v63 4)) (fun v64 =>
  bnd (storeH T 32 v64 v61) (fun v65 =>
  bnd (lft (binA T BinOp.add 3 (nth v43 6) (AV.int IntKind.i64 1))) (fun v66 =>
  v42 [nth v43 0, nth v43 1, nth v43 2, nth v43 3, nth v43 4, nth v43 5, v66, nth v43 7, nth v43 8, nth v43 9, nth v43 10, nth v43 11, nth v43 12, nth v43 13, nth v43 14]))))))))))))))))))))))) (bnd (lft (loadA T 79 (nth v43 1))) (fun v67 =>
  bnd (lft (loadA T 79 (nth v43 1))) (fun v68 =>
  bnd (call 40 [AV.fn (Fn.func 41) [] [nth v43 1, nth v43 2, nth v43 3, nth v43 0]]) (fun v69 =>
  bnd (lft (extractA v69 0)) (fun v70 =>
  bnd (lft (extractA v69 1)) (fun v71 =>
  bnd (lft (nilChkA v67)) (fun v72 =>
  bnd (lft (fieldAddrA T 81 v72 4)) (fun v73 =>
  bnd (lft (fieldAddrA T 43 v73 1)) (fun v74 =>
  bnd (storeH T 39 v74 v70) (fun v75 =>
  bnd (lft (nilChkA v68)) (fun v76 =>
  bnd (lft (fieldAddrA T 81 v76 4)) (fun v77 =>
  bnd (lft (fieldAddrA T 43 v77 0)) (fun v78 =>
  bnd (storeH T 33 v78 v71) (fun v79 =>
  bnd (lft (loadA T 79 (nth v43 1))) (fun v80 =>
  bnd (lft (nilChkA v80)) (fun v81 =>
  bnd (lft (fieldAddrA T 81 v81 4)) (fun v82 =>
  bnd (loadH T 43 v82) (fun v83 =>
  bnd (cellsNil 8 [] v83) (fun v84 =>
  M.pure (AV.agg [nth (acells v84) 0, nth (acells v84) 1, nth (acells v84) 2, nth (acells v84) 3, nth (acells v84) 4, nth (acells v84) 5, nth (acells v84) 6, nth (acells v84) 7])))))))))))))))))))))
theorem XL17_0 {call : FuncId → List AV → M AV} : Cont1 (L17_0 call fixW ) fun _n => L17_0 call fixW  := by
  intro v42 v42s hself v43
  unfold L17_0
  exact (LimM.bnd (LimM.const _) fun _ => (condM_lim (LimM.bnd (LimM.const _) fun _ => (LimM.bnd (LimM.const _) fun _ => (LimM.bnd (LimM.const _) fun _ => (LimM.bnd (LimM.const _) fun _ => (LimM.bnd (LimM.const _) fun _ => (LimM.bnd (LimM.const _) fun _ => (LimM.bnd (LimM.const _) fun _ => (LimM.bnd (LimM.const _) fun _ => (LimM.bnd (LimM.const _) fun _ => (LimM.bnd (LimM.const _) fun _ => (LimM.bnd (LimM.const _) fun _ => (LimM.bnd (LimM.const _) fun _ => (LimM.bnd (LimM.const _) fun _ => (LimM.bnd (LimM.const _) fun _ => (LimM.bnd (LimM.const _) fun _ => (LimM.bnd (LimM.const _) fun _ => (LimM.bnd (LimM.const _) fun _ => (LimM.bnd (LimM.const _) fun _ => (LimM.bnd (LimM.const _) fun _ => (LimM.bnd (LimM.const _) fun _ => (LimM.bnd (LimM.const _) fun _ => (LimM.bnd (LimM.const _) fun _ => (hself _))))))))))))))))))))))) (LimM.const _)))
theorem FL17_0 (call : FuncId → List AV → M AV) (vs : List AV) : fixW (L17_0 call fixW ) vs = L17_0 call fixW  (fixW (L17_0 call fixW )) vs := fixW_eq (XL17_0 ) vs
noncomputable def S17 (call : FuncId → List AV → M AV) (fx : Fix AV) (a0 a1 a2 a3 a4 a5 a6 : AV) : M AV :=
  bnd (call 32 [a0]) (fun v0 =>
  bnd (lft (binA T BinOp.neq 33 v0 (AV.int IntKind.i64 0))) (fun v1 =>
  condM v1 (bnd (lft (buildA T false 43 [(0, v0)])) (fun v2 =>
  bnd (cellsNil 8 [] v2) (fun v3 =>
  M.pure (AV.agg [nth (acells v3) 0, nth (acells v3) 1, nth (acells v3) 2, nth (acells v3) 3, nth (acells v3) 4, nth (acells v3) 5, nth (acells v3) 6, nth (acells v3) 7])))) (bnd (lft (binA T BinOp.lss 3 a6 (AV.int IntKind.i64 0))) (fun v4 =>
  bnd (guardM v4 false 1 (bnd (lft (binA T BinOp.gtr 3 a6 (AV.int IntKind.i64 100000))) (fun v5 =>
  M.pure [v5]))) (fun v6 =>
  bnd (lft (pickA v4 (AV.bool true) (nth v6 0))) (fun v7 =>
  bnd (guardM v7 false 1 (bnd (call 34 [a0, a1]) (fun v8 =>
  bnd (lft (unA UnOp.not v8)) (fun v9 =>
  M.pure [v9])))) (fun v10 =>
  bnd (lft (pickA v7 (AV.bool true) (nth v10 0))) (fun v11 =>
  condM v11 (bnd (lft (buildA T false 43 [(0, AV.int IntKind.i64 1)])) (fun v12 =>
  bnd (cellsNil 8 [] v12) (fun v13 =>
  M.pure (AV.agg [nth (acells v13) 0, nth (acells v13) 1, nth (acells v13) 2, nth (acells v13) 3, nth (acells v13) 4, nth (acells v13) 5, nth (acells v13) 6, nth (acells v13) 7])))) (bnd (lft (buildA T true 81 [(0, a0), (1, a5), (2, a6)])) (fun v14 =>
  bnd (newH (acells v14)) (fun v15 =>
  bnd (cellsM 1 v15) (fun v16 =>
  bnd (lft (loadA T 79 (AV.ip (acells v16)))) (fun v17 =>
  bnd (call 35 [v17, a2]) (fun v18 =>
  bnd (cellsM 1 v18) (fun v19 =>
  bnd (lft (loadA T 79 (AV.ip (acells v16)))) (fun v20 =>
  bnd (lft (loadA T 3 (AV.ip (acells v19)))) (fun v21 =>
  bnd (call 36 [v20, v21, a3]) (fun v22 =>
  bnd (lft (extractA v22 0)) (fun v23 =>
  bnd (lft (extractA v22 1)) (fun v24 =>
  bnd (cellsM 12 v23) (fun v25 =>
  bnd (lft (unA UnOp.not v24)) (fun v26 =>
  condM v26 (bnd (lft (buildA T false 43 [(0, AV.int IntKind.i64 4)])) (fun v27 =>
  bnd (cellsNil 8 [] v27) (fun v28 =>
  M.pure (AV.agg [nth (acells v28) 0, nth (acells v28) 1, nth (acells v28) 2, nth (acells v28) 3, nth (acells v28) 4, nth (acells v28) 5, nth (acells v28) 6, nth (acells v28) 7])))) (bnd (lft (loadA T 23 (AV.ip (acells a4)))) (fun v29 =>
  bnd (lft (lenA T 23 v29)) (fun v30 =>
  bnd (lft (fieldAddrA T 67 (AV.ip (acells v25)) 2)) (fun v31 =>
  bnd (lft (loadA T 58 v31)) (fun v32 =>
  bnd (lft (lenA T 58 v32)) (fun v33 =>
  bnd (lft (binA T BinOp.neq 3 v30 v33)) (fun v34 =>
  bnd (guardM v34 false 1 (bnd (lft (loadA T 23 (AV.ip (acells a4)))) (fun v35 =>
  bnd (call 37 [v35, AV.fn (Fn.func 38) [] []]) (fun v36 =>
  M.pure [v36])))) (fun v37 =>
  bnd (lft (pickA v34 (AV.bool true) (nth v37 0))) (fun v38 =>
  condM v38 (bnd (lft (buildA T false 43 [(0, AV.int IntKind.i64 13)])) (fun v39 =>
  bnd (cellsNil 8 [] v39) (fun v40 =>
  M.pure (AV.agg [nth (acells v40) 0, nth (acells v40) 1, nth (acells v40) 2, nth (acells v40) 3, nth (acells v40) 4, nth (acells v40) 5, nth (acells v40) 6, nth (acells v40) 7])))) (bnd (lft (lenA T 32 a1)) (fun v41 =>
  fx (L17_0 call fx) [AV.ip (acells a4), AV.ip (acells v16), AV.ip (acells v19), AV.ip (acells v25), a1, v41, AV.int IntKind.i64 0, AV.int IntKind.i64 0, AV.int IntKind.i64 0, AV.int IntKind.i64 0, AV.sl [], AV.sl [], AV.sl [], AV.sl [], AV.sl []])))))))))))))))))))))))))))))))))
theorem E17 (call : FuncId → List AV → M AV) (fx : Fix AV) (a0 a1 a2 a3 a4 a5 a6 : AV) : evBody (pg.cx call Try.f17.ntmps ann17) fx Try.f17 (own 17) [a0, a1, a2, a3, a4, a5, a6] = S17 call fx a0 a1 a2 a3 a4 a5 a6 := by kernel_rfl
theorem C17 (a0 a1 a2 a3 a4 a5 a6 : AV) : callW pg 17 [a0, a1, a2, a3, a4, a5, a6] = isoP (S17 (callW pg) fixW (cl noHs a0) (cl noHs a1) (cl noHs a2) (cl noHs a3) (cl noHs a4) (cl noHs a5) (cl noHs a6)) := (callW_iso hOther rfl rfl rfl _).trans (congrArg isoP (E17 _ _ (cl noHs a0) (cl noHs a1) (cl noHs a2) (cl noHs a3) (cl noHs a4) (cl noHs a5) (cl noHs a6)))
noncomputable def S21 (call : FuncId → List AV → M AV) (fx : Fix AV) (a0 : AV) : M AV :=
  bnd (lft (loadA T 39 (AV.ip (acells a0)))) (fun v0 =>
  bnd (call 52 [v0, AV.int IntKind.i64 4]) (fun v1 =>
  M.pure v1))
theorem E21 (call : FuncId → List AV → M AV) (fx : Fix AV) (a0 : AV) : evBody (pg.cx call Try.f21.ntmps ann21) fx Try.f21 (own 21) [a0] = S21 call fx a0 := by kernel_rfl
theorem C21 (a0 : AV) : callW pg 21 [a0] = isoP (S21 (callW pg) fixW (cl noHs a0)) := (callW_iso hOther rfl rfl rfl _).trans (congrArg isoP (E21 _ _ (cl noHs a0)))
noncomputable def S23 (call : FuncId → List AV → M AV) (fx : Fix AV) (a0 a1 : AV) : M AV :=
  bnd (lft (loadA T 39 (AV.ip (acells a0)))) (fun v0 =>
  bnd (call 21 [v0]) (fun v1 =>
  bnd (guardM v1 true 1 (bnd (lft (loadA T 39 (AV.ip (acells a1)))) (fun v2 =>
  bnd (call 21 [v2]) (fun v3 =>
  M.pure [v3])))) (fun v4 =>
  bnd (lft (pickA v1 (nth v4 0) (AV.bool false))) (fun v5 =>
  bnd (guardM v5 true 1 (bnd (lft (loadA T 39 (AV.ip (acells a0)))) (fun v6 =>
  bnd (lft (loadA T 39 (AV.ip (acells a1)))) (fun v7 =>
  bnd (call 54 [v6, v7]) (fun v8 =>
  M.pure [v8]))))) (fun v9 =>
  bnd (lft (pickA v5 (nth v9 0) (AV.bool false))) (fun v10 =>
  M.pure v10))))))
theorem E23 (call : FuncId → List AV → M AV) (fx : Fix AV) (a0 a1 : AV) : evBody (pg.cx call Try.f23.ntmps ann23) fx Try.f23 (own 23) [a0, a1] = S23 call fx a0 a1 := by kernel_rfl
theorem C23 (a0 a1 : AV) : callW pg 23 [a0, a1] = isoP (S23 (callW pg) fixW (cl noHs a0) (cl noHs a1)) := (callW_iso hOther rfl rfl rfl _).trans (congrArg isoP (E23 _ _ (cl noHs a0) (cl noHs a1)))
noncomputable def L26_0 (call : FuncId → List AV → M AV) (fx : Fix AV) (v3 : List AV → M AV) (v4 : List AV) : M AV :=
  bnd (lft (lenA T 23 (nth v4 0))) (fun v5 =>
  bnd (lft (binA T BinOp.lss 3 (nth v4 2) v5)) (fun v6 =>
  condM v6 (bnd (lft (indexAddrA T 23 (nth v4 0) (nth v4 2))) (fun v7 =>
  bnd (lft (loadA T 39 v7)) (fun v8 =>
  bnd (lft (indexAddrA T 23 (nth v4 1) (nth v4 2))) (fun v9 =>
  bnd (lft (loadA T 39 v9)) (fun v10 =>
  bnd (noPan (call 24 [v8, v10])) (fun v11 =>
  bnd (lft (unA UnOp.not v11)) (fun v12 =>
  condM v12 (M.pure (AV.bool false)) (bnd (lft (binA T BinOp.add 3 (nth v4 2) (AV.int IntKind.i64 1))) (fun v13 =>
  v3 [nth v4 0, nth v4 1, v13]))))))))) (M.pure (AV.bool true))))
theorem XL26_0 {call : FuncId → List AV → M AV} : Cont1 (L26_0 call fixW ) fun _n => L26_0 call fixW  := by
  intro v3 v3s hself v4
  unfold L26_0
  exact (LimM.bnd (LimM.const _) fun _ => (LimM.bnd (LimM.const _) fun _ => (condM_lim (LimM.bnd (LimM.const _) fun _ => (LimM.bnd (LimM.const _) fun _ => (LimM.bnd (LimM.const _) fun _ => (LimM.bnd (LimM.const _) fun _ => (LimM.bnd (LimM.const _) fun _ => (LimM.bnd (LimM.const _) fun _ => (condM_lim (LimM.const _) (LimM.bnd (LimM.const _) fun _ => (hself _))))))))) (LimM.const _))))
theorem FL26_0 (call : FuncId → List AV → M AV) (vs : List AV) : fixW (L26_0 call fixW ) vs = L26_0 call fixW  (fixW (L26_0 call fixW )) vs := fixW_eq (XL26_0 ) vs
noncomputable def S26 (call : FuncId → List AV → M AV) (fx : Fix AV) (a0 a1 : AV) : M AV :=
  bnd (lft (lenA T 23 a0)) (fun v0 =>
  bnd (lft (lenA T 23 a1)) (fun v1 =>
  bnd (lft (binA T BinOp.neq 3 v0 v1)) (fun v2 =>
  condM v2 (M.pure (AV.bool false)) (fx (L26_0 call fx) [a0, a1, AV.int IntKind.i64 0]))))
theorem E26 (call : FuncId → List AV → M AV) (fx : Fix AV) (a0 a1 : AV) : evBody (pg.cx call Try.f26.ntmps ann26) fx Try.f26 (own 26) [a0, a1] = S26 call fx a0 a1 := by kernel_rfl
theorem C26 (a0 a1 : AV) : callW pg 26 [a0, a1] = isoP (S26 (callW pg) fixW (cl noHs a0) (cl noHs a1)) := (callW_iso hOther rfl rfl rfl _).trans (congrArg isoP (E26 _ _ (cl noHs a0) (cl noHs a1)))
noncomputable def S34 (call : FuncId → List AV → M AV) (fx : Fix AV) (a0 a1 : AV) : M AV :=
  bnd (call 60 [a0, a1, AV.fn (Fn.func 61) [] []]) (fun v0 =>
  M.pure v0)
theorem E34 (call : FuncId → List AV → M AV) (fx : Fix AV) (a0 a1 : AV) : evBody (pg.cx call Try.f34.ntmps ann34) fx Try.f34 (own 34) [a0, a1] = S34 call fx a0 a1 := by kernel_rfl
theorem C34 (a0 a1 : AV) : callW pg 34 [a0, a1] = isoP (S34 (callW pg) fixW (cl noHs a0) (cl noHs a1)) := (callW_iso hOther rfl rfl rfl _).trans (congrArg isoP (E34 _ _ (cl noHs a0) (cl noHs a1)))
noncomputable def S38 (call : FuncId → List AV → M AV) (fx : Fix AV) (a0 : AV) : M AV :=
  bnd (lft (loadA T 39 (AV.ip (acells a0)))) (fun v0 =>
  bnd (call 21 [v0]) (fun v1 =>
  bnd (lft (unA UnOp.not v1)) (fun v2 =>
  M.pure v2)))
theorem E38 (call : FuncId → List AV → M AV) (fx : Fix AV) (a0 : AV) : evBody (pg.cx call Try.f38.ntmps ann38) fx Try.f38 (own 38) [a0] = S38 call fx a0 := by kernel_rfl
theorem C38 (a0 : AV) : callW pg 38 [a0] = isoP (S38 (callW pg) fixW (cl noHs a0)) := (callW_iso hOther rfl rfl rfl _).trans (congrArg isoP (E38 _ _ (cl noHs a0)))
noncomputable def S52 (call : FuncId → List AV → M AV) (fx : Fix AV) (a0 a1 : AV) : M AV :=
  bnd (lft (loadA T 3 (AV.ip (acells a1)))) (fun v0 =>
  bnd (lft (binA T BinOp.eql 3 v0 (AV.int IntKind.i64 0))) (fun v1 =>
  condM v1 (M.pure (AV.bool false)) (bnd (lft (fieldAddrA T 39 (AV.ip (acells a0)) 0)) (fun v2 =>
  bnd (lft (loadA T 3 v2)) (fun v3 =>
  bnd (lft (binA T BinOp.eql 3 v3 (AV.int IntKind.i64 0))) (fun v4 =>
  bnd (guardM v4 false 1 (bnd (lft (fieldAddrA T 39 (AV.ip (acells a0)) 0)) (fun v5 =>
  bnd (lft (loadA T 3 v5)) (fun v6 =>
  bnd (lft (binA T BinOp.eql 3 v6 (AV.int IntKind.i64 1))) (fun v7 =>
  M.pure [v7]))))) (fun v8 =>
  bnd (lft (pickA v4 (AV.bool true) (nth v8 0))) (fun v9 =>
  condM v9 (bnd (lft (fieldAddrA T 39 (AV.ip (acells a0)) 2)) (fun v10 =>
  bnd (lft (loadA T 25 v10)) (fun v11 =>
  bnd (lft (lenA T 25 v11)) (fun v12 =>
  bnd (lft (binA T BinOp.eql 3 v12 (AV.int IntKind.i64 0))) (fun v13 =>
  bnd (guardM v13 true 1 (bnd (lft (fieldAddrA T 39 (AV.ip (acells a0)) 3)) (fun v14 =>
  bnd (lft (loadA T 23 v14)) (fun v15 =>
  bnd (lft (lenA T 23 v15)) (fun v16 =>
  bnd (lft (binA T BinOp.eql 3 v16 (AV.int IntKind.i64 0))) (fun v17 =>
  M.pure [v17])))))) (fun v18 =>
  bnd (lft (pickA v13 (nth v18 0) (AV.bool false))) (fun v19 =>
  bnd (guardM v19 true 1 (bnd (lft (fieldAddrA T 39 (AV.ip (acells a0)) 0)) (fun v20 =>
  bnd (lft (loadA T 3 v20)) (fun v21 =>
  bnd (lft (binA T BinOp.eql 3 v21 (AV.int IntKind.i64 0))) (fun v22 =>
  M.pure [v22]))))) (fun v23 =>
  bnd (guardM (nth v23 0) false 1 (bnd (lft (fieldAddrA T 39 (AV.ip (acells a0)) 1)) (fun v24 =>
  bnd (lft (loadA T 3 v24)) (fun v25 =>
  bnd (lft (binA T BinOp.eql 3 v25 (AV.int IntKind.i64 0))) (fun v26 =>
  M.pure [v26]))))) (fun v27 =>
  bnd (guardM v19 true 1 (bnd (lft (pickA (nth v23 0) (AV.bool true) (nth v27 0))) (fun v28 =>
  M.pure [v28]))) (fun v29 =>
  bnd (guardM (nth v29 0) false 1 (bnd (lft (fieldAddrA T 39 (AV.ip (acells a0)) 1)) (fun v30 =>
  bnd (lft (loadA T 3 v30)) (fun v31 =>
  bnd (lft (binA T BinOp.eql 3 v31 (AV.int IntKind.i64 1))) (fun v32 =>
  M.pure [v32]))))) (fun v33 =>
  bnd (guardM v19 true 1 (bnd (lft (pickA (nth v29 0) (AV.bool true) (nth v33 0))) (fun v34 =>
  M.pure [v34]))) (fun v35 =>
  bnd (lft (pickA v19 (nth v35 0) (AV.bool false))) (fun v36 =>
  M.pure v36))))))))))))) (bnd (lft (fieldAddrA T 39 (AV.ip (acells a0)) 0)) (fun v37 =>
  bnd (lft (loadA T 3 v37)) (fun v38 =>
  bnd (lft (binA T BinOp.neq 3 v38 (AV.int IntKind.i64 2))) (fun v39 =>
  bnd (guardM v39 false 1 (bnd (lft (fieldAddrA T 39 (AV.ip (acells a0)) 1)) (fun v40 =>
  bnd (lft (loadA T 3 v40)) (fun v41 =>
  bnd (lft (binA T BinOp.neq 3 v41 (AV.int IntKind.i64 0))) (fun v42 =>
  M.pure [v42]))))) (fun v43 =>
  bnd (lft (pickA v39 (AV.bool true) (nth v43 0))) (fun v44 =>
  bnd (guardM v44 false 1 (bnd (lft (fieldAddrA T 39 (AV.ip (acells a0)) 2)) (fun v45 =>
  bnd (lft (loadA T 25 v45)) (fun v46 =>
  bnd (lft (lenA T 25 v46)) (fun v47 =>
  bnd (lft (fieldAddrA T 39 (AV.ip (acells a0)) 3)) (fun v48 =>
  bnd (lft (loadA T 23 v48)) (fun v49 =>
  bnd (lft (lenA T 23 v49)) (fun v50 =>
  bnd (lft (binA T BinOp.neq 3 v47 v50)) (fun v51 =>
  M.pure [v51]))))))))) (fun v52 =>
  bnd (lft (pickA v44 (AV.bool true) (nth v52 0))) (fun v53 =>
  bnd (guardM v53 false 1 (bnd (lft (fieldAddrA T 39 (AV.ip (acells a0)) 2)) (fun v54 =>
  bnd (lft (loadA T 25 v54)) (fun v55 =>
  bnd (lft (lenA T 25 v55)) (fun v56 =>
  bnd (lft (binA T BinOp.gtr 3 v56 (AV.int IntKind.i64 8))) (fun v57 =>
  M.pure [v57])))))) (fun v58 =>
  bnd (lft (pickA v53 (AV.bool true) (nth v58 0))) (fun v59 =>
  bnd (guardM v59 false 1 (bnd (lft (fieldAddrA T 39 (AV.ip (acells a0)) 2)) (fun v60 =>
  bnd (lft (loadA T 25 v60)) (fun v61 =>
  bnd (call 89 [v61]) (fun v62 =>
  bnd (lft (unA UnOp.not v62)) (fun v63 =>
  M.pure [v63])))))) (fun v64 =>
  bnd (lft (pickA v59 (AV.bool true) (nth v64 0))) (fun v65 =>
  condM v65 (M.pure (AV.bool false)) (bnd (lft (fieldAddrA T 39 (AV.ip (acells a0)) 3)) (fun v66 =>
  bnd (lft (loadA T 23 v66)) (fun v67 =>
  bnd (call 37 [v67, AV.fn (Fn.func 90) [] [AV.ip (acells a1)]]) (fun v68 =>
  bnd (lft (unA UnOp.not v68)) (fun v69 =>
  M.pure v69)))))))))))))))))))))))))
theorem E52 (call : FuncId → List AV → M AV) (fx : Fix AV) (a0 a1 : AV) : evBody (pg.cx call Try.f52.ntmps ann52) fx Try.f52 (own 52) [a0, a1] = S52 call fx a0 a1 := by kernel_rfl
theorem C52 (a0 a1 : AV) : callW pg 52 [a0, a1] = isoP (S52 (callW pg) fixW (cl noHs a0) (cl noHs a1)) := (callW_iso hOther rfl rfl rfl _).trans (congrArg isoP (E52 _ _ (cl noHs a0) (cl noHs a1)))
noncomputable def S59 (call : FuncId → List AV → M AV) (fx : Fix AV) (a0 a1 : AV) : M AV :=
  bnd (lft (fieldAddrA T 63 (AV.ip (acells a0)) 0)) (fun v0 =>
  bnd (lft (loadA T 9 v0)) (fun v1 =>
  bnd (lft (fieldAddrA T 63 a1 0)) (fun v2 =>
  bnd (lft (loadA T 9 v2)) (fun v3 =>
  bnd (lft (binA T BinOp.eql 9 v1 v3)) (fun v4 =>
  M.pure v4)))))
theorem E59 (call : FuncId → List AV → M AV) (fx : Fix AV) (a0 a1 : AV) : evBody (pg.cx call Try.f59.ntmps ann59) fx Try.f59 (own 59) [a0, a1] = S59 call fx a0 a1 := by kernel_rfl
theorem C59 (a0 a1 : AV) : callW pg 59 [a0, a1] = isoP (S59 (callW pg) fixW (cl noHs a0) (cl noHs a1)) := (callW_iso hOther rfl rfl rfl _).trans (congrArg isoP (E59 _ _ (cl noHs a0) (cl noHs a1)))
noncomputable def L60_0 (call : FuncId → List AV → M AV) (fx : Fix AV) (v4 : List AV → M AV) (v5 : List AV) : M AV :=
  bnd (lft (binA T BinOp.lss 3 (nth v5 4) (nth v5 3))) (fun v6 =>
  condM v6 (bnd (lft (indexAddrA T 22 (nth v5 2) (nth v5 4))) (fun v7 =>
  bnd (lft (loadA T 63 v7)) (fun v8 =>
  bnd (cellsM 9 v8) (fun v9 =>
  bnd (lft (indexAddrA T 32 (nth v5 0) (nth v5 4))) (fun v10 =>
  bnd (lft (loadA T 47 v10)) (fun v11 =>
  bnd (cellsM 2 v11) (fun v12 =>
  bnd (lft (loadA T 63 (AV.ip (acells v9)))) (fun v13 =>
  bnd (lft (loadA T 47 (AV.ip (acells v12)))) (fun v14 =>
  bnd (callV call (nth v5 1) [v13, v14]) (fun v15 =>
  bnd (lft (unA UnOp.not v15)) (fun v16 =>
  condM v16 (M.pure (AV.bool false)) (bnd (lft (binA T BinOp.add 3 (nth v5 4) (AV.int IntKind.i64 1))) (fun v17 =>
  v4 [nth v5 0, nth v5 1, nth v5 2, nth v5 3, v17]))))))))))))) (M.pure (AV.bool true)))
theorem XL60_0 {call : FuncId → List AV → M AV} : Cont1 (L60_0 call fixW ) fun _n => L60_0 call fixW  := by
  intro v4 v4s hself v5
  unfold L60_0
  exact (LimM.bnd (LimM.const _) fun _ => (condM_lim (LimM.bnd (LimM.const _) fun _ => (LimM.bnd (LimM.const _) fun _ => (LimM.bnd (LimM.const _) fun _ => (LimM.bnd (LimM.const _) fun _ => (LimM.bnd (LimM.const _) fun _ => (LimM.bnd (LimM.const _) fun _ => (LimM.bnd (LimM.const _) fun _ => (LimM.bnd (LimM.const _) fun _ => (LimM.bnd (LimM.const _) fun _ => (LimM.bnd (LimM.const _) fun _ => (condM_lim (LimM.const _) (LimM.bnd (LimM.const _) fun _ => (hself _))))))))))))) (LimM.const _)))
theorem FL60_0 (call : FuncId → List AV → M AV) (vs : List AV) : fixW (L60_0 call fixW ) vs = L60_0 call fixW  (fixW (L60_0 call fixW )) vs := fixW_eq (XL60_0 ) vs
noncomputable def S60 (call : FuncId → List AV → M AV) (fx : Fix AV) (a0 a1 a2 : AV) : M AV :=
  bnd (lft (lenA T 22 a0)) (fun v0 =>
  bnd (lft (lenA T 32 a1)) (fun v1 =>
  bnd (lft (binA T BinOp.neq 3 v0 v1)) (fun v2 =>
  condM v2 (M.pure (AV.bool false)) (bnd (lft (lenA T 22 a0)) (fun v3 =>
  fx (L60_0 call fx) [a1, a2, a0, v3, AV.int IntKind.i64 0])))))
theorem E60 (call : FuncId → List AV → M AV) (fx : Fix AV) (a0 a1 a2 : AV) : evBody (pg.cx call Try.f60.ntmps ann60) fx Try.f60 (own 60) [a0, a1, a2] = S60 call fx a0 a1 a2 := by kernel_rfl
theorem C60 (a0 a1 a2 : AV) : callW pg 60 [a0, a1, a2] = isoP (S60 (callW pg) fixW (cl noHs a0) (cl noHs a1) (cl noHs a2)) := (callW_iso hOther rfl rfl rfl _).trans (congrArg isoP (E60 _ _ (cl noHs a0) (cl noHs a1) (cl noHs a2)))
noncomputable def S64 (call : FuncId → List AV → M AV) (fx : Fix AV) (a0 a1 : AV) : M AV :=
  bnd (lft (fieldAddrA T 63 (AV.ip (acells a0)) 0)) (fun v0 =>
  bnd (lft (loadA T 9 v0)) (fun v1 =>
  bnd (lft (loadA T 9 a1)) (fun v2 =>
  bnd (lft (binA T BinOp.eql 9 v1 v2)) (fun v3 =>
  M.pure v3))))
theorem E64 (call : FuncId → List AV → M AV) (fx : Fix AV) (a0 a1 : AV) : evBody (pg.cx call Try.f64.ntmps ann64) fx Try.f64 (own 64) [a0, a1] = S64 call fx a0 a1 := by kernel_rfl
theorem C64 (a0 a1 : AV) : callW pg 64 [a0, a1] = isoP (S64 (callW pg) fixW (cl noHs a0) (cl noHs a1)) := (callW_iso hOther rfl rfl rfl _).trans (congrArg isoP (E64 _ _ (cl noHs a0) (cl noHs a1)))
noncomputable def L67_0 (call : FuncId → List AV → M AV) (fx : Fix AV) (v1 : List AV → M AV) (v2 : List AV) : M AV :=
  bnd (lft (binA T BinOp.lss 3 (nth v2 3) (nth v2 2))) (fun v3 =>
  condM v3 (bnd (lft (indexAddrA T 23 (nth v2 0) (nth v2 3))) (fun v4 =>
  bnd (lft (loadA T 39 v4)) (fun v5 =>
  bnd (callV call (nth v2 1) [v5]) (fun v6 =>
  condM v6 (M.pure (nth v2 3)) (bnd (lft (binA T BinOp.add 3 (nth v2 3) (AV.int IntKind.i64 1))) (fun v7 =>
  v1 [nth v2 0, nth v2 1, nth v2 2, v7])))))) (M.pure (AV.int IntKind.i64 (-1))))
theorem XL67_0 {call : FuncId → List AV → M AV} : Cont1 (L67_0 call fixW ) fun _n => L67_0 call fixW  := by
  intro v1 v1s hself v2
  unfold L67_0
  exact (LimM.bnd (LimM.const _) fun _ => (condM_lim (LimM.bnd (LimM.const _) fun _ => (LimM.bnd (LimM.const _) fun _ => (LimM.bnd (LimM.const _) fun _ => (condM_lim (LimM.const _) (LimM.bnd (LimM.const _) fun _ => (hself _)))))) (LimM.const _)))
theorem FL67_0 (call : FuncId → List AV → M AV) (vs : List AV) : fixW (L67_0 call fixW ) vs = L67_0 call fixW  (fixW (L67_0 call fixW )) vs := fixW_eq (XL67_0 ) vs
noncomputable def S67 (call : FuncId → List AV → M AV) (fx : Fix AV) (a0 a1 : AV) : M AV :=
  bnd (lft (lenA T 23 a0)) (fun v0 =>
  fx (L67_0 call fx) [a0, a1, v0, AV.int IntKind.i64 0])
theorem E67 (call : FuncId → List AV → M AV) (fx : Fix AV) (a0 a1 : AV) : evBody (pg.cx call Try.f67.ntmps ann67) fx Try.f67 (own 67) [a0, a1] = S67 call fx a0 a1 := by kernel_rfl
theorem C67 (a0 a1 : AV) : callW pg 67 [a0, a1] = isoP (S67 (callW pg) fixW (cl noHs a0) (cl noHs a1)) := (callW_iso hOther rfl rfl rfl _).trans (congrArg isoP (E67 _ _ (cl noHs a0) (cl noHs a1)))
noncomputable def K73_0 (call : FuncId → List AV → M AV) (fx : Fix AV) (v4 : List AV) : M AV :=
  condM (nth v4 0) (M.pure (AV.int IntKind.i64 (-1))) (M.pure (AV.int IntKind.i64 (-2)))
noncomputable def K73_1 (call : FuncId → List AV → M AV) (fx : Fix AV) (v2 : List AV) : M AV :=
  condM (nth v2 1) (M.pure (AV.int IntKind.i64 2)) (bnd (lft (binA T BinOp.eql 3 (nth v2 0) (AV.int IntKind.i64 11))) (fun v3 =>
  condM v3 (M.pure (AV.int IntKind.i64 3)) (jn (K73_0 call fx) (fun v5 =>
  bnd (lft (binA T BinOp.eql 3 (nth v2 0) (AV.int IntKind.i64 13))) (fun v6 =>
  condM v6 (v5 [v6]) (bnd (lft (binA T BinOp.eql 3 (nth v2 0) (AV.int IntKind.i64 15))) (fun v7 =>
  v5 [v7])))))))
noncomputable def K73_2 (call : FuncId → List AV → M AV) (fx : Fix AV) (v1 : List AV) : M AV :=
  condM (nth v1 1) (M.pure (AV.int IntKind.i64 1)) (jn (K73_1 call fx) (fun v8 =>
  bnd (lft (binA T BinOp.eql 3 (nth v1 0) (AV.int IntKind.i64 3))) (fun v9 =>
  condM v9 (v8 [nth v1 0, v9]) (bnd (lft (binA T BinOp.eql 3 (nth v1 0) (AV.int IntKind.i64 4))) (fun v10 =>
  condM v10 (v8 [nth v1 0, v10]) (bnd (lft (binA T BinOp.eql 3 (nth v1 0) (AV.int IntKind.i64 5))) (fun v11 =>
  condM v11 (v8 [nth v1 0, v11]) (bnd (lft (binA T BinOp.eql 3 (nth v1 0) (AV.int IntKind.i64 6))) (fun v12 =>
  condM v12 (v8 [nth v1 0, v12]) (bnd (lft (binA T BinOp.eql 3 (nth v1 0) (AV.int IntKind.i64 7))) (fun v13 =>
  condM v13 (v8 [nth v1 0, v13]) (bnd (lft (binA T BinOp.eql 3 (nth v1 0) (AV.int IntKind.i64 8))) (fun v14 =>
  condM v14 (v8 [nth v1 0, v14]) (bnd (lft (binA T BinOp.eql 3 (nth v1 0) (AV.int IntKind.i64 9))) (fun v15 =>
  condM v15 (v8 [nth v1 0, v15]) (bnd (lft (binA T BinOp.eql 3 (nth v1 0) (AV.int IntKind.i64 12))) (fun v16 =>
  v8 [nth v1 0, v16])))))))))))))))))
noncomputable def K73_3 (call : FuncId → List AV → M AV) (fx : Fix AV) (v0 : List AV) : M AV :=
  condM (nth v0 1) (M.pure (AV.int IntKind.i64 0)) (jn (K73_2 call fx) (fun v17 =>
  bnd (lft (binA T BinOp.eql 3 (nth v0 0) (AV.int IntKind.i64 10))) (fun v18 =>
  condM v18 (v17 [nth v0 0, v18]) (bnd (lft (binA T BinOp.eql 3 (nth v0 0) (AV.int IntKind.i64 14))) (fun v19 =>
  condM v19 (v17 [nth v0 0, v19]) (bnd (lft (binA T BinOp.eql 3 (nth v0 0) (AV.int IntKind.i64 16))) (fun v20 =>
  condM v20 (v17 [nth v0 0, v20]) (bnd (lft (binA T BinOp.eql 3 (nth v0 0) (AV.int IntKind.i64 18))) (fun v21 =>
  v17 [nth v0 0, v21])))))))))
noncomputable def S73 (call : FuncId → List AV → M AV) (fx : Fix AV) (a0 : AV) : M AV :=
  jn (K73_3 call fx) (fun v22 =>
  bnd (lft (binA T BinOp.eql 3 a0 (AV.int IntKind.i64 0))) (fun v23 =>
  condM v23 (v22 [a0, v23]) (bnd (lft (binA T BinOp.eql 3 a0 (AV.int IntKind.i64 1))) (fun v24 =>
  condM v24 (v22 [a0, v24]) (bnd (lft (binA T BinOp.eql 3 a0 (AV.int IntKind.i64 2))) (fun v25 =>
  condM v25 (v22 [a0, v25]) (bnd (lft (binA T BinOp.eql 3 a0 (AV.int IntKind.i64 17))) (fun v26 =>
  v22 [a0, v26]))))))))
theorem E73 (call : FuncId → List AV → M AV) (fx : Fix AV) (a0 : AV) : evBody (pg.cx call Try.f73.ntmps ann73) fx Try.f73 (own 73) [a0] = S73 call fx a0 := by kernel_rfl
theorem C73 (a0 : AV) : callW pg 73 [a0] = isoP (S73 (callW pg) fixW (cl noHs a0)) := (callW_iso hOther rfl rfl rfl _).trans (congrArg isoP (E73 _ _ (cl noHs a0)))
noncomputable def L78_0 (call : FuncId → List AV → M AV) (fx : Fix AV) (v26 : List AV → M AV) (v27 : List AV) : M AV :=
  bnd (lft (binA T BinOp.lss 3 (nth v27 4) (nth v27 3))) (fun v28 =>
  condM v28 (bnd (lft (indexAddrA T 26 (nth v27 2) (nth v27 4))) (fun v29 =>
  bnd (lft (loadA T 28 v29)) (fun v30 =>
  bnd (cellsM 6 v30) (fun v31 =>
  bnd (lft (loadA T 98 (nth v27 1))) (fun v32 =>
  bnd (lft (loadA T 28 (AV.ip (acells v31)))) (fun v33 =>
  bnd (call 50 [nth v27 0, v32, v33]) (fun v34 =>
  bnd (lft (buildSliceA T 23 1 [(0, v34)])) (fun v35 =>
  bnd (lft (appA T 23 (nth v27 12) v35)) (fun v36 =>
  bnd (cell1M v36) (fun v37 =>
  bnd (lft (binA T BinOp.add 3 (nth v27 4) (AV.int IntKind.i64 1))) (fun v38 =>
  v26 [nth v27 0, nth v27 1, nth v27 2, nth v27 3, v38, nth v27 5, nth v27 6, nth v27 7, nth v27 8, nth v27 9, nth v27 10, nth v27 11, v36]))))))))))) (bnd (call 97 [AV.agg [nth v27 9, nth v27 10, nth v27 11, nth v27 12]]) (fun v39 =>
  bnd (lft (binA T BinOp.leq 3 v39 (AV.int IntKind.i64 4))) (fun v40 =>
  bnd (call 69 [v40, AV.int IntKind.i64 6]) (fun v41 =>
  bnd (cellsNil 4 [] (AV.agg [nth v27 9, nth v27 10, nth v27 11, nth v27 12])) (fun v42 =>
  M.pure (AV.agg [nth (acells v42) 0, nth (acells v42) 1, nth (acells v42) 2, nth (acells v42) 3])))))))
theorem XL78_0 {call : FuncId → List AV → M AV} : Cont1 (L78_0 call fixW ) fun _n => L78_0 call fixW  := by
  intro v26 v26s hself v27
  unfold L78_0
  exact (LimM.bnd (LimM.const _) fun _ => (condM_lim (LimM.bnd (LimM.const _) fun _ => (LimM.bnd (LimM.const _) fun _ => (LimM.bnd (LimM.const _) fun _ => (LimM.bnd (LimM.const _) fun _ => (LimM.bnd (LimM.const _) fun _ => (LimM.bnd (LimM.const _) fun _ => (LimM.bnd (LimM.const _) fun _ => (LimM.bnd (LimM.const _) fun _ => (LimM.bnd (LimM.const _) fun _ => (LimM.bnd (LimM.const _) fun _ => (hself _))))))))))) (LimM.const _)))
theorem FL78_0 (call : FuncId → List AV → M AV) (vs : List AV) : fixW (L78_0 call fixW ) vs = L78_0 call fixW  (fixW (L78_0 call fixW )) vs := fixW_eq (XL78_0 ) vs
noncomputable def S78 (call : FuncId → List AV → M AV) (fx : Fix AV) (a0 a1 a2 : AV) : M AV :=
  bnd (lft (fieldAddrA T 28 (AV.ip (acells a2)) 4)) (fun v0 =>
  bnd (lft (loadA T 25 v0)) (fun v1 =>
  bnd (lft (lenA T 25 v1)) (fun v2 =>
  bnd (lft (fieldAddrA T 28 (AV.ip (acells a2)) 5)) (fun v3 =>
  bnd (lft (loadA T 26 v3)) (fun v4 =>
  bnd (lft (lenA T 26 v4)) (fun v5 =>
  bnd (lft (binA T BinOp.eql 3 v2 v5)) (fun v6 =>
  bnd (guardM v6 true 1 (bnd (lft (fieldAddrA T 28 (AV.ip (acells a2)) 4)) (fun v7 =>
  bnd (lft (loadA T 25 v7)) (fun v8 =>
  bnd (call 89 [v8]) (fun v9 =>
  M.pure [v9]))))) (fun v10 =>
  bnd (lft (pickA v6 (nth v10 0) (AV.bool false))) (fun v11 =>
  bnd (call 69 [v11, AV.int IntKind.i64 13]) (fun v12 =>
  bnd (lft (fieldAddrA T 28 (AV.ip (acells a2)) 4)) (fun v13 =>
  bnd (lft (loadA T 25 v13)) (fun v14 =>
  bnd (lft (lenA T 25 v14)) (fun v15 =>
  bnd (lft (binA T BinOp.leq 3 v15 (AV.int IntKind.i64 8))) (fun v16 =>
  bnd (call 69 [v16, AV.int IntKind.i64 6]) (fun v17 =>
  bnd (lft (fieldAddrA T 28 (AV.ip (acells a2)) 4)) (fun v18 =>
  bnd (lft (loadA T 25 v18)) (fun v19 =>
  bnd (call 96 [v19]) (fun v20 =>
  bnd (lft (buildA T true 39 [(0, AV.int IntKind.i64 2), (2, v20)])) (fun v21 =>
  bnd (cellsNil 4 [3] v21) (fun v22 =>
  bnd (lft (fieldAddrA T 28 (AV.ip (acells a2)) 5)) (fun v23 =>
  bnd (lft (loadA T 26 v23)) (fun v24 =>
  bnd (lft (lenA T 26 v24)) (fun v25 =>
  fx (L78_0 call fx) [a0, AV.ip (acells a1), v24, v25, AV.int IntKind.i64 0, AV.int IntKind.i64 0, AV.int IntKind.i64 0, AV.sl [], AV.sl [], nth (acells v22) 0, nth (acells v22) 1, nth (acells v22) 2, AV.sl []])))))))))))))))))))))))
theorem E78 (call : FuncId → List AV → M AV) (fx : Fix AV) (a0 a1 a2 : AV) : evBody (pg.cx call Try.f78.ntmps ann78) fx Try.f78 (own 78) [a0, a1, a2] = S78 call fx a0 a1 a2 := by kernel_rfl
theorem C78 (a0 a1 a2 : AV) : callW pg 78 [a0, a1, a2] = S78 (callW pg) fixW a0 a1 a2 := (callW_heap hOther rfl rfl rfl _).trans (E78 _ _ a0 a1 a2)
noncomputable def L79_0 (call : FuncId → List AV → M AV) (fx : Fix AV) (v1 : List AV → M AV) (v2 : List AV) : M AV :=
  bnd (lft (binA T BinOp.lss 3 (nth v2 3) (nth v2 2))) (fun v3 =>
  condM v3 (bnd (lft (indexAddrA T 25 (nth v2 0) (nth v2 3))) (fun v4 =>
  bnd (lft (loadA T 9 v4)) (fun v5 =>
  bnd (lft (binA T BinOp.eql 9 (nth v2 1) v5)) (fun v6 =>
  condM v6 (M.pure (nth v2 3)) (bnd (lft (binA T BinOp.add 3 (nth v2 3) (AV.int IntKind.i64 1))) (fun v7 =>
  v1 [nth v2 0, nth v2 1, nth v2 2, v7])))))) (M.pure (AV.int IntKind.i64 (-1))))
theorem XL79_0 {call : FuncId → List AV → M AV} : Cont1 (L79_0 call fixW ) fun _n => L79_0 call fixW  := by
  intro v1 v1s hself v2
  unfold L79_0
  exact (LimM.bnd (LimM.const _) fun _ => (condM_lim (LimM.bnd (LimM.const _) fun _ => (LimM.bnd (LimM.const _) fun _ => (LimM.bnd (LimM.const _) fun _ => (condM_lim (LimM.const _) (LimM.bnd (LimM.const _) fun _ => (hself _)))))) (LimM.const _)))
theorem FL79_0 (call : FuncId → List AV → M AV) (vs : List AV) : fixW (L79_0 call fixW ) vs = L79_0 call fixW  (fixW (L79_0 call fixW )) vs := fixW_eq (XL79_0 ) vs
noncomputable def S79 (call : FuncId → List AV → M AV) (fx : Fix AV) (a0 a1 : AV) : M AV :=
  bnd (lft (lenA T 25 a0)) (fun v0 =>
  fx (L79_0 call fx) [a0, a1, v0, AV.int IntKind.i64 0])
theorem E79 (call : FuncId → List AV → M AV) (fx : Fix AV) (a0 a1 : AV) : evBody (pg.cx call Try.f79.ntmps ann79) fx Try.f79 (own 79) [a0, a1] = S79 call fx a0 a1 := by kernel_rfl
theorem C79 (a0 a1 : AV) : callW pg 79 [a0, a1] = isoP (S79 (callW pg) fixW (cl noHs a0) (cl noHs a1)) := (callW_iso hOther rfl rfl rfl _).trans (congrArg isoP (E79 _ _ (cl noHs a0) (cl noHs a1)))
noncomputable def L80_0 (call : FuncId → List AV → M AV) (fx : Fix AV) (v31 : List AV → M AV) (v32 : List AV) : M AV :=
  bnd (lft (binA T BinOp.lss 3 (nth v32 7) (nth v32 6))) (fun v33 =>
  condM v33 (bnd (lft (indexAddrA T 26 (nth v32 5) (nth v32 7))) (fun v34 =>
  bnd (lft (loadA T 28 v34)) (fun v35 =>
  bnd (cellsM 6 v35) (fun v36 =>
  bnd (lft (loadA T 98 (nth v32 1))) (fun v37 =>
  bnd (lft (loadA T 28 (AV.ip (acells v36)))) (fun v38 =>
  bnd (call 50 [nth v32 0, v37, v38]) (fun v39 =>
  bnd (lft (buildSliceA T 23 1 [(0, v39)])) (fun v40 =>
  bnd (lft (appA T 23 (nth v32 4) v40)) (fun v41 =>
  bnd (lft (binA T BinOp.add 3 (nth v32 7) (AV.int IntKind.i64 1))) (fun v42 =>
  v31 [nth v32 0, nth v32 1, nth v32 2, nth v32 3, v41, nth v32 5, nth v32 6, v42, nth v32 8, nth v32 9, nth v32 10, nth v32 11])))))))))) (bnd (lft (loadA T 67 (nth v32 3))) (fun v43 =>
  bnd (call 42 [nth v32 0, nth v32 2, v43, nth v32 4]) (fun v44 =>
  bnd (cellsNil 4 [] v44) (fun v45 =>
  M.pure (AV.agg [nth (acells v45) 0, nth (acells v45) 1, nth (acells v45) 2, nth (acells v45) 3]))))))
noncomputable def K80_0 (call : FuncId → List AV → M AV) (fx : Fix AV) (v2 : List AV) : M AV :=
  bnd (lft (fieldAddrA T 28 (nth v2 2) 2)) (fun v3 =>
  bnd (lft (loadA T 9 v3)) (fun v4 =>
  bnd (call 36 [nth v2 0, nth v2 3, v4]) (fun v5 =>
  bnd (lft (extractA v5 0)) (fun v6 =>
  bnd (lft (extractA v5 1)) (fun v7 =>
  bnd (cellsM 12 v6) (fun v8 =>
  bnd (guardM v7 true 1 (bnd (lft (fieldAddrA T 28 (nth v2 2) 3)) (fun v9 =>
  bnd (lft (loadA T 9 v9)) (fun v10 =>
  bnd (lft (binA T BinOp.eql 9 v10 (AV.str []))) (fun v11 =>
  M.pure [v11]))))) (fun v12 =>
  bnd (guardM (nth v12 0) false 1 (bnd (lft (fieldAddrA T 67 (AV.ip (acells v8)) 1)) (fun v13 =>
  bnd (lft (loadA T 4 v13)) (fun v14 =>
  M.pure [v14])))) (fun v15 =>
  bnd (guardM v7 true 1 (bnd (lft (pickA (nth v12 0) (AV.bool true) (nth v15 0))) (fun v16 =>
  M.pure [v16]))) (fun v17 =>
  bnd (lft (pickA v7 (nth v17 0) (AV.bool false))) (fun v18 =>
  bnd (call 69 [v18, AV.int IntKind.i64 12]) (fun v19 =>
  bnd (lft (fieldAddrA T 28 (nth v2 2) 5)) (fun v20 =>
  bnd (lft (loadA T 26 v20)) (fun v21 =>
  bnd (lft (lenA T 26 v21)) (fun v22 =>
  bnd (lft (fieldAddrA T 67 (AV.ip (acells v8)) 2)) (fun v23 =>
  bnd (lft (loadA T 58 v23)) (fun v24 =>
  bnd (lft (lenA T 58 v24)) (fun v25 =>
  bnd (lft (binA T BinOp.eql 3 v22 v25)) (fun v26 =>
  bnd (call 69 [v26, AV.int IntKind.i64 13]) (fun v27 =>
  bnd (lft (fieldAddrA T 28 (nth v2 2) 5)) (fun v28 =>
  bnd (lft (loadA T 26 v28)) (fun v29 =>
  bnd (lft (lenA T 26 v29)) (fun v30 =>
  fx (L80_0 call fx) [nth v2 0, nth v2 1, nth v2 3, AV.ip (acells v8), AV.sl [], v29, v30, AV.int IntKind.i64 0, nth v2 4, nth v2 5, nth v2 6, nth v2 7]))))))))))))))))))))))
theorem XL80_0 {call : FuncId → List AV → M AV} : Cont1 (L80_0 call fixW ) fun _n => L80_0 call fixW  := by
  intro v31 v31s hself v32
  unfold L80_0
  exact (LimM.bnd (LimM.const _) fun _ => (condM_lim (LimM.bnd (LimM.const _) fun _ => (LimM.bnd (LimM.const _) fun _ => (LimM.bnd (LimM.const _) fun _ => (LimM.bnd (LimM.const _) fun _ => (LimM.bnd (LimM.const _) fun _ => (LimM.bnd (LimM.const _) fun _ => (LimM.bnd (LimM.const _) fun _ => (LimM.bnd (LimM.const _) fun _ => (LimM.bnd (LimM.const _) fun _ => (hself _)))))))))) (LimM.const _)))
theorem FL80_0 (call : FuncId → List AV → M AV) (vs : List AV) : fixW (L80_0 call fixW ) vs = L80_0 call fixW  (fixW (L80_0 call fixW )) vs := fixW_eq (XL80_0 ) vs
noncomputable def S80 (call : FuncId → List AV → M AV) (fx : Fix AV) (a0 a1 a2 : AV) : M AV :=
  bnd (lft (fieldAddrA T 98 (AV.ip (acells a1)) 0)) (fun v0 =>
  bnd (lft (loadA T 3 v0)) (fun v1 =>
  jn (K80_0 call fx) (fun v46 =>
  bnd (lft (fieldAddrA T 28 (AV.ip (acells a2)) 3)) (fun v47 =>
  bnd (lft (loadA T 9 v47)) (fun v48 =>
  bnd (lft (binA T BinOp.neq 9 v48 (AV.str []))) (fun v49 =>
  condM v49 (bnd (lft (fieldAddrA T 28 (AV.ip (acells a2)) 3)) (fun v50 =>
  bnd (lft (loadA T 9 v50)) (fun v51 =>
  bnd (call 35 [a0, v51]) (fun v52 =>
  v46 [a0, AV.ip (acells a1), AV.ip (acells a2), v52, AV.int IntKind.i64 0, AV.int IntKind.i64 0, AV.sl [], AV.sl []])))) (v46 [a0, AV.ip (acells a1), AV.ip (acells a2), v1, AV.int IntKind.i64 0, AV.int IntKind.i64 0, AV.sl [], AV.sl []])))))))
theorem E80 (call : FuncId → List AV → M AV) (fx : Fix AV) (a0 a1 a2 : AV) : evBody (pg.cx call Try.f80.ntmps ann80) fx Try.f80 (own 80) [a0, a1, a2] = S80 call fx a0 a1 a2 := by kernel_rfl
theorem C80 (a0 a1 a2 : AV) : callW pg 80 [a0, a1, a2] = S80 (callW pg) fixW a0 a1 a2 := (callW_heap hOther rfl rfl rfl _).trans (E80 _ _ a0 a1 a2)
noncomputable def S94 (call : FuncId → List AV → M AV) (fx : Fix AV) (a0 : AV) : M AV :=
  bnd (lft (lenA T 25 a0)) (fun v0 =>
  bnd (lft (lenA T 25 a0)) (fun v1 =>
  bnd (lft (sliceA T 25 a0 none (some v0) (some v1))) (fun v2 =>
  M.pure v2)))
theorem E94 (call : FuncId → List AV → M AV) (fx : Fix AV) (a0 : AV) : evBody (pg.cx call Try.f94.ntmps ann94) fx Try.f94 (own 94) [a0] = S94 call fx a0 := by kernel_rfl
theorem C94 (a0 : AV) : callW pg 94 [a0] = isoP (S94 (callW pg) fixW (cl noHs a0)) := (callW_iso hOther rfl rfl rfl _).trans (congrArg isoP (E94 _ _ (cl noHs a0)))
noncomputable def L97_0 (call : FuncId → List AV → M AV) (fx : Fix AV) (v3 : List AV → M AV) (v4 : List AV) : M AV :=
  bnd (lft (binA T BinOp.lss 3 (nth v4 3) (nth v4 2))) (fun v5 =>
  condM v5 (bnd (lft (indexAddrA T 23 (nth v4 1) (nth v4 3))) (fun v6 =>
  bnd (lft (loadA T 39 v6)) (fun v7 =>
  bnd (cellsM 4 v7) (fun v8 =>
  bnd (lft (loadA T 39 (AV.ip (acells v8)))) (fun v9 =>
  bnd (call 97 [v9]) (fun v10 =>
  bnd (lft (minsA true [nth v4 0, v10])) (fun v11 =>
  bnd (lft (binA T BinOp.add 3 (nth v4 3) (AV.int IntKind.i64 1))) (fun v12 =>
  v3 [v11, nth v4 1, nth v4 2, v12])))))))) (bnd (lft (binA T BinOp.add 3 (nth v4 0) (AV.int IntKind.i64 1))) (fun v13 =>
  M.pure v13)))
theorem XL97_0 {call : FuncId → List AV → M AV} : Cont1 (L97_0 call fixW ) fun _n => L97_0 call fixW  := by
  intro v3 v3s hself v4
  unfold L97_0
  exact (LimM.bnd (LimM.const _) fun _ => (condM_lim (LimM.bnd (LimM.const _) fun _ => (LimM.bnd (LimM.const _) fun _ => (LimM.bnd (LimM.const _) fun _ => (LimM.bnd (LimM.const _) fun _ => (LimM.bnd (LimM.const _) fun _ => (LimM.bnd (LimM.const _) fun _ => (LimM.bnd (LimM.const _) fun _ => (hself _)))))))) (LimM.const _)))
theorem FL97_0 (call : FuncId → List AV → M AV) (vs : List AV) : fixW (L97_0 call fixW ) vs = L97_0 call fixW  (fixW (L97_0 call fixW )) vs := fixW_eq (XL97_0 ) vs
noncomputable def S97 (call : FuncId → List AV → M AV) (fx : Fix AV) (a0 : AV) : M AV :=
  bnd (lft (fieldAddrA T 39 (AV.ip (acells a0)) 3)) (fun v0 =>
  bnd (lft (loadA T 23 v0)) (fun v1 =>
  bnd (lft (lenA T 23 v1)) (fun v2 =>
  fx (L97_0 call fx) [AV.int IntKind.i64 0, v1, v2, AV.int IntKind.i64 0])))
theorem E97 (call : FuncId → List AV → M AV) (fx : Fix AV) (a0 : AV) : evBody (pg.cx call Try.f97.ntmps ann97) fx Try.f97 (own 97) [a0] = S97 call fx a0 := by kernel_rfl
theorem C97 (a0 : AV) : callW pg 97 [a0] = isoP (S97 (callW pg) fixW (cl noHs a0)) := (callW_iso hOther rfl rfl rfl _).trans (congrArg isoP (E97 _ _ (cl noHs a0)))
end Go.Proofs.Ytgbopmciiadmlaa
