/- Shallow programs of the functions, part 2: written by a program. No condition. -/
import Derived.Test.YtgbopmciiadmlaaAnn
namespace Go.Proofs.Ytgbopmciiadmlaa
open Go Go.Av
set_option maxRecDepth 100000
noncomputable def L12_0 (call : FuncId → List AV → M AV) (fx : Fix AV) (v3 : List AV → M AV) (v4 : List AV) : M AV :=
  bnd (lft (lenA T 32 (nth v4 0))) (fun v5 =>
  bnd (lft (binA T BinOp.lss 3 (nth v4 2) v5)) (fun v6 =>
  condM v6 (bnd (lft (indexAddrA T 32 (nth v4 0) (nth v4 2))) (fun v7 =>
  bnd (lft (fieldAddrA T 47 v7 0)) (fun v8 =>
  bnd (lft (loadA T 9 v8)) (fun v9 =>
  bnd (lft (indexAddrA T 32 (nth v4 1) (nth v4 2))) (fun v10 =>
  bnd (lft (fieldAddrA T 47 v10 0)) (fun v11 =>
  bnd (lft (loadA T 9 v11)) (fun v12 =>
  bnd (lft (binA T BinOp.neq 9 v9 v12)) (fun v13 =>
  bnd (guardM v13 false 1 (bnd (lft (indexAddrA T 32 (nth v4 0) (nth v4 2))) (fun v14 =>
  bnd (lft (fieldAddrA T 47 v14 1)) (fun v15 =>
  bnd (lft (loadA T 23 v15)) (fun v16 =>
  bnd (lft (indexAddrA T 32 (nth v4 1) (nth v4 2))) (fun v17 =>
  bnd (lft (fieldAddrA T 47 v17 1)) (fun v18 =>
  bnd (lft (loadA T 23 v18)) (fun v19 =>
  bnd (noPan (call 26 [v16, v19])) (fun v20 =>
  bnd (lft (unA UnOp.not v20)) (fun v21 =>
  M.pure [v21])))))))))) (fun v22 =>
  bnd (lft (pickA v13 (AV.bool true) (nth v22 0))) (fun v23 =>
  condM v23 (M.pure (AV.bool false)) (bnd (lft (binA T BinOp.add 3 (nth v4 2) (AV.int IntKind.i64 1))) (fun v24 =>
  v3 [nth v4 0, nth v4 1, v24])))))))))))) (M.pure (AV.bool true))))
theorem XL12_0 {call : FuncId → List AV → M AV} : Cont1 (L12_0 call fixW ) fun _n => L12_0 call fixW  := by
  intro v3 v3s hself v4
  unfold L12_0
  exact (LimM.bnd (LimM.const _) fun _ => (LimM.bnd (LimM.const _) fun _ => (condM_lim (LimM.bnd (LimM.const _) fun _ => (LimM.bnd (LimM.const _) fun _ => (LimM.bnd (LimM.const _) fun _ => (LimM.bnd (LimM.const _) fun _ => (LimM.bnd (LimM.const _) fun _ => (LimM.bnd (LimM.const _) fun _ => (LimM.bnd (LimM.const _) fun _ => (LimM.bnd (LimM.const _) fun _ => (LimM.bnd (LimM.const _) fun _ => (condM_lim (LimM.const _) (LimM.bnd (LimM.const _) fun _ => (hself _)))))))))))) (LimM.const _))))
theorem FL12_0 (call : FuncId → List AV → M AV) (vs : List AV) : fixW (L12_0 call fixW ) vs = L12_0 call fixW  (fixW (L12_0 call fixW )) vs := fixW_eq (XL12_0 ) vs
noncomputable def S12 (call : FuncId → List AV → M AV) (fx : Fix AV) (a0 a1 : AV) : M AV :=
  bnd (lft (lenA T 32 a0)) (fun v0 =>
  bnd (lft (lenA T 32 a1)) (fun v1 =>
  bnd (lft (binA T BinOp.neq 3 v0 v1)) (fun v2 =>
  condM v2 (M.pure (AV.bool false)) (fx (L12_0 call fx) [a0, a1, AV.int IntKind.i64 0]))))
theorem E12 (call : FuncId → List AV → M AV) (fx : Fix AV) (a0 a1 : AV) : evBody (pg.cx call Try.f12.ntmps ann12) fx Try.f12 (own 12) [a0, a1] = S12 call fx a0 a1 := by kernel_rfl
theorem C12 (a0 a1 : AV) : callW pg 12 [a0, a1] = isoP (S12 (callW pg) fixW (cl noHs a0) (cl noHs a1)) := (callW_iso hOther rfl rfl rfl _).trans (congrArg isoP (E12 _ _ (cl noHs a0) (cl noHs a1)))
noncomputable def S13 (call : FuncId → List AV → M AV) (fx : Fix AV) (a0 a1 : AV) : M AV :=
  bnd (lft (fieldAddrA T 43 (AV.ip (acells a0)) 0)) (fun v0 =>
  bnd (lft (loadA T 33 v0)) (fun v1 =>
  bnd (lft (fieldAddrA T 43 (AV.ip (acells a1)) 0)) (fun v2 =>
  bnd (lft (loadA T 33 v2)) (fun v3 =>
  bnd (lft (binA T BinOp.eql 33 v1 v3)) (fun v4 =>
  bnd (guardM v4 true 1 (bnd (lft (fieldAddrA T 43 (AV.ip (acells a0)) 2)) (fun v5 =>
  bnd (lft (loadA T 40 v5)) (fun v6 =>
  bnd (lft (lenA T 40 v6)) (fun v7 =>
  bnd (lft (fieldAddrA T 43 (AV.ip (acells a1)) 2)) (fun v8 =>
  bnd (lft (loadA T 40 v8)) (fun v9 =>
  bnd (lft (lenA T 40 v9)) (fun v10 =>
  bnd (lft (binA T BinOp.eql 3 v7 v10)) (fun v11 =>
  M.pure [v11]))))))))) (fun v12 =>
  bnd (lft (pickA v4 (nth v12 0) (AV.bool false))) (fun v13 =>
  bnd (guardM v13 true 1 (bnd (lft (fieldAddrA T 43 (AV.ip (acells a0)) 3)) (fun v14 =>
  bnd (lft (loadA T 41 v14)) (fun v15 =>
  bnd (lft (lenA T 41 v15)) (fun v16 =>
  bnd (lft (fieldAddrA T 43 (AV.ip (acells a1)) 3)) (fun v17 =>
  bnd (lft (loadA T 41 v17)) (fun v18 =>
  bnd (lft (lenA T 41 v18)) (fun v19 =>
  bnd (lft (binA T BinOp.eql 3 v16 v19)) (fun v20 =>
  M.pure [v20]))))))))) (fun v21 =>
  bnd (lft (pickA v13 (nth v21 0) (AV.bool false))) (fun v22 =>
  bnd (guardM v22 true 1 (bnd (lft (loadA T 43 (AV.ip (acells a0)))) (fun v23 =>
  bnd (lft (loadA T 43 (AV.ip (acells a1)))) (fun v24 =>
  bnd (call 25 [v23, v24]) (fun v25 =>
  M.pure [v25]))))) (fun v26 =>
  bnd (lft (pickA v22 (nth v26 0) (AV.bool false))) (fun v27 =>
  bnd (guardM v27 true 1 (bnd (lft (fieldAddrA T 43 (AV.ip (acells a0)) 4)) (fun v28 =>
  bnd (lft (loadA T 32 v28)) (fun v29 =>
  bnd (lft (fieldAddrA T 43 (AV.ip (acells a1)) 4)) (fun v30 =>
  bnd (lft (loadA T 32 v30)) (fun v31 =>
  bnd (call 12 [v29, v31]) (fun v32 =>
  M.pure [v32]))))))) (fun v33 =>
  bnd (lft (pickA v27 (nth v33 0) (AV.bool false))) (fun v34 =>
  bnd (guardM v34 true 1 (bnd (lft (fieldAddrA T 43 (AV.ip (acells a0)) 0)) (fun v35 =>
  bnd (lft (loadA T 33 v35)) (fun v36 =>
  bnd (lft (binA T BinOp.neq 33 v36 (AV.int IntKind.i64 0))) (fun v37 =>
  M.pure [v37]))))) (fun v38 =>
  bnd (guardM (nth v38 0) false 1 (bnd (lft (fieldAddrA T 43 (AV.ip (acells a0)) 1)) (fun v39 =>
  bnd (lft (loadA T 39 v39)) (fun v40 =>
  bnd (lft (fieldAddrA T 43 (AV.ip (acells a1)) 1)) (fun v41 =>
  bnd (lft (loadA T 39 v41)) (fun v42 =>
  bnd (call 24 [v40, v42]) (fun v43 =>
  M.pure [v43]))))))) (fun v44 =>
  bnd (guardM v34 true 1 (bnd (lft (pickA (nth v38 0) (AV.bool true) (nth v44 0))) (fun v45 =>
  M.pure [v45]))) (fun v46 =>
  bnd (lft (pickA v34 (nth v46 0) (AV.bool false))) (fun v47 =>
  M.pure v47)))))))))))))))))
theorem E13 (call : FuncId → List AV → M AV) (fx : Fix AV) (a0 a1 : AV) : evBody (pg.cx call Try.f13.ntmps ann13) fx Try.f13 (own 13) [a0, a1] = S13 call fx a0 a1 := by kernel_rfl
theorem C13 (a0 a1 : AV) : callW pg 13 [a0, a1] = isoP (S13 (callW pg) fixW (cl noHs a0) (cl noHs a1)) := (callW_iso hOther rfl rfl rfl _).trans (congrArg isoP (E13 _ _ (cl noHs a0) (cl noHs a1)))
noncomputable def S24 (call : FuncId → List AV → M AV) (fx : Fix AV) (a0 a1 : AV) : M AV :=
  bnd (lft (loadA T 39 (AV.ip (acells a0)))) (fun v0 =>
  bnd (call 22 [v0]) (fun v1 =>
  bnd (guardM v1 true 1 (bnd (lft (loadA T 39 (AV.ip (acells a1)))) (fun v2 =>
  bnd (call 22 [v2]) (fun v3 =>
  M.pure [v3])))) (fun v4 =>
  bnd (lft (pickA v1 (nth v4 0) (AV.bool false))) (fun v5 =>
  bnd (guardM v5 true 1 (bnd (lft (loadA T 39 (AV.ip (acells a0)))) (fun v6 =>
  bnd (lft (loadA T 39 (AV.ip (acells a1)))) (fun v7 =>
  bnd (call 55 [v6, v7]) (fun v8 =>
  M.pure [v8]))))) (fun v9 =>
  bnd (lft (pickA v5 (nth v9 0) (AV.bool false))) (fun v10 =>
  M.pure v10))))))
theorem E24 (call : FuncId → List AV → M AV) (fx : Fix AV) (a0 a1 : AV) : evBody (pg.cx call Try.f24.ntmps ann24) fx Try.f24 (own 24) [a0, a1] = S24 call fx a0 a1 := by kernel_rfl
theorem C24 (a0 a1 : AV) : callW pg 24 [a0, a1] = isoP (S24 (callW pg) fixW (cl noHs a0) (cl noHs a1)) := (callW_iso hOther rfl rfl rfl _).trans (congrArg isoP (E24 _ _ (cl noHs a0) (cl noHs a1)))
noncomputable def L32_0 (call : FuncId → List AV → M AV) (fx : Fix AV) (v3 : List AV → M AV) (v4 : List AV) : M AV :=
  bnd (lft (binA T BinOp.lss 3 (nth v4 3) (nth v4 2))) (fun v5 =>
  condM v5 (bnd (lft (indexAddrA T 22 (nth v4 1) (nth v4 3))) (fun v6 =>
  bnd (lft (loadA T 63 v6)) (fun v7 =>
  bnd (cellsM 9 v7) (fun v8 =>
  bnd (lft (sliceA T 22 (nth v4 0) none (some (nth v4 3)) none)) (fun v9 =>
  bnd (call 58 [v9, AV.fn (Fn.func 59) [] [AV.ip (acells v8)]]) (fun v10 =>
  condM v10 (M.pure (AV.int IntKind.i64 5)) (bnd (lft (binA T BinOp.add 3 (nth v4 3) (AV.int IntKind.i64 1))) (fun v11 =>
  v3 [nth v4 0, nth v4 1, nth v4 2, v11])))))))) (M.pure (AV.int IntKind.i64 0)))
theorem XL32_0 {call : FuncId → List AV → M AV} : Cont1 (L32_0 call fixW ) fun _n => L32_0 call fixW  := by
  intro v3 v3s hself v4
  unfold L32_0
  exact (LimM.bnd (LimM.const _) fun _ => (condM_lim (LimM.bnd (LimM.const _) fun _ => (LimM.bnd (LimM.const _) fun _ => (LimM.bnd (LimM.const _) fun _ => (LimM.bnd (LimM.const _) fun _ => (LimM.bnd (LimM.const _) fun _ => (condM_lim (LimM.const _) (LimM.bnd (LimM.const _) fun _ => (hself _)))))))) (LimM.const _)))
theorem FL32_0 (call : FuncId → List AV → M AV) (vs : List AV) : fixW (L32_0 call fixW ) vs = L32_0 call fixW  (fixW (L32_0 call fixW )) vs := fixW_eq (XL32_0 ) vs
noncomputable def S32 (call : FuncId → List AV → M AV) (fx : Fix AV) (a0 : AV) : M AV :=
  bnd (lft (lenA T 22 a0)) (fun v0 =>
  bnd (lft (binA T BinOp.gtr 3 v0 (AV.int IntKind.i64 20))) (fun v1 =>
  condM v1 (M.pure (AV.int IntKind.i64 6)) (bnd (lft (lenA T 22 a0)) (fun v2 =>
  fx (L32_0 call fx) [a0, a0, v2, AV.int IntKind.i64 0]))))
theorem E32 (call : FuncId → List AV → M AV) (fx : Fix AV) (a0 : AV) : evBody (pg.cx call Try.f32.ntmps ann32) fx Try.f32 (own 32) [a0] = S32 call fx a0 := by kernel_rfl
theorem C32 (a0 : AV) : callW pg 32 [a0] = isoP (S32 (callW pg) fixW (cl noHs a0)) := (callW_iso hOther rfl rfl rfl _).trans (congrArg isoP (E32 _ _ (cl noHs a0)))
noncomputable def S41 (call : FuncId → List AV → M AV) (fx : Fix AV) (a0 a1 a2 a3 : AV) : M AV :=
  bnd (lft (loadA T 79 a0)) (fun v0 =>
  bnd (lft (loadA T 3 a1)) (fun v1 =>
  bnd (lft (loadA T 67 a2)) (fun v2 =>
  bnd (lft (loadA T 23 a3)) (fun v3 =>
  bnd (call 42 [v0, v1, v2, v3]) (fun v4 =>
  bnd (cellsNil 4 [] v4) (fun v5 =>
  M.pure (AV.agg [nth (acells v5) 0, nth (acells v5) 1, nth (acells v5) 2, nth (acells v5) 3])))))))
theorem E41 (call : FuncId → List AV → M AV) (fx : Fix AV) (a0 a1 a2 a3 : AV) : evBody (pg.cx call Try.f41.ntmps ann41) fx Try.f41 (own 41) [a0, a1, a2, a3] = S41 call fx a0 a1 a2 a3 := by kernel_rfl
theorem C41 (a0 a1 a2 a3 : AV) : callW pg 41 [a0, a1, a2, a3] = S41 (callW pg) fixW a0 a1 a2 a3 := (callW_heap hOther rfl rfl rfl _).trans (E41 _ _ a0 a1 a2 a3)
noncomputable def L42_0 (call : FuncId → List AV → M AV) (fx : Fix AV) (v11 : List AV → M AV) (v12 : List AV) : M AV :=
  bnd (lft (binA T BinOp.lss 3 (nth v12 5) (nth v12 4))) (fun v13 =>
  condM v13 (bnd (lft (indexAddrA T 58 (nth v12 3) (nth v12 5))) (fun v14 =>
  bnd (lft (loadA T 104 v14)) (fun v15 =>
  bnd (cellsM 3 v15) (fun v16 =>
  bnd (lft (fieldAddrA T 104 (AV.ip (acells v16)) 0)) (fun v17 =>
  bnd (lft (loadA T 9 v17)) (fun v18 =>
  bnd (lft (indexAddrA T 23 (nth v12 1) (nth v12 5))) (fun v19 =>
  bnd (lft (loadA T 39 v19)) (fun v20 =>
  bnd (noPan (call 70 [AV.agg [nth v12 10, nth v12 11, nth v12 12], v18, v20])) (fun v21 =>
  bnd (cellsNil 3 [] v21) (fun v22 =>
  bnd (lft (binA T BinOp.add 3 (nth v12 5) (AV.int IntKind.i64 1))) (fun v23 =>
  v11 [nth v12 0, nth v12 1, nth v12 2, nth v12 3, nth v12 4, v23, nth v12 6, nth v12 7, nth v12 8, nth v12 9, nth (acells v22) 0, nth (acells v22) 1, nth (acells v22) 2]))))))))))) (bnd (lft (nilChkA (nth v12 0))) (fun v24 =>
  bnd (lft (fieldAddrA T 81 v24 3)) (fun v25 =>
  bnd (loadH T 3 v25) (fun v26 =>
  bnd (lft (binA T BinOp.add 3 v26 (AV.int IntKind.i64 1))) (fun v27 =>
  bnd (lft (nilChkA (nth v12 0))) (fun v28 =>
  bnd (lft (fieldAddrA T 81 v28 3)) (fun v29 =>
  bnd (storeH T 3 v29 v27) (fun v30 =>
  bnd (lft (fieldAddrA T 67 (nth v12 2) 5)) (fun v31 =>
  bnd (lft (loadA T 28 v31)) (fun v32 =>
  bnd (call 50 [nth v12 0, AV.agg [nth v12 10, nth v12 11, nth v12 12], v32]) (fun v33 =>
  bnd (cellsM 4 v33) (fun v34 =>
  bnd (lft (nilChkA (nth v12 0))) (fun v35 =>
  bnd (lft (fieldAddrA T 81 v35 3)) (fun v36 =>
  bnd (loadH T 3 v36) (fun v37 =>
  bnd (lft (binA T BinOp.sub 3 v37 (AV.int IntKind.i64 1))) (fun v38 =>
  bnd (lft (nilChkA (nth v12 0))) (fun v39 =>
  bnd (lft (fieldAddrA T 81 v39 3)) (fun v40 =>
  bnd (storeH T 3 v40 v38) (fun v41 =>
  bnd (lft (loadA T 39 (AV.ip (acells v34)))) (fun v42 =>
  bnd (cellsNil 4 [] v42) (fun v43 =>
  M.pure (AV.agg [nth (acells v43) 0, nth (acells v43) 1, nth (acells v43) 2, nth (acells v43) 3])))))))))))))))))))))))
noncomputable def K42_0 (call : FuncId → List AV → M AV) (fx : Fix AV) (v5 : List AV) : M AV :=
  bnd (lft (buildA T false 98 [(0, nth v5 1)])) (fun v6 =>
  bnd (cellsNil 3 [] v6) (fun v7 =>
  bnd (lft (fieldAddrA T 67 (nth v5 3) 2)) (fun v8 =>
  bnd (lft (loadA T 58 v8)) (fun v9 =>
  bnd (lft (lenA T 58 v9)) (fun v10 =>
  fx (L42_0 call fx) [nth v5 0, nth v5 2, nth v5 3, v9, v10, AV.int IntKind.i64 0, nth v5 4, nth v5 5, nth v5 6, nth v5 7, nth (acells v7) 0, nth (acells v7) 1, nth (acells v7) 2])))))
theorem XL42_0 {call : FuncId → List AV → M AV} : Cont1 (L42_0 call fixW ) fun _n => L42_0 call fixW  := by
  intro v11 v11s hself v12
  unfold L42_0
  exact (LimM.bnd (LimM.const _) fun _ => (condM_lim (LimM.bnd (LimM.const _) fun _ => (LimM.bnd (LimM.const _) fun _ => (LimM.bnd (LimM.const _) fun _ => (LimM.bnd (LimM.const _) fun _ => (LimM.bnd (LimM.const _) fun _ => (LimM.bnd (LimM.const _) fun _ => (LimM.bnd (LimM.const _) fun _ => (LimM.bnd (LimM.const _) fun _ => (LimM.bnd (LimM.const _) fun _ => (LimM.bnd (LimM.const _) fun _ => (hself _))))))))))) (LimM.const _)))
theorem FL42_0 (call : FuncId → List AV → M AV) (vs : List AV) : fixW (L42_0 call fixW ) vs = L42_0 call fixW  (fixW (L42_0 call fixW )) vs := fixW_eq (XL42_0 ) vs
noncomputable def S42 (call : FuncId → List AV → M AV) (fx : Fix AV) (a0 a1 a2 a3 : AV) : M AV :=
  bnd (lft (nilChkA a0)) (fun v0 =>
  bnd (lft (fieldAddrA T 81 v0 3)) (fun v1 =>
  bnd (loadH T 3 v1) (fun v2 =>
  bnd (lft (binA T BinOp.lss 3 v2 (AV.int IntKind.i64 60))) (fun v3 =>
  bnd (call 69 [v3, AV.int IntKind.i64 6]) (fun v4 =>
  jn (K42_0 call fx) (fun v44 =>
  bnd (lft (fieldAddrA T 67 (AV.ip (acells a2)) 1)) (fun v45 =>
  bnd (lft (loadA T 4 v45)) (fun v46 =>
  condM v46 (bnd (lft (nilChkA a0)) (fun v47 =>
  bnd (lft (fieldAddrA T 81 v47 4)) (fun v48 =>
  bnd (lft (fieldAddrA T 43 v48 3)) (fun v49 =>
  bnd (loadH T 41 v49) (fun v50 =>
  bnd (lft (nilChkA a0)) (fun v51 =>
  bnd (lft (fieldAddrA T 81 v51 0)) (fun v52 =>
  bnd (loadH T 22 v52) (fun v53 =>
  bnd (lft (indexAddrA T 22 v53 a1)) (fun v54 =>
  bnd (lft (fieldAddrA T 63 v54 0)) (fun v55 =>
  bnd (lft (loadA T 9 v55)) (fun v56 =>
  bnd (lft (fieldAddrA T 67 (AV.ip (acells a2)) 0)) (fun v57 =>
  bnd (lft (loadA T 9 v57)) (fun v58 =>
  bnd (call 39 [a3]) (fun v59 =>
  bnd (lft (buildA T false 69 [(0, v56), (1, v58), (2, v59)])) (fun v60 =>
  bnd (lft (buildSliceA T 41 1 [(0, v60)])) (fun v61 =>
  bnd (appH T 41 false v50 v61) (fun v62 =>
  bnd (lft (nilChkA a0)) (fun v63 =>
  bnd (lft (fieldAddrA T 81 v63 4)) (fun v64 =>
  bnd (lft (fieldAddrA T 43 v64 3)) (fun v65 =>
  bnd (storeH T 41 v65 v62) (fun v66 =>
  v44 [a0, a1, a3, AV.ip (acells a2), AV.int IntKind.i64 0, AV.int IntKind.i64 0, AV.sl [], AV.sl []]))))))))))))))))))))) (v44 [a0, a1, a3, AV.ip (acells a2), AV.int IntKind.i64 0, AV.int IntKind.i64 0, AV.sl [], AV.sl []])))))))))
theorem E42 (call : FuncId → List AV → M AV) (fx : Fix AV) (a0 a1 a2 a3 : AV) : evBody (pg.cx call Try.f42.ntmps ann42) fx Try.f42 (own 42) [a0, a1, a2, a3] = S42 call fx a0 a1 a2 a3 := by kernel_rfl
theorem C42 (a0 a1 a2 a3 : AV) : callW pg 42 [a0, a1, a2, a3] = S42 (callW pg) fixW a0 a1 a2 a3 := (callW_heap hOther rfl rfl rfl _).trans (E42 _ _ a0 a1 a2 a3)
noncomputable def S49 (call : FuncId → List AV → M AV) (fx : Fix AV) (a0 a1 a2 a3 : AV) : M AV :=
  bnd (lft (loadA T 79 a0)) (fun v0 =>
  bnd (lft (loadA T 25 a1)) (fun v1 =>
  bnd (lft (loadA T 23 a2)) (fun v2 =>
  bnd (lft (buildA T false 98 [(0, AV.int IntKind.i64 (-1)), (1, v1), (2, v2)])) (fun v3 =>
  bnd (lft (loadA T 28 a3)) (fun v4 =>
  bnd (call 50 [v0, v3, v4]) (fun v5 =>
  bnd (cellsNil 4 [] v5) (fun v6 =>
  M.pure (AV.agg [nth (acells v6) 0, nth (acells v6) 1, nth (acells v6) 2, nth (acells v6) 3]))))))))
theorem E49 (call : FuncId → List AV → M AV) (fx : Fix AV) (a0 a1 a2 a3 : AV) : evBody (pg.cx call Try.f49.ntmps ann49) fx Try.f49 (own 49) [a0, a1, a2, a3] = S49 call fx a0 a1 a2 a3 := by kernel_rfl
theorem C49 (a0 a1 a2 a3 : AV) : callW pg 49 [a0, a1, a2, a3] = S49 (callW pg) fixW a0 a1 a2 a3 := (callW_heap hOther rfl rfl rfl _).trans (E49 _ _ a0 a1 a2 a3)
noncomputable def L55_0 (call : FuncId → List AV → M AV) (fx : Fix AV) (v21 : List AV → M AV) (v22 : List AV) : M AV :=
  bnd (lft (fieldAddrA T 39 (nth v22 0) 2)) (fun v23 =>
  bnd (lft (loadA T 25 v23)) (fun v24 =>
  bnd (lft (lenA T 25 v24)) (fun v25 =>
  bnd (lft (binA T BinOp.lss 3 (nth v22 2) v25)) (fun v26 =>
  condM v26 (bnd (lft (fieldAddrA T 39 (nth v22 0) 2)) (fun v27 =>
  bnd (lft (loadA T 25 v27)) (fun v28 =>
  bnd (lft (indexAddrA T 25 v28 (nth v22 2))) (fun v29 =>
  bnd (lft (loadA T 9 v29)) (fun v30 =>
  bnd (lft (fieldAddrA T 39 (nth v22 1) 2)) (fun v31 =>
  bnd (lft (loadA T 25 v31)) (fun v32 =>
  bnd (lft (indexAddrA T 25 v32 (nth v22 2))) (fun v33 =>
  bnd (lft (loadA T 9 v33)) (fun v34 =>
  bnd (lft (binA T BinOp.neq 9 v30 v34)) (fun v35 =>
  bnd (guardM v35 false 1 (bnd (lft (fieldAddrA T 39 (nth v22 0) 3)) (fun v36 =>
  bnd (lft (loadA T 23 v36)) (fun v37 =>
  bnd (lft (indexAddrA T 23 v37 (nth v22 2))) (fun v38 =>
  bnd (lft (loadA T 39 v38)) (fun v39 =>
  bnd (lft (fieldAddrA T 39 (nth v22 1) 3)) (fun v40 =>
  bnd (lft (loadA T 23 v40)) (fun v41 =>
  bnd (lft (indexAddrA T 23 v41 (nth v22 2))) (fun v42 =>
  bnd (lft (loadA T 39 v42)) (fun v43 =>
  bnd (noPan (call 55 [v39, v43])) (fun v44 =>
  bnd (lft (unA UnOp.not v44)) (fun v45 =>
  M.pure [v45])))))))))))) (fun v46 =>
  bnd (lft (pickA v35 (AV.bool true) (nth v46 0))) (fun v47 =>
  condM v47 (M.pure (AV.bool false)) (bnd (lft (binA T BinOp.add 3 (nth v22 2) (AV.int IntKind.i64 1))) (fun v48 =>
  v21 [nth v22 0, nth v22 1, v48])))))))))))))) (M.pure (AV.bool true))))))
theorem XL55_0 {call : FuncId → List AV → M AV} : Cont1 (L55_0 call fixW ) fun _n => L55_0 call fixW  := by
  intro v21 v21s hself v22
  unfold L55_0
  exact (LimM.bnd (LimM.const _) fun _ => (LimM.bnd (LimM.const _) fun _ => (LimM.bnd (LimM.const _) fun _ => (LimM.bnd (LimM.const _) fun _ => (condM_lim (LimM.bnd (LimM.const _) fun _ => (LimM.bnd (LimM.const _) fun _ => (LimM.bnd (LimM.const _) fun _ => (LimM.bnd (LimM.const _) fun _ => (LimM.bnd (LimM.const _) fun _ => (LimM.bnd (LimM.const _) fun _ => (LimM.bnd (LimM.const _) fun _ => (LimM.bnd (LimM.const _) fun _ => (LimM.bnd (LimM.const _) fun _ => (LimM.bnd (LimM.const _) fun _ => (LimM.bnd (LimM.const _) fun _ => (condM_lim (LimM.const _) (LimM.bnd (LimM.const _) fun _ => (hself _)))))))))))))) (LimM.const _))))))
theorem FL55_0 (call : FuncId → List AV → M AV) (vs : List AV) : fixW (L55_0 call fixW ) vs = L55_0 call fixW  (fixW (L55_0 call fixW )) vs := fixW_eq (XL55_0 ) vs
noncomputable def S55 (call : FuncId → List AV → M AV) (fx : Fix AV) (a0 a1 : AV) : M AV :=
  bnd (lft (fieldAddrA T 39 (AV.ip (acells a0)) 0)) (fun v0 =>
  bnd (lft (loadA T 3 v0)) (fun v1 =>
  bnd (lft (fieldAddrA T 39 (AV.ip (acells a1)) 0)) (fun v2 =>
  bnd (lft (loadA T 3 v2)) (fun v3 =>
  bnd (lft (binA T BinOp.neq 3 v1 v3)) (fun v4 =>
  bnd (guardM v4 false 1 (bnd (lft (fieldAddrA T 39 (AV.ip (acells a0)) 1)) (fun v5 =>
  bnd (lft (loadA T 3 v5)) (fun v6 =>
  bnd (lft (fieldAddrA T 39 (AV.ip (acells a1)) 1)) (fun v7 =>
  bnd (lft (loadA T 3 v7)) (fun v8 =>
  bnd (lft (binA T BinOp.neq 3 v6 v8)) (fun v9 =>
  M.pure [v9]))))))) (fun v10 =>
  bnd (lft (pickA v4 (AV.bool true) (nth v10 0))) (fun v11 =>
  bnd (guardM v11 false 1 (bnd (lft (fieldAddrA T 39 (AV.ip (acells a0)) 2)) (fun v12 =>
  bnd (lft (loadA T 25 v12)) (fun v13 =>
  bnd (lft (lenA T 25 v13)) (fun v14 =>
  bnd (lft (fieldAddrA T 39 (AV.ip (acells a1)) 2)) (fun v15 =>
  bnd (lft (loadA T 25 v15)) (fun v16 =>
  bnd (lft (lenA T 25 v16)) (fun v17 =>
  bnd (lft (binA T BinOp.neq 3 v14 v17)) (fun v18 =>
  M.pure [v18]))))))))) (fun v19 =>
  bnd (lft (pickA v11 (AV.bool true) (nth v19 0))) (fun v20 =>
  condM v20 (M.pure (AV.bool false)) (fx (L55_0 call fx) [AV.ip (acells a0), AV.ip (acells a1), AV.int IntKind.i64 0]))))))))))
theorem E55 (call : FuncId → List AV → M AV) (fx : Fix AV) (a0 a1 : AV) : evBody (pg.cx call Try.f55.ntmps ann55) fx Try.f55 (own 55) [a0, a1] = S55 call fx a0 a1 := by kernel_rfl
theorem C55 (a0 a1 : AV) : callW pg 55 [a0, a1] = isoP (S55 (callW pg) fixW (cl noHs a0) (cl noHs a1)) := (callW_iso hOther rfl rfl rfl _).trans (congrArg isoP (E55 _ _ (cl noHs a0) (cl noHs a1)))
noncomputable def L57_0 (call : FuncId → List AV → M AV) (fx : Fix AV) (v2 : List AV → M AV) (v3 : List AV) : M AV :=
  bnd (lft (fieldAddrA T 65 (nth v3 2) 1)) (fun v4 =>
  bnd (lft (loadA T 58 v4)) (fun v5 =>
  bnd (lft (lenA T 58 v5)) (fun v6 =>
  bnd (lft (binA T BinOp.lss 3 (nth v3 4) v6)) (fun v7 =>
  bnd (guardM v7 true 1 (bnd (lft (binA T BinOp.leq 3 (nth v3 3) (nth v3 0))) (fun v8 =>
  M.pure [v8]))) (fun v9 =>
  bnd (lft (pickA v7 (nth v9 0) (AV.bool false))) (fun v10 =>
  condM v10 (bnd (lft (fieldAddrA T 65 (nth v3 2) 1)) (fun v11 =>
  bnd (lft (loadA T 58 v11)) (fun v12 =>
  bnd (lft (indexAddrA T 58 v12 (nth v3 4))) (fun v13 =>
  bnd (lft (fieldAddrA T 104 v13 1)) (fun v14 =>
  bnd (lft (loadA T 65 v14)) (fun v15 =>
  bnd (lft (binA T BinOp.sub 3 (nth v3 0) (nth v3 3))) (fun v16 =>
  bnd (lft (binA T BinOp.sub 3 (nth v3 1) (AV.int IntKind.i64 1))) (fun v17 =>
  bnd (call 57 [v15, v16, v17]) (fun v18 =>
  bnd (lft (binA T BinOp.add 3 (nth v3 3) v18)) (fun v19 =>
  bnd (lft (binA T BinOp.add 3 (nth v3 4) (AV.int IntKind.i64 1))) (fun v20 =>
  v2 [nth v3 0, nth v3 1, nth v3 2, v19, v20]))))))))))) (M.pure (nth v3 3))))))))
theorem XL57_0 {call : FuncId → List AV → M AV} : Cont1 (L57_0 call fixW ) fun _n => L57_0 call fixW  := by
  intro v2 v2s hself v3
  unfold L57_0
  exact (LimM.bnd (LimM.const _) fun _ => (LimM.bnd (LimM.const _) fun _ => (LimM.bnd (LimM.const _) fun _ => (LimM.bnd (LimM.const _) fun _ => (LimM.bnd (LimM.const _) fun _ => (LimM.bnd (LimM.const _) fun _ => (condM_lim (LimM.bnd (LimM.const _) fun _ => (LimM.bnd (LimM.const _) fun _ => (LimM.bnd (LimM.const _) fun _ => (LimM.bnd (LimM.const _) fun _ => (LimM.bnd (LimM.const _) fun _ => (LimM.bnd (LimM.const _) fun _ => (LimM.bnd (LimM.const _) fun _ => (LimM.bnd (LimM.const _) fun _ => (LimM.bnd (LimM.const _) fun _ => (LimM.bnd (LimM.const _) fun _ => (hself _))))))))))) (LimM.const _))))))))
theorem FL57_0 (call : FuncId → List AV → M AV) (vs : List AV) : fixW (L57_0 call fixW ) vs = L57_0 call fixW  (fixW (L57_0 call fixW )) vs := fixW_eq (XL57_0 ) vs
noncomputable def S57 (call : FuncId → List AV → M AV) (fx : Fix AV) (a0 a1 a2 : AV) : M AV :=
  bnd (lft (binA T BinOp.lss 3 a2 (AV.int IntKind.i64 1))) (fun v0 =>
  condM v0 (bnd (lft (binA T BinOp.add 3 a1 (AV.int IntKind.i64 1))) (fun v1 =>
  M.pure v1)) (fx (L57_0 call fx) [a1, a2, AV.ip (acells a0), AV.int IntKind.i64 1, AV.int IntKind.i64 0]))
theorem E57 (call : FuncId → List AV → M AV) (fx : Fix AV) (a0 a1 a2 : AV) : evBody (pg.cx call Try.f57.ntmps ann57) fx Try.f57 (own 57) [a0, a1, a2] = S57 call fx a0 a1 a2 := by kernel_rfl
theorem C57 (a0 a1 a2 : AV) : callW pg 57 [a0, a1, a2] = isoP (S57 (callW pg) fixW (cl noHs a0) (cl noHs a1) (cl noHs a2)) := (callW_iso hOther rfl rfl rfl _).trans (congrArg isoP (E57 _ _ (cl noHs a0) (cl noHs a1) (cl noHs a2)))
noncomputable def S58 (call : FuncId → List AV → M AV) (fx : Fix AV) (a0 a1 : AV) : M AV :=
  bnd (call 63 [a0, a1]) (fun v0 =>
  bnd (lft (binA T BinOp.geq 3 v0 (AV.int IntKind.i64 0))) (fun v1 =>
  M.pure v1))
theorem E58 (call : FuncId → List AV → M AV) (fx : Fix AV) (a0 a1 : AV) : evBody (pg.cx call Try.f58.ntmps ann58) fx Try.f58 (own 58) [a0, a1] = S58 call fx a0 a1 := by kernel_rfl
theorem C58 (a0 a1 : AV) : callW pg 58 [a0, a1] = isoP (S58 (callW pg) fixW (cl noHs a0) (cl noHs a1)) := (callW_iso hOther rfl rfl rfl _).trans (congrArg isoP (E58 _ _ (cl noHs a0) (cl noHs a1)))
noncomputable def S61 (call : FuncId → List AV → M AV) (fx : Fix AV) (a0 a1 : AV) : M AV :=
  bnd (lft (fieldAddrA T 47 (AV.ip (acells a1)) 0)) (fun v0 =>
  bnd (lft (loadA T 9 v0)) (fun v1 =>
  bnd (lft (fieldAddrA T 63 (AV.ip (acells a0)) 0)) (fun v2 =>
  bnd (lft (loadA T 9 v2)) (fun v3 =>
  bnd (lft (binA T BinOp.eql 9 v1 v3)) (fun v4 =>
  bnd (guardM v4 true 1 (bnd (lft (fieldAddrA T 47 (AV.ip (acells a1)) 1)) (fun v5 =>
  bnd (lft (loadA T 23 v5)) (fun v6 =>
  bnd (lft (lenA T 23 v6)) (fun v7 =>
  bnd (lft (fieldAddrA T 63 (AV.ip (acells a0)) 2)) (fun v8 =>
  bnd (lft (loadA T 58 v8)) (fun v9 =>
  bnd (lft (lenA T 58 v9)) (fun v10 =>
  bnd (lft (binA T BinOp.eql 3 v7 v10)) (fun v11 =>
  M.pure [v11]))))))))) (fun v12 =>
  bnd (lft (pickA v4 (nth v12 0) (AV.bool false))) (fun v13 =>
  bnd (guardM v13 true 1 (bnd (lft (fieldAddrA T 47 (AV.ip (acells a1)) 1)) (fun v14 =>
  bnd (lft (loadA T 23 v14)) (fun v15 =>
  bnd (call 37 [v15, AV.fn (Fn.func 62) [] []]) (fun v16 =>
  bnd (lft (unA UnOp.not v16)) (fun v17 =>
  M.pure [v17])))))) (fun v18 =>
  bnd (lft (pickA v13 (nth v18 0) (AV.bool false))) (fun v19 =>
  M.pure v19)))))))))
theorem E61 (call : FuncId → List AV → M AV) (fx : Fix AV) (a0 a1 : AV) : evBody (pg.cx call Try.f61.ntmps ann61) fx Try.f61 (own 61) [a0, a1] = S61 call fx a0 a1 := by kernel_rfl
theorem C61 (a0 a1 : AV) : callW pg 61 [a0, a1] = isoP (S61 (callW pg) fixW (cl noHs a0) (cl noHs a1)) := (callW_iso hOther rfl rfl rfl _).trans (congrArg isoP (E61 _ _ (cl noHs a0) (cl noHs a1)))
noncomputable def S62 (call : FuncId → List AV → M AV) (fx : Fix AV) (a0 : AV) : M AV :=
  bnd (lft (loadA T 39 (AV.ip (acells a0)))) (fun v0 =>
  bnd (call 21 [v0]) (fun v1 =>
  bnd (lft (unA UnOp.not v1)) (fun v2 =>
  M.pure v2)))
theorem E62 (call : FuncId → List AV → M AV) (fx : Fix AV) (a0 : AV) : evBody (pg.cx call Try.f62.ntmps ann62) fx Try.f62 (own 62) [a0] = S62 call fx a0 := by kernel_rfl
theorem C62 (a0 : AV) : callW pg 62 [a0] = isoP (S62 (callW pg) fixW (cl noHs a0)) := (callW_iso hOther rfl rfl rfl _).trans (congrArg isoP (E62 _ _ (cl noHs a0)))
noncomputable def L63_0 (call : FuncId → List AV → M AV) (fx : Fix AV) (v1 : List AV → M AV) (v2 : List AV) : M AV :=
  bnd (lft (binA T BinOp.lss 3 (nth v2 3) (nth v2 2))) (fun v3 =>
  condM v3 (bnd (lft (indexAddrA T 22 (nth v2 0) (nth v2 3))) (fun v4 =>
  bnd (lft (loadA T 63 v4)) (fun v5 =>
  bnd (callV call (nth v2 1) [v5]) (fun v6 =>
  condM v6 (M.pure (nth v2 3)) (bnd (lft (binA T BinOp.add 3 (nth v2 3) (AV.int IntKind.i64 1))) (fun v7 =>
  v1 [nth v2 0, nth v2 1, nth v2 2, v7])))))) (M.pure (AV.int IntKind.i64 (-1))))
theorem XL63_0 {call : FuncId → List AV → M AV} : Cont1 (L63_0 call fixW ) fun _n => L63_0 call fixW  := by
  intro v1 v1s hself v2
  unfold L63_0
  exact (LimM.bnd (LimM.const _) fun _ => (condM_lim (LimM.bnd (LimM.const _) fun _ => (LimM.bnd (LimM.const _) fun _ => (LimM.bnd (LimM.const _) fun _ => (condM_lim (LimM.const _) (LimM.bnd (LimM.const _) fun _ => (hself _)))))) (LimM.const _)))
theorem FL63_0 (call : FuncId → List AV → M AV) (vs : List AV) : fixW (L63_0 call fixW ) vs = L63_0 call fixW  (fixW (L63_0 call fixW )) vs := fixW_eq (XL63_0 ) vs
noncomputable def S63 (call : FuncId → List AV → M AV) (fx : Fix AV) (a0 a1 : AV) : M AV :=
  bnd (lft (lenA T 22 a0)) (fun v0 =>
  fx (L63_0 call fx) [a0, a1, v0, AV.int IntKind.i64 0])
theorem E63 (call : FuncId → List AV → M AV) (fx : Fix AV) (a0 a1 : AV) : evBody (pg.cx call Try.f63.ntmps ann63) fx Try.f63 (own 63) [a0, a1] = S63 call fx a0 a1 := by kernel_rfl
theorem C63 (a0 a1 : AV) : callW pg 63 [a0, a1] = isoP (S63 (callW pg) fixW (cl noHs a0) (cl noHs a1)) := (callW_iso hOther rfl rfl rfl _).trans (congrArg isoP (E63 _ _ (cl noHs a0) (cl noHs a1)))
noncomputable def S70 (call : FuncId → List AV → M AV) (fx : Fix AV) (a0 a1 a2 : AV) : M AV :=
  bnd (lft (fieldAddrA T 98 (AV.ip (acells a0)) 0)) (fun v0 =>
  bnd (lft (loadA T 3 v0)) (fun v1 =>
  bnd (lft (fieldAddrA T 98 (AV.ip (acells a0)) 1)) (fun v2 =>
  bnd (lft (loadA T 25 v2)) (fun v3 =>
  bnd (noPan (call 94 [v3])) (fun v4 =>
  bnd (lft (buildSliceA T 25 1 [(0, a1)])) (fun v5 =>
  bnd (lft (appA T 25 v4 v5)) (fun v6 =>
  bnd (lft (fieldAddrA T 98 (AV.ip (acells a0)) 2)) (fun v7 =>
  bnd (lft (loadA T 23 v7)) (fun v8 =>
  bnd (noPan (call 95 [v8])) (fun v9 =>
  bnd (lft (loadA T 39 (AV.ip (acells a2)))) (fun v10 =>
  bnd (lft (buildSliceA T 23 1 [(0, v10)])) (fun v11 =>
  bnd (lft (appA T 23 v9 v11)) (fun v12 =>
  bnd (lft (buildA T false 98 [(0, v1), (1, v6), (2, v12)])) (fun v13 =>
  bnd (cellsNil 3 [] v13) (fun v14 =>
  M.pure (AV.agg [nth (acells v14) 0, nth (acells v14) 1, nth (acells v14) 2]))))))))))))))))
theorem E70 (call : FuncId → List AV → M AV) (fx : Fix AV) (a0 a1 a2 : AV) : evBody (pg.cx call Try.f70.ntmps ann70) fx Try.f70 (own 70) [a0, a1, a2] = S70 call fx a0 a1 a2 := by kernel_rfl
theorem C70 (a0 a1 a2 : AV) : callW pg 70 [a0, a1, a2] = isoP (S70 (callW pg) fixW (cl noHs a0) (cl noHs a1) (cl noHs a2)) := (callW_iso hOther rfl rfl rfl _).trans (congrArg isoP (E70 _ _ (cl noHs a0) (cl noHs a1) (cl noHs a2)))
noncomputable def S74 (call : FuncId → List AV → M AV) (fx : Fix AV) (a0 : AV) : M AV :=
  bnd (lft (buildA T false 39 [(0, AV.int IntKind.i64 0), (1, a0)])) (fun v0 =>
  bnd (cellsNil 4 [] v0) (fun v1 =>
  M.pure (AV.agg [nth (acells v1) 0, nth (acells v1) 1, nth (acells v1) 2, nth (acells v1) 3])))
theorem E74 (call : FuncId → List AV → M AV) (fx : Fix AV) (a0 : AV) : evBody (pg.cx call Try.f74.ntmps ann74) fx Try.f74 (own 74) [a0] = S74 call fx a0 := by kernel_rfl
theorem C74 (a0 : AV) : callW pg 74 [a0] = isoP (S74 (callW pg) fixW (cl noHs a0)) := (callW_iso hOther rfl rfl rfl _).trans (congrArg isoP (E74 _ _ (cl noHs a0)))
noncomputable def S76 (call : FuncId → List AV → M AV) (fx : Fix AV) (a0 a1 a2 : AV) : M AV :=
  bnd (lft (binA T BinOp.eql 3 a0 (AV.int IntKind.i64 7))) (fun v0 =>
  condM v0 (bnd (lft (fieldAddrA T 39 (AV.ip (acells a1)) 0)) (fun v1 =>
  bnd (lft (loadA T 3 v1)) (fun v2 =>
  bnd (lft (fieldAddrA T 39 (AV.ip (acells a2)) 0)) (fun v3 =>
  bnd (lft (loadA T 3 v3)) (fun v4 =>
  bnd (lft (binA T BinOp.eql 3 v2 v4)) (fun v5 =>
  bnd (guardM v5 true 1 (bnd (lft (fieldAddrA T 39 (AV.ip (acells a1)) 0)) (fun v6 =>
  bnd (lft (loadA T 3 v6)) (fun v7 =>
  bnd (lft (binA T BinOp.neq 3 v7 (AV.int IntKind.i64 2))) (fun v8 =>
  M.pure [v8]))))) (fun v9 =>
  bnd (lft (pickA v5 (nth v9 0) (AV.bool false))) (fun v10 =>
  bnd (call 69 [v10, AV.int IntKind.i64 13]) (fun v11 =>
  bnd (lft (fieldAddrA T 39 (AV.ip (acells a1)) 1)) (fun v12 =>
  bnd (lft (loadA T 3 v12)) (fun v13 =>
  bnd (lft (fieldAddrA T 39 (AV.ip (acells a2)) 1)) (fun v14 =>
  bnd (lft (loadA T 3 v14)) (fun v15 =>
  bnd (lft (binA T BinOp.eql 3 v13 v15)) (fun v16 =>
  bnd (call 75 [v16]) (fun v17 =>
  bnd (cellsNil 4 [] v17) (fun v18 =>
  M.pure (AV.agg [nth (acells v18) 0, nth (acells v18) 1, nth (acells v18) 2, nth (acells v18) 3]))))))))))))))))) (bnd (lft (fieldAddrA T 39 (AV.ip (acells a1)) 0)) (fun v19 =>
  bnd (lft (loadA T 3 v19)) (fun v20 =>
  bnd (lft (binA T BinOp.eql 3 v20 (AV.int IntKind.i64 0))) (fun v21 =>
  bnd (guardM v21 true 1 (bnd (lft (fieldAddrA T 39 (AV.ip (acells a2)) 0)) (fun v22 =>
  bnd (lft (loadA T 3 v22)) (fun v23 =>
  bnd (lft (binA T BinOp.eql 3 v23 (AV.int IntKind.i64 0))) (fun v24 =>
  M.pure [v24]))))) (fun v25 =>
  bnd (lft (pickA v21 (nth v25 0) (AV.bool false))) (fun v26 =>
  bnd (call 69 [v26, AV.int IntKind.i64 13]) (fun v27 =>
  bnd (lft (binA T BinOp.eql 3 a0 (AV.int IntKind.i64 3))) (fun v28 =>
  condM v28 (bnd (lft (fieldAddrA T 39 (AV.ip (acells a1)) 1)) (fun v29 =>
  bnd (lft (loadA T 3 v29)) (fun v30 =>
  bnd (lft (fieldAddrA T 39 (AV.ip (acells a2)) 1)) (fun v31 =>
  bnd (lft (loadA T 3 v31)) (fun v32 =>
  bnd (lft (binA T BinOp.add 3 v30 v32)) (fun v33 =>
  bnd (call 74 [v33]) (fun v34 =>
  bnd (cellsNil 4 [] v34) (fun v35 =>
  M.pure (AV.agg [nth (acells v35) 0, nth (acells v35) 1, nth (acells v35) 2, nth (acells v35) 3]))))))))) (bnd (lft (binA T BinOp.eql 3 a0 (AV.int IntKind.i64 4))) (fun v36 =>
  condM v36 (bnd (lft (fieldAddrA T 39 (AV.ip (acells a1)) 1)) (fun v37 =>
  bnd (lft (loadA T 3 v37)) (fun v38 =>
  bnd (lft (fieldAddrA T 39 (AV.ip (acells a2)) 1)) (fun v39 =>
  bnd (lft (loadA T 3 v39)) (fun v40 =>
  bnd (lft (binA T BinOp.sub 3 v38 v40)) (fun v41 =>
  bnd (call 74 [v41]) (fun v42 =>
  bnd (cellsNil 4 [] v42) (fun v43 =>
  M.pure (AV.agg [nth (acells v43) 0, nth (acells v43) 1, nth (acells v43) 2, nth (acells v43) 3]))))))))) (bnd (lft (binA T BinOp.eql 3 a0 (AV.int IntKind.i64 5))) (fun v44 =>
  condM v44 (bnd (lft (fieldAddrA T 39 (AV.ip (acells a1)) 1)) (fun v45 =>
  bnd (lft (loadA T 3 v45)) (fun v46 =>
  bnd (lft (fieldAddrA T 39 (AV.ip (acells a2)) 1)) (fun v47 =>
  bnd (lft (loadA T 3 v47)) (fun v48 =>
  bnd (lft (binA T BinOp.mul 3 v46 v48)) (fun v49 =>
  bnd (call 74 [v49]) (fun v50 =>
  bnd (cellsNil 4 [] v50) (fun v51 =>
  M.pure (AV.agg [nth (acells v51) 0, nth (acells v51) 1, nth (acells v51) 2, nth (acells v51) 3]))))))))) (bnd (lft (fieldAddrA T 39 (AV.ip (acells a1)) 1)) (fun v52 =>
  bnd (lft (loadA T 3 v52)) (fun v53 =>
  bnd (lft (fieldAddrA T 39 (AV.ip (acells a2)) 1)) (fun v54 =>
  bnd (lft (loadA T 3 v54)) (fun v55 =>
  bnd (lft (binA T BinOp.lss 3 v53 v55)) (fun v56 =>
  bnd (call 75 [v56]) (fun v57 =>
  bnd (cellsNil 4 [] v57) (fun v58 =>
  M.pure (AV.agg [nth (acells v58) 0, nth (acells v58) 1, nth (acells v58) 2, nth (acells v58) 3]))))))))))))))))))))))
theorem E76 (call : FuncId → List AV → M AV) (fx : Fix AV) (a0 a1 a2 : AV) : evBody (pg.cx call Try.f76.ntmps ann76) fx Try.f76 (own 76) [a0, a1, a2] = S76 call fx a0 a1 a2 := by kernel_rfl
theorem C76 (a0 a1 a2 : AV) : callW pg 76 [a0, a1, a2] = S76 (callW pg) fixW a0 a1 a2 := (callW_heap hOther rfl rfl rfl _).trans (E76 _ _ a0 a1 a2)
noncomputable def L91_0 (call : FuncId → List AV → M AV) (fx : Fix AV) (v0 : List AV → M AV) (v1 : List AV) : M AV :=
  bnd (lft (lenA T 25 (nth v1 0))) (fun v2 =>
  bnd (lft (binA T BinOp.lss 3 (nth v1 1) v2)) (fun v3 =>
  condM v3 (bnd (lft (binA T BinOp.sub 3 (nth v1 1) (AV.int IntKind.i64 1))) (fun v4 =>
  bnd (lft (indexAddrA T 25 (nth v1 0) v4)) (fun v5 =>
  bnd (lft (loadA T 9 v5)) (fun v6 =>
  bnd (lft (indexAddrA T 25 (nth v1 0) (nth v1 1))) (fun v7 =>
  bnd (lft (loadA T 9 v7)) (fun v8 =>
  bnd (lft (binA T BinOp.geq 9 v6 v8)) (fun v9 =>
  condM v9 (M.pure (AV.bool false)) (bnd (lft (binA T BinOp.add 3 (nth v1 1) (AV.int IntKind.i64 1))) (fun v10 =>
  v0 [nth v1 0, v10]))))))))) (M.pure (AV.bool true))))
theorem XL91_0 {call : FuncId → List AV → M AV} : Cont1 (L91_0 call fixW ) fun _n => L91_0 call fixW  := by
  intro v0 v0s hself v1
  unfold L91_0
  exact (LimM.bnd (LimM.const _) fun _ => (LimM.bnd (LimM.const _) fun _ => (condM_lim (LimM.bnd (LimM.const _) fun _ => (LimM.bnd (LimM.const _) fun _ => (LimM.bnd (LimM.const _) fun _ => (LimM.bnd (LimM.const _) fun _ => (LimM.bnd (LimM.const _) fun _ => (LimM.bnd (LimM.const _) fun _ => (condM_lim (LimM.const _) (LimM.bnd (LimM.const _) fun _ => (hself _))))))))) (LimM.const _))))
theorem FL91_0 (call : FuncId → List AV → M AV) (vs : List AV) : fixW (L91_0 call fixW ) vs = L91_0 call fixW  (fixW (L91_0 call fixW )) vs := fixW_eq (XL91_0 ) vs
noncomputable def S91 (call : FuncId → List AV → M AV) (fx : Fix AV) (a0 : AV) : M AV :=
  fx (L91_0 call fx) [a0, AV.int IntKind.i64 1]
theorem E91 (call : FuncId → List AV → M AV) (fx : Fix AV) (a0 : AV) : evBody (pg.cx call Try.f91.ntmps ann91) fx Try.f91 (own 91) [a0] = S91 call fx a0 := by kernel_rfl
theorem C91 (a0 : AV) : callW pg 91 [a0] = isoP (S91 (callW pg) fixW (cl noHs a0)) := (callW_iso hOther rfl rfl rfl _).trans (congrArg isoP (E91 _ _ (cl noHs a0)))
noncomputable def S95 (call : FuncId → List AV → M AV) (fx : Fix AV) (a0 : AV) : M AV :=
  bnd (lft (lenA T 23 a0)) (fun v0 =>
  bnd (lft (lenA T 23 a0)) (fun v1 =>
  bnd (lft (sliceA T 23 a0 none (some v0) (some v1))) (fun v2 =>
  M.pure v2)))
theorem E95 (call : FuncId → List AV → M AV) (fx : Fix AV) (a0 : AV) : evBody (pg.cx call Try.f95.ntmps ann95) fx Try.f95 (own 95) [a0] = S95 call fx a0 := by kernel_rfl
theorem C95 (a0 : AV) : callW pg 95 [a0] = isoP (S95 (callW pg) fixW (cl noHs a0)) := (callW_iso hOther rfl rfl rfl _).trans (congrArg isoP (E95 _ _ (cl noHs a0)))
end Go.Proofs.Ytgbopmciiadmlaa
