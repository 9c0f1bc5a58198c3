/- Shallow programs of the functions, part 0: written by a program. No condition. -/
import Derived.Test.YtgbopmciiadmlaaAnn
namespace Go.Proofs.Ytgbopmciiadmlaa
open Go Go.Av
set_option maxRecDepth 100000
noncomputable def L8_0 (call : FuncId → List AV → M AV) (fx : Fix AV) (v13 : List AV → M AV) (v57 : List AV → M AV) (v58 : List AV) : M AV :=
  bnd (lft (indexAddrA T 22 (nth v58 0) (nth v58 2))) (fun v59 =>
  bnd (lft (fieldAddrA T 63 v59 4)) (fun v60 =>
  bnd (lft (loadA T 59 v60)) (fun v61 =>
  bnd (lft (lenA T 59 v61)) (fun v62 =>
  bnd (lft (binA T BinOp.lss 3 (nth v58 3) v62)) (fun v63 =>
  condM v63 (bnd (lft (indexAddrA T 22 (nth v58 0) (nth v58 2))) (fun v64 =>
  bnd (lft (fieldAddrA T 63 v64 4)) (fun v65 =>
  bnd (lft (loadA T 59 v65)) (fun v66 =>
  bnd (lft (indexAddrA T 59 v66 (nth v58 3))) (fun v67 =>
  bnd (lft (fieldAddrA T 67 v67 5)) (fun v68 =>
  bnd (lft (loadA T 28 v68)) (fun v69 =>
  bnd (call 9 [v69, AV.int IntKind.i64 40, AV.int IntKind.i64 16]) (fun v70 =>
  bnd (lft (binA T BinOp.gtr 3 v70 (AV.int IntKind.i64 40))) (fun v71 =>
  bnd (guardM v71 false 1 (bnd (lft (indexAddrA T 22 (nth v58 0) (nth v58 2))) (fun v72 =>
  bnd (lft (fieldAddrA T 63 v72 4)) (fun v73 =>
  bnd (lft (loadA T 59 v73)) (fun v74 =>
  bnd (lft (indexAddrA T 59 v74 (nth v58 3))) (fun v75 =>
  bnd (lft (fieldAddrA T 67 v75 2)) (fun v76 =>
  bnd (lft (loadA T 58 v76)) (fun v77 =>
  bnd (lft (lenA T 58 v77)) (fun v78 =>
  bnd (lft (binA T BinOp.gtr 3 v78 (AV.int IntKind.i64 8))) (fun v79 =>
  M.pure [v79])))))))))) (fun v80 =>
  bnd (lft (pickA v71 (AV.bool true) (nth v80 0))) (fun v81 =>
  condM v81 (M.pure (AV.bool false)) (bnd (lft (binA T BinOp.add 3 (nth v58 3) (AV.int IntKind.i64 1))) (fun v82 =>
  v57 [nth v58 0, nth v58 1, nth v58 2, v82]))))))))))))) (bnd (lft (binA T BinOp.add 3 (nth v58 2) (AV.int IntKind.i64 1))) (fun v83 =>
  v13 [nth v58 0, nth v58 1, v83])))))))
noncomputable def L8_1 (call : FuncId → List AV → M AV) (fx : Fix AV) (v13 : List AV → M AV) (v42 : List AV → M AV) (v43 : List AV) : M AV :=
  bnd (lft (indexAddrA T 22 (nth v43 0) (nth v43 2))) (fun v44 =>
  bnd (lft (fieldAddrA T 63 v44 3)) (fun v45 =>
  bnd (lft (loadA T 26 v45)) (fun v46 =>
  bnd (lft (lenA T 26 v46)) (fun v47 =>
  bnd (lft (binA T BinOp.lss 3 (nth v43 3) v47)) (fun v48 =>
  condM v48 (bnd (lft (indexAddrA T 22 (nth v43 0) (nth v43 2))) (fun v49 =>
  bnd (lft (fieldAddrA T 63 v49 3)) (fun v50 =>
  bnd (lft (loadA T 26 v50)) (fun v51 =>
  bnd (lft (indexAddrA T 26 v51 (nth v43 3))) (fun v52 =>
  bnd (lft (loadA T 28 v52)) (fun v53 =>
  bnd (call 9 [v53, AV.int IntKind.i64 40, AV.int IntKind.i64 16]) (fun v54 =>
  bnd (lft (binA T BinOp.gtr 3 v54 (AV.int IntKind.i64 40))) (fun v55 =>
  condM v55 (M.pure (AV.bool false)) (bnd (lft (binA T BinOp.add 3 (nth v43 3) (AV.int IntKind.i64 1))) (fun v56 =>
  v42 [nth v43 0, nth v43 1, nth v43 2, v56])))))))))) (fx (L8_0 call fx v13) [nth v43 0, nth v43 1, nth v43 2, AV.int IntKind.i64 0]))))))
noncomputable def L8_2 (call : FuncId → List AV → M AV) (fx : Fix AV) (v84 : List AV → M AV) (v85 : List AV) : M AV :=
  bnd (lft (lenA T 23 (nth v85 0))) (fun v86 =>
  bnd (lft (binA T BinOp.lss 3 (nth v85 1) v86)) (fun v87 =>
  condM v87 (bnd (lft (indexAddrA T 23 (nth v85 0) (nth v85 1))) (fun v88 =>
  bnd (lft (loadA T 39 v88)) (fun v89 =>
  bnd (call 31 [v89, AV.int IntKind.i64 40, AV.int IntKind.i64 8]) (fun v90 =>
  bnd (lft (binA T BinOp.gtr 3 v90 (AV.int IntKind.i64 40))) (fun v91 =>
  condM v91 (M.pure (AV.bool false)) (bnd (lft (binA T BinOp.add 3 (nth v85 1) (AV.int IntKind.i64 1))) (fun v92 =>
  v84 [nth v85 0, v92]))))))) (M.pure (AV.bool true))))
noncomputable def L8_3 (call : FuncId → List AV → M AV) (fx : Fix AV) (v13 : List AV → M AV) (v14 : List AV) : M AV :=
  bnd (lft (lenA T 22 (nth v14 0))) (fun v15 =>
  bnd (lft (binA T BinOp.lss 3 (nth v14 2) v15)) (fun v16 =>
  condM v16 (bnd (lft (indexAddrA T 22 (nth v14 0) (nth v14 2))) (fun v17 =>
  bnd (lft (fieldAddrA T 63 v17 2)) (fun v18 =>
  bnd (lft (loadA T 58 v18)) (fun v19 =>
  bnd (lft (lenA T 58 v19)) (fun v20 =>
  bnd (lft (binA T BinOp.gtr 3 v20 (AV.int IntKind.i64 4))) (fun v21 =>
  bnd (guardM v21 false 1 (bnd (lft (indexAddrA T 22 (nth v14 0) (nth v14 2))) (fun v22 =>
  bnd (lft (fieldAddrA T 63 v22 3)) (fun v23 =>
  bnd (lft (loadA T 26 v23)) (fun v24 =>
  bnd (lft (lenA T 26 v24)) (fun v25 =>
  bnd (lft (binA T BinOp.gtr 3 v25 (AV.int IntKind.i64 6))) (fun v26 =>
  M.pure [v26]))))))) (fun v27 =>
  bnd (lft (pickA v21 (AV.bool true) (nth v27 0))) (fun v28 =>
  bnd (guardM v28 false 1 (bnd (lft (indexAddrA T 22 (nth v14 0) (nth v14 2))) (fun v29 =>
  bnd (lft (fieldAddrA T 63 v29 4)) (fun v30 =>
  bnd (lft (loadA T 59 v30)) (fun v31 =>
  bnd (lft (lenA T 59 v31)) (fun v32 =>
  bnd (lft (binA T BinOp.gtr 3 v32 (AV.int IntKind.i64 4))) (fun v33 =>
  M.pure [v33]))))))) (fun v34 =>
  bnd (lft (pickA v28 (AV.bool true) (nth v34 0))) (fun v35 =>
  bnd (guardM v35 false 1 (bnd (lft (indexAddrA T 22 (nth v14 0) (nth v14 2))) (fun v36 =>
  bnd (lft (loadA T 63 v36)) (fun v37 =>
  bnd (call 30 [v37]) (fun v38 =>
  bnd (lft (unA UnOp.not v38)) (fun v39 =>
  M.pure [v39])))))) (fun v40 =>
  bnd (lft (pickA v35 (AV.bool true) (nth v40 0))) (fun v41 =>
  condM v41 (M.pure (AV.bool false)) (fx (L8_1 call fx v13) [nth v14 0, nth v14 1, nth v14 2, AV.int IntKind.i64 0]))))))))))))) (fx (L8_2 call fx) [nth v14 1, AV.int IntKind.i64 0])))
theorem XL8_0 {call : FuncId → List AV → M AV} {v13 : List AV → M AV} {v13s : Nat → List AV → M AV} (hv13 : LimF v13 fun n => v13s n) : Cont1 (L8_0 call fixW v13) fun n => L8_0 call fixW (v13s n) := by
  intro v57 v57s hself v58
  unfold L8_0
  exact (LimM.bnd (LimM.const _) fun _ => (LimM.bnd (LimM.const _) fun _ => (LimM.bnd (LimM.const _) fun _ => (LimM.bnd (LimM.const _) fun _ => (LimM.bnd (LimM.const _) fun _ => (condM_lim (LimM.bnd (LimM.const _) fun _ => (LimM.bnd (LimM.const _) fun _ => (LimM.bnd (LimM.const _) fun _ => (LimM.bnd (LimM.const _) fun _ => (LimM.bnd (LimM.const _) fun _ => (LimM.bnd (LimM.const _) fun _ => (LimM.bnd (LimM.const _) fun _ => (LimM.bnd (LimM.const _) fun _ => (LimM.bnd (LimM.const _) fun _ => (LimM.bnd (LimM.const _) fun _ => (condM_lim (LimM.const _) (LimM.bnd (LimM.const _) fun _ => (hself _))))))))))))) (LimM.bnd (LimM.const _) fun _ => (hv13 _))))))))
theorem YL8_0 {call : FuncId → List AV → M AV} {v13 : List AV → M AV} {v13s : Nat → List AV → M AV} (hv13 : LimF v13 fun n => v13s n) : LimF (fixW (L8_0 call fixW v13)) fun n => fixW (L8_0 call fixW (v13s n)) := fixW_limF (XL8_0 hv13) (XL8_0 (LimF.const _)) fun _ => XL8_0 (LimF.const _)
theorem FL8_0 (call : FuncId → List AV → M AV) (v13 : List AV → M AV) (vs : List AV) : fixW (L8_0 call fixW v13) vs = L8_0 call fixW v13 (fixW (L8_0 call fixW v13)) vs := fixW_eq (XL8_0 (LimF.const _)) vs
theorem XL8_1 {call : FuncId → List AV → M AV} {v13 : List AV → M AV} {v13s : Nat → List AV → M AV} (hv13 : LimF v13 fun n => v13s n) : Cont1 (L8_1 call fixW v13) fun n => L8_1 call fixW (v13s n) := by
  intro v42 v42s hself v43
  unfold L8_1
  exact (LimM.bnd (LimM.const _) fun _ => (LimM.bnd (LimM.const _) fun _ => (LimM.bnd (LimM.const _) fun _ => (LimM.bnd (LimM.const _) fun _ => (LimM.bnd (LimM.const _) fun _ => (condM_lim (LimM.bnd (LimM.const _) fun _ => (LimM.bnd (LimM.const _) fun _ => (LimM.bnd (LimM.const _) fun _ => (LimM.bnd (LimM.const _) fun _ => (LimM.bnd (LimM.const _) fun _ => (LimM.bnd (LimM.const _) fun _ => (LimM.bnd (LimM.const _) fun _ => (condM_lim (LimM.const _) (LimM.bnd (LimM.const _) fun _ => (hself _)))))))))) ((YL8_0 hv13) _)))))))
theorem YL8_1 {call : FuncId → List AV → M AV} {v13 : List AV → M AV} {v13s : Nat → List AV → M AV} (hv13 : LimF v13 fun n => v13s n) : LimF (fixW (L8_1 call fixW v13)) fun n => fixW (L8_1 call fixW (v13s n)) := fixW_limF (XL8_1 hv13) (XL8_1 (LimF.const _)) fun _ => XL8_1 (LimF.const _)
theorem FL8_1 (call : FuncId → List AV → M AV) (v13 : List AV → M AV) (vs : List AV) : fixW (L8_1 call fixW v13) vs = L8_1 call fixW v13 (fixW (L8_1 call fixW v13)) vs := fixW_eq (XL8_1 (LimF.const _)) vs
theorem XL8_2 {call : FuncId → List AV → M AV} : Cont1 (L8_2 call fixW ) fun _n => L8_2 call fixW  := by
  intro v84 v84s hself v85
  unfold L8_2
  exact (LimM.bnd (LimM.const _) fun _ => (LimM.bnd (LimM.const _) fun _ => (condM_lim (LimM.bnd (LimM.const _) fun _ => (LimM.bnd (LimM.const _) fun _ => (LimM.bnd (LimM.const _) fun _ => (LimM.bnd (LimM.const _) fun _ => (condM_lim (LimM.const _) (LimM.bnd (LimM.const _) fun _ => (hself _))))))) (LimM.const _))))
theorem FL8_2 (call : FuncId → List AV → M AV) (vs : List AV) : fixW (L8_2 call fixW ) vs = L8_2 call fixW  (fixW (L8_2 call fixW )) vs := fixW_eq (XL8_2 ) vs
theorem XL8_3 {call : FuncId → List AV → M AV} : Cont1 (L8_3 call fixW ) fun _n => L8_3 call fixW  := by
  intro v13 v13s hself v14
  unfold L8_3
  exact (LimM.bnd (LimM.const _) fun _ => (LimM.bnd (LimM.const _) fun _ => (condM_lim (LimM.bnd (LimM.const _) fun _ => (LimM.bnd (LimM.const _) fun _ => (LimM.bnd (LimM.const _) fun _ => (LimM.bnd (LimM.const _) fun _ => (LimM.bnd (LimM.const _) fun _ => (LimM.bnd (LimM.const _) fun _ => (LimM.bnd (LimM.const _) fun _ => (LimM.bnd (LimM.const _) fun _ => (LimM.bnd (LimM.const _) fun _ => (LimM.bnd (LimM.const _) fun _ => (LimM.bnd (LimM.const _) fun _ => (condM_lim (LimM.const _) ((YL8_1 hself) _))))))))))))) (LimM.const _))))
theorem FL8_3 (call : FuncId → List AV → M AV) (vs : List AV) : fixW (L8_3 call fixW ) vs = L8_3 call fixW  (fixW (L8_3 call fixW )) vs := fixW_eq (XL8_3 ) vs
noncomputable def S8 (call : FuncId → List AV → M AV) (fx : Fix AV) (a0 a1 a2 a3 : AV) : M AV :=
  bnd (lft (lenA T 22 a0)) (fun v0 =>
  bnd (lft (binA T BinOp.gtr 3 v0 (AV.int IntKind.i64 4))) (fun v1 =>
  bnd (guardM v1 false 1 (bnd (lft (lenA T 23 a1)) (fun v2 =>
  bnd (lft (binA T BinOp.gtr 3 v2 (AV.int IntKind.i64 8))) (fun v3 =>
  M.pure [v3])))) (fun v4 =>
  bnd (lft (pickA v1 (AV.bool true) (nth v4 0))) (fun v5 =>
  bnd (guardM v5 false 1 (bnd (lft (lenA T 24 a2)) (fun v6 =>
  bnd (lft (binA T BinOp.gtr 3 v6 (AV.int IntKind.i64 30))) (fun v7 =>
  M.pure [v7])))) (fun v8 =>
  bnd (lft (pickA v5 (AV.bool true) (nth v8 0))) (fun v9 =>
  bnd (guardM v9 false 1 (bnd (lft (binA T BinOp.gtr 3 a3 (AV.int IntKind.i64 2000))) (fun v10 =>
  M.pure [v10]))) (fun v11 =>
  bnd (lft (pickA v9 (AV.bool true) (nth v11 0))) (fun v12 =>
  condM v12 (M.pure (AV.bool false)) (fx (L8_3 call fx) [a0, a1, AV.int IntKind.i64 0])))))))))
theorem E8 (call : FuncId → List AV → M AV) (fx : Fix AV) (a0 a1 a2 a3 : AV) : evBody (pg.cx call Try.f8.ntmps ann8) fx Try.f8 (own 8) [a0, a1, a2, a3] = S8 call fx a0 a1 a2 a3 := by kernel_rfl
theorem C8 (a0 a1 a2 a3 : AV) : callW pg 8 [a0, a1, a2, a3] = isoP (S8 (callW pg) fixW (cl noHs a0) (cl noHs a1) (cl noHs a2) (cl noHs a3)) := (callW_iso hOther rfl rfl rfl _).trans (congrArg isoP (E8 _ _ (cl noHs a0) (cl noHs a1) (cl noHs a2) (cl noHs a3)))
noncomputable def S14 (call : FuncId → List AV → M AV) (fx : Fix AV) (a0 a1 a2 a3 a4 a5 : AV) : M AV :=
  bnd (call 10 [a0]) (fun v0 =>
  bnd (lft (extractA v0 0)) (fun v1 =>
  bnd (lft (extractA v0 1)) (fun v2 =>
  bnd (lft (binA T BinOp.neq 33 v2 (AV.int IntKind.i64 0))) (fun v3 =>
  condM v3 (bnd (lft (buildA T false 43 [(0, v2)])) (fun v4 =>
  bnd (cellsNil 8 [] v4) (fun v5 =>
  M.pure (AV.agg [nth (acells v5) 0, nth (acells v5) 1, nth (acells v5) 2, nth (acells v5) 3, nth (acells v5) 4, nth (acells v5) 5, nth (acells v5) 6, nth (acells v5) 7])))) (bnd (call 17 [a0, v1, a1, a2, a3, a4, a5]) (fun v6 =>
  bnd (cellsNil 8 [] v6) (fun v7 =>
  M.pure (AV.agg [nth (acells v7) 0, nth (acells v7) 1, nth (acells v7) 2, nth (acells v7) 3, nth (acells v7) 4, nth (acells v7) 5, nth (acells v7) 6, nth (acells v7) 7]))))))))
theorem E14 (call : FuncId → List AV → M AV) (fx : Fix AV) (a0 a1 a2 a3 a4 a5 : AV) : evBody (pg.cx call Try.f14.ntmps ann14) fx Try.f14 (own 14) [a0, a1, a2, a3, a4, a5] = S14 call fx a0 a1 a2 a3 a4 a5 := by kernel_rfl
theorem C14 (a0 a1 a2 a3 a4 a5 : AV) : callW pg 14 [a0, a1, a2, a3, a4, a5] = isoP (S14 (callW pg) fixW (cl noHs a0) (cl noHs a1) (cl noHs a2) (cl noHs a3) (cl noHs a4) (cl noHs a5)) := (callW_iso hOther rfl rfl rfl _).trans (congrArg isoP (E14 _ _ (cl noHs a0) (cl noHs a1) (cl noHs a2) (cl noHs a3) (cl noHs a4) (cl noHs a5)))
noncomputable def L16_0 (call : FuncId → List AV → M AV) (fx : Fix AV) (v0 : List AV → M AV) (v1 : List AV) : M AV :=
  bnd (lft (lenA T 32 (nth v1 0))) (fun v2 =>
  bnd (lft (binA T BinOp.lss 3 (nth v1 2) v2)) (fun v3 =>
  condM v3 (bnd (lft (indexAddrA T 32 (nth v1 0) (nth v1 2))) (fun v4 =>
  bnd (lft (fieldAddrA T 47 v4 0)) (fun v5 =>
  bnd (lft (loadA T 9 v5)) (fun v6 =>
  bnd (lft (buildSliceA T 23 0 [])) (fun v7 =>
  bnd (lft (indexAddrA T 32 (nth v1 0) (nth v1 2))) (fun v8 =>
  bnd (lft (fieldAddrA T 47 v8 1)) (fun v9 =>
  bnd (lft (loadA T 23 v9)) (fun v10 =>
  bnd (appH T 23 true v7 v10) (fun v11 =>
  bnd (lft (buildA T false 47 [(0, v6), (1, v11)])) (fun v12 =>
  bnd (lft (buildSliceA T 32 1 [(0, v12)])) (fun v13 =>
  bnd (appH T 32 false (nth v1 1) v13) (fun v14 =>
  bnd (lft (binA T BinOp.add 3 (nth v1 2) (AV.int IntKind.i64 1))) (fun v15 =>
  v0 [nth v1 0, v14, v15]))))))))))))) (M.pure (nth v1 1))))
theorem XL16_0 {call : FuncId → List AV → M AV} : Cont1 (L16_0 call fixW ) fun _n => L16_0 call fixW  := by
  intro v0 v0s hself v1
  unfold L16_0
  exact (LimM.bnd (LimM.const _) fun _ => (LimM.bnd (LimM.const _) fun _ => (condM_lim (LimM.bnd (LimM.const _) fun _ => (LimM.bnd (LimM.const _) fun _ => (LimM.bnd (LimM.const _) fun _ => (LimM.bnd (LimM.const _) fun _ => (LimM.bnd (LimM.const _) fun _ => (LimM.bnd (LimM.const _) fun _ => (LimM.bnd (LimM.const _) fun _ => (LimM.bnd (LimM.const _) fun _ => (LimM.bnd (LimM.const _) fun _ => (LimM.bnd (LimM.const _) fun _ => (LimM.bnd (LimM.const _) fun _ => (LimM.bnd (LimM.const _) fun _ => (hself _))))))))))))) (LimM.const _))))
theorem FL16_0 (call : FuncId → List AV → M AV) (vs : List AV) : fixW (L16_0 call fixW ) vs = L16_0 call fixW  (fixW (L16_0 call fixW )) vs := fixW_eq (XL16_0 ) vs
noncomputable def S16 (call : FuncId → List AV → M AV) (fx : Fix AV) (a0 : AV) : M AV :=
  fx (L16_0 call fx) [a0, AV.hn, AV.int IntKind.i64 0]
theorem E16 (call : FuncId → List AV → M AV) (fx : Fix AV) (a0 : AV) : evBody (pg.cx call Try.f16.ntmps ann16) fx Try.f16 (own 16) [a0] = S16 call fx a0 := by kernel_rfl
theorem C16 (a0 : AV) : callW pg 16 [a0] = S16 (callW pg) fixW a0 := (callW_heap hOther rfl rfl rfl _).trans (E16 _ _ a0)
noncomputable def S19 (call : FuncId → List AV → M AV) (fx : Fix AV) (a0 a1 a2 : AV) : M AV :=
  bnd (lft (loadA T 25 (AV.ip (acells a1)))) (fun v0 =>
  bnd (lft (lenA T 25 v0)) (fun v1 =>
  bnd (lft (loadA T 23 (AV.ip (acells a2)))) (fun v2 =>
  bnd (lft (lenA T 23 v2)) (fun v3 =>
  bnd (lft (binA T BinOp.neq 3 v1 v3)) (fun v4 =>
  bnd (guardM v4 false 1 (bnd (lft (loadA T 23 (AV.ip (acells a2)))) (fun v5 =>
  bnd (call 37 [v5, AV.fn (Fn.func 48) [] []]) (fun v6 =>
  M.pure [v6])))) (fun v7 =>
  bnd (lft (pickA v4 (AV.bool true) (nth v7 0))) (fun v8 =>
  condM v8 (bnd (lft (buildA T false 39 [])) (fun v9 =>
  bnd (cellsNil 4 [] v9) (fun v10 =>
  M.pure (AV.tup [AV.agg [nth (acells v10) 0, nth (acells v10) 1, nth (acells v10) 2, nth (acells v10) 3], AV.int IntKind.i64 1])))) (bnd (lft (buildA T true 81 [(2, AV.int IntKind.i64 100000)])) (fun v11 =>
  bnd (newH (acells v11)) (fun v12 =>
  bnd (cellsM 1 v12) (fun v13 =>
  bnd (call 40 [AV.fn (Fn.func 49) [] [AV.ip (acells v13), AV.ip (acells a1), AV.ip (acells a2), AV.ip (acells a0)]]) (fun v14 =>
  bnd (lft (extractA v14 0)) (fun v15 =>
  bnd (lft (extractA v14 1)) (fun v16 =>
  bnd (cellsNil 4 [] v15) (fun v17 =>
  M.pure (AV.tup [AV.agg [nth (acells v17) 0, nth (acells v17) 1, nth (acells v17) 2, nth (acells v17) 3], v16]))))))))))))))))
theorem E19 (call : FuncId → List AV → M AV) (fx : Fix AV) (a0 a1 a2 : AV) : evBody (pg.cx call Try.f19.ntmps ann19) fx Try.f19 (own 19) [a0, a1, a2] = S19 call fx a0 a1 a2 := by kernel_rfl
theorem C19 (a0 a1 a2 : AV) : callW pg 19 [a0, a1, a2] = isoP (S19 (callW pg) fixW (cl noHs a0) (cl noHs a1) (cl noHs a2)) := (callW_iso hOther rfl rfl rfl _).trans (congrArg isoP (E19 _ _ (cl noHs a0) (cl noHs a1) (cl noHs a2)))
noncomputable def S22 (call : FuncId → List AV → M AV) (fx : Fix AV) (a0 : AV) : M AV :=
  bnd (lft (loadA T 39 (AV.ip (acells a0)))) (fun v0 =>
  bnd (call 53 [v0, AV.int IntKind.i64 4]) (fun v1 =>
  M.pure v1))
theorem E22 (call : FuncId → List AV → M AV) (fx : Fix AV) (a0 : AV) : evBody (pg.cx call Try.f22.ntmps ann22) fx Try.f22 (own 22) [a0] = S22 call fx a0 := by kernel_rfl
theorem C22 (a0 : AV) : callW pg 22 [a0] = isoP (S22 (callW pg) fixW (cl noHs a0)) := (callW_iso hOther rfl rfl rfl _).trans (congrArg isoP (E22 _ _ (cl noHs a0)))
noncomputable def L30_0 (call : FuncId → List AV → M AV) (fx : Fix AV) (v47 : List AV → M AV) (v48 : List AV) : M AV :=
  bnd (lft (lenA T 26 (nth v48 1))) (fun v49 =>
  bnd (lft (binA T BinOp.lss 3 (nth v48 2) v49)) (fun v50 =>
  condM v50 (bnd (lft (indexAddrA T 26 (nth v48 1) (nth v48 2))) (fun v51 =>
  bnd (lft (loadA T 28 v51)) (fun v52 =>
  bnd (call 9 [v52, AV.int IntKind.i64 40, AV.int IntKind.i64 16]) (fun v53 =>
  bnd (lft (binA T BinOp.gtr 3 v53 (AV.int IntKind.i64 40))) (fun v54 =>
  condM v54 (M.pure (AV.bool false)) (bnd (lft (binA T BinOp.add 3 (nth v48 2) (AV.int IntKind.i64 1))) (fun v55 =>
  v47 [nth v48 0, nth v48 1, v55]))))))) (bnd (lft (fieldAddrA T 63 (nth v48 0) 1)) (fun v56 =>
  bnd (lft (loadA T 25 v56)) (fun v57 =>
  bnd (lft (lenA T 25 v57)) (fun v58 =>
  bnd (lft (binA T BinOp.leq 3 v58 (AV.int IntKind.i64 12))) (fun v59 =>
  bnd (guardM v59 true 1 (bnd (lft (fieldAddrA T 63 (nth v48 0) 2)) (fun v60 =>
  bnd (lft (loadA T 58 v60)) (fun v61 =>
  bnd (call 56 [v61]) (fun v62 =>
  M.pure [v62]))))) (fun v63 =>
  bnd (lft (pickA v59 (nth v63 0) (AV.bool false))) (fun v64 =>
  bnd (guardM v64 true 1 (bnd (lft (fieldAddrA T 63 (nth v48 0) 6)) (fun v65 =>
  bnd (lft (fieldAddrA T 61 v65 0)) (fun v66 =>
  bnd (lft (loadA T 58 v66)) (fun v67 =>
  bnd (call 56 [v67]) (fun v68 =>
  M.pure [v68])))))) (fun v69 =>
  bnd (lft (pickA v64 (nth v69 0) (AV.bool false))) (fun v70 =>
  bnd (guardM v70 true 1 (bnd (lft (fieldAddrA T 63 (nth v48 0) 6)) (fun v71 =>
  bnd (lft (fieldAddrA T 61 v71 1)) (fun v72 =>
  bnd (lft (loadA T 26 v72)) (fun v73 =>
  bnd (lft (lenA T 26 v73)) (fun v74 =>
  bnd (lft (binA T BinOp.leq 3 v74 (AV.int IntKind.i64 6))) (fun v75 =>
  M.pure [v75]))))))) (fun v76 =>
  bnd (lft (pickA v70 (nth v76 0) (AV.bool false))) (fun v77 =>
  bnd (guardM v77 true 1 (bnd (lft (fieldAddrA T 63 (nth v48 0) 6)) (fun v78 =>
  bnd (lft (fieldAddrA T 61 v78 2)) (fun v79 =>
  bnd (lft (loadA T 26 v79)) (fun v80 =>
  bnd (lft (lenA T 26 v80)) (fun v81 =>
  bnd (lft (binA T BinOp.leq 3 v81 (AV.int IntKind.i64 6))) (fun v82 =>
  M.pure [v82]))))))) (fun v83 =>
  bnd (lft (pickA v77 (nth v83 0) (AV.bool false))) (fun v84 =>
  M.pure v84)))))))))))))))
noncomputable def L30_1 (call : FuncId → List AV → M AV) (fx : Fix AV) (v0 : List AV → M AV) (v1 : List AV) : M AV :=
  bnd (lft (fieldAddrA T 63 (nth v1 0) 4)) (fun v2 =>
  bnd (lft (loadA T 59 v2)) (fun v3 =>
  bnd (lft (lenA T 59 v3)) (fun v4 =>
  bnd (lft (binA T BinOp.lss 3 (nth v1 1) v4)) (fun v5 =>
  bnd (guardM v5 true 1 (bnd (lft (binA T BinOp.lss 3 (nth v1 1) (AV.int IntKind.i64 9))) (fun v6 =>
  M.pure [v6]))) (fun v7 =>
  bnd (lft (pickA v5 (nth v7 0) (AV.bool false))) (fun v8 =>
  condM v8 (bnd (lft (fieldAddrA T 63 (nth v1 0) 4)) (fun v9 =>
  bnd (lft (loadA T 59 v9)) (fun v10 =>
  bnd (lft (indexAddrA T 59 v10 (nth v1 1))) (fun v11 =>
  bnd (lft (fieldAddrA T 67 v11 2)) (fun v12 =>
  bnd (lft (loadA T 58 v12)) (fun v13 =>
  bnd (call 56 [v13]) (fun v14 =>
  bnd (lft (unA UnOp.not v14)) (fun v15 =>
  bnd (guardM v15 false 1 (bnd (lft (fieldAddrA T 63 (nth v1 0) 4)) (fun v16 =>
  bnd (lft (loadA T 59 v16)) (fun v17 =>
  bnd (lft (indexAddrA T 59 v17 (nth v1 1))) (fun v18 =>
  bnd (lft (fieldAddrA T 67 v18 3)) (fun v19 =>
  bnd (lft (loadA T 65 v19)) (fun v20 =>
  bnd (call 57 [v20, AV.int IntKind.i64 20, AV.int IntKind.i64 8]) (fun v21 =>
  bnd (lft (binA T BinOp.gtr 3 v21 (AV.int IntKind.i64 20))) (fun v22 =>
  M.pure [v22]))))))))) (fun v23 =>
  bnd (lft (pickA v15 (AV.bool true) (nth v23 0))) (fun v24 =>
  condM v24 (M.pure (AV.bool false)) (bnd (lft (binA T BinOp.add 3 (nth v1 1) (AV.int IntKind.i64 1))) (fun v25 =>
  v0 [nth v1 0, v25])))))))))))) (bnd (lft (buildSliceA T 26 0 [])) (fun v26 =>
  bnd (lft (fieldAddrA T 63 (nth v1 0) 6)) (fun v27 =>
  bnd (lft (fieldAddrA T 61 v27 1)) (fun v28 =>
  bnd (lft (loadA T 26 v28)) (fun v29 =>
  bnd (lft (fieldAddrA T 63 (nth v1 0) 6)) (fun v30 =>
  bnd (lft (fieldAddrA T 61 v30 1)) (fun v31 =>
  bnd (lft (loadA T 26 v31)) (fun v32 =>
  bnd (lft (lenA T 26 v32)) (fun v33 =>
  bnd (lft (minsA false [v33, AV.int IntKind.i64 7])) (fun v34 =>
  bnd (lft (sliceA T 26 v29 none (some v34) none)) (fun v35 =>
  bnd (lft (appA T 26 v26 v35)) (fun v36 =>
  bnd (lft (fieldAddrA T 63 (nth v1 0) 6)) (fun v37 =>
  bnd (lft (fieldAddrA T 61 v37 2)) (fun v38 =>
  bnd (lft (loadA T 26 v38)) (fun v39 =>
  bnd (lft (fieldAddrA T 63 (nth v1 0) 6)) (fun v40 =>
  bnd (lft (fieldAddrA T 61 v40 2)) (fun v41 =>
  bnd (lft (loadA T 26 v41)) (fun v42 =>
  bnd (lft (lenA T 26 v42)) (fun v43 =>
  bnd (lft (minsA false [v43, AV.int IntKind.i64 7])) (fun v44 =>
  bnd (lft (sliceA T 26 v39 none (some v44) none)) (fun v45 =>
  bnd (lft (appA T 26 v36 v45)) (fun v46 =>
  fx (L30_0 call fx) [nth v1 0, v46, AV.int IntKind.i64 0]))))))))))))))))))))))))))))
theorem XL30_0 {call : FuncId → List AV → M AV} : Cont1 (L30_0 call fixW ) fun _n => L30_0 call fixW  := by
  intro v47 v47s hself v48
  unfold L30_0
  exact (LimM.bnd (LimM.const _) fun _ => (LimM.bnd (LimM.const _) fun _ => (condM_lim (LimM.bnd (LimM.const _) fun _ => (LimM.bnd (LimM.const _) fun _ => (LimM.bnd (LimM.const _) fun _ => (LimM.bnd (LimM.const _) fun _ => (condM_lim (LimM.const _) (LimM.bnd (LimM.const _) fun _ => (hself _))))))) (LimM.const _))))
theorem FL30_0 (call : FuncId → List AV → M AV) (vs : List AV) : fixW (L30_0 call fixW ) vs = L30_0 call fixW  (fixW (L30_0 call fixW )) vs := fixW_eq (XL30_0 ) vs
theorem XL30_1 {call : FuncId → List AV → M AV} : Cont1 (L30_1 call fixW ) fun _n => L30_1 call fixW  := by
  intro v0 v0s hself v1
  unfold L30_1
  exact (LimM.bnd (LimM.const _) fun _ => (LimM.bnd (LimM.const _) fun _ => (LimM.bnd (LimM.const _) fun _ => (LimM.bnd (LimM.const _) fun _ => (LimM.bnd (LimM.const _) fun _ => (LimM.bnd (LimM.const _) fun _ => (condM_lim (LimM.bnd (LimM.const _) fun _ => (LimM.bnd (LimM.const _) fun _ => (LimM.bnd (LimM.const _) fun _ => (LimM.bnd (LimM.const _) fun _ => (LimM.bnd (LimM.const _) fun _ => (LimM.bnd (LimM.const _) fun _ => (LimM.bnd (LimM.const _) fun _ => (LimM.bnd (LimM.const _) fun _ => (LimM.bnd (LimM.const _) fun _ => (condM_lim (LimM.const _) (LimM.bnd (LimM.const _) fun _ => (hself _)))))))))))) (LimM.const _))))))))
theorem FL30_1 (call : FuncId → List AV → M AV) (vs : List AV) : fixW (L30_1 call fixW ) vs = L30_1 call fixW  (fixW (L30_1 call fixW )) vs := fixW_eq (XL30_1 ) vs
noncomputable def S30 (call : FuncId → List AV → M AV) (fx : Fix AV) (a0 : AV) : M AV :=
  fx (L30_1 call fx) [AV.ip (acells a0), AV.int IntKind.i64 0]
theorem E30 (call : FuncId → List AV → M AV) (fx : Fix AV) (a0 : AV) : evBody (pg.cx call Try.f30.ntmps ann30) fx Try.f30 (own 30) [a0] = S30 call fx a0 := by kernel_rfl
theorem C30 (a0 : AV) : callW pg 30 [a0] = isoP (S30 (callW pg) fixW (cl noHs a0)) := (callW_iso hOther rfl rfl rfl _).trans (congrArg isoP (E30 _ _ (cl noHs a0)))
noncomputable def K50_0 (call : FuncId → List AV → M AV) (fx : Fix AV) (v27 : List AV) : M AV :=
  bnd (lft (loadA T 98 (nth v27 1))) (fun v28 =>
  bnd (lft (loadA T 28 (nth v27 2))) (fun v29 =>
  bnd (call 81 [nth v27 0, v28, v29]) (fun v30 =>
  bnd (cellsNil 4 [] v30) (fun v31 =>
  M.pure (AV.agg [nth (acells v31) 0, nth (acells v31) 1, nth (acells v31) 2, nth (acells v31) 3])))))
noncomputable def L50_0 (call : FuncId → List AV → M AV) (fx : Fix AV) (v32 : List AV → M AV) (v60 : List AV → M AV) (v61 : List AV) : M AV :=
  bnd (lft (binA T BinOp.geq 3 (nth v61 3) (AV.int IntKind.i64 0))) (fun v62 =>
  condM v62 (bnd (lft (fieldAddrA T 98 (nth v61 1) 1)) (fun v63 =>
  bnd (lft (loadA T 25 v63)) (fun v64 =>
  bnd (lft (indexAddrA T 25 v64 (nth v61 3))) (fun v65 =>
  bnd (lft (loadA T 9 v65)) (fun v66 =>
  bnd (lft (fieldAddrA T 28 (nth v61 2) 2)) (fun v67 =>
  bnd (lft (loadA T 9 v67)) (fun v68 =>
  bnd (lft (binA T BinOp.eql 9 v66 v68)) (fun v69 =>
  condM v69 (bnd (lft (fieldAddrA T 98 (nth v61 1) 2)) (fun v70 =>
  bnd (lft (loadA T 23 v70)) (fun v71 =>
  bnd (lft (indexAddrA T 23 v71 (nth v61 3))) (fun v72 =>
  bnd (lft (loadA T 39 v72)) (fun v73 =>
  bnd (cellsNil 4 [] v73) (fun v74 =>
  M.pure (AV.agg [nth (acells v74) 0, nth (acells v74) 1, nth (acells v74) 2, nth (acells v74) 3]))))))) (bnd (lft (binA T BinOp.sub 3 (nth v61 3) (AV.int IntKind.i64 1))) (fun v75 =>
  v60 [nth v61 0, nth v61 1, nth v61 2, v75, nth v61 4, nth v61 5, nth v61 6, nth v61 7])))))))))) (bnd (lft (mkIfaceA T 33 (AV.int IntKind.i64 12))) (fun v76 =>
  bnd (panM v76) (fun v77 =>
  v32 [nth v61 0, nth v61 1, nth v61 2, nth v61 4, nth v61 5, nth v61 6, nth v61 7]))))
noncomputable def K50_1 (call : FuncId → List AV → M AV) (fx : Fix AV) (v32 : List AV → M AV) (v95 : List AV) : M AV :=
  condM (nth v95 4) (bnd (lft (loadA T 98 (nth v95 1))) (fun v96 =>
  bnd (lft (fieldAddrA T 28 (nth v95 2) 5)) (fun v97 =>
  bnd (lft (loadA T 26 v97)) (fun v98 =>
  bnd (lft (indexAddrA T 26 v98 (AV.int IntKind.i64 0))) (fun v99 =>
  bnd (lft (loadA T 28 v99)) (fun v100 =>
  bnd (lft (fieldAddrA T 28 (nth v95 2) 0)) (fun v101 =>
  bnd (lft (loadA T 3 v101)) (fun v102 =>
  bnd (lft (binA T BinOp.eql 3 v102 (AV.int IntKind.i64 9))) (fun v103 =>
  bnd (call 77 [nth v95 0, v96, v100]) (fun v104 =>
  bnd (lft (binA T BinOp.eql 4 v104 v103)) (fun v105 =>
  condM v105 (bnd (lft (fieldAddrA T 28 (nth v95 2) 0)) (fun v106 =>
  bnd (lft (loadA T 3 v106)) (fun v107 =>
  bnd (lft (binA T BinOp.eql 3 v107 (AV.int IntKind.i64 9))) (fun v108 =>
  bnd (call 75 [v108]) (fun v109 =>
  bnd (cellsNil 4 [] v109) (fun v110 =>
  M.pure (AV.agg [nth (acells v110) 0, nth (acells v110) 1, nth (acells v110) 2, nth (acells v110) 3]))))))) (bnd (lft (loadA T 98 (nth v95 1))) (fun v111 =>
  bnd (lft (fieldAddrA T 28 (nth v95 2) 5)) (fun v112 =>
  bnd (lft (loadA T 26 v112)) (fun v113 =>
  bnd (lft (indexAddrA T 26 v113 (AV.int IntKind.i64 1))) (fun v114 =>
  bnd (lft (loadA T 28 v114)) (fun v115 =>
  bnd (call 77 [nth v95 0, v111, v115]) (fun v116 =>
  bnd (noPan (call 75 [v116])) (fun v117 =>
  bnd (cellsNil 4 [] v117) (fun v118 =>
  M.pure (AV.agg [nth (acells v118) 0, nth (acells v118) 1, nth (acells v118) 2, nth (acells v118) 3]))))))))))))))))))))) (bnd (lft (binA T BinOp.eql 3 (nth v95 3) (AV.int IntKind.i64 10))) (fun v119 =>
  condM v119 (bnd (lft (loadA T 98 (nth v95 1))) (fun v120 =>
  bnd (lft (fieldAddrA T 28 (nth v95 2) 5)) (fun v121 =>
  bnd (lft (loadA T 26 v121)) (fun v122 =>
  bnd (lft (indexAddrA T 26 v122 (AV.int IntKind.i64 0))) (fun v123 =>
  bnd (lft (loadA T 28 v123)) (fun v124 =>
  bnd (call 77 [nth v95 0, v120, v124]) (fun v125 =>
  bnd (lft (unA UnOp.not v125)) (fun v126 =>
  bnd (noPan (call 75 [v126])) (fun v127 =>
  bnd (cellsNil 4 [] v127) (fun v128 =>
  M.pure (AV.agg [nth (acells v128) 0, nth (acells v128) 1, nth (acells v128) 2, nth (acells v128) 3]))))))))))) (bnd (lft (binA T BinOp.eql 3 (nth v95 3) (AV.int IntKind.i64 11))) (fun v129 =>
  condM v129 (bnd (lft (loadA T 98 (nth v95 1))) (fun v130 =>
  bnd (lft (fieldAddrA T 28 (nth v95 2) 5)) (fun v131 =>
  bnd (lft (loadA T 26 v131)) (fun v132 =>
  bnd (lft (indexAddrA T 26 v132 (AV.int IntKind.i64 0))) (fun v133 =>
  bnd (lft (loadA T 28 v133)) (fun v134 =>
  bnd (call 77 [nth v95 0, v130, v134]) (fun v135 =>
  condM v135 (bnd (lft (loadA T 98 (nth v95 1))) (fun v136 =>
  bnd (lft (fieldAddrA T 28 (nth v95 2) 5)) (fun v137 =>
  bnd (lft (loadA T 26 v137)) (fun v138 =>
  bnd (lft (indexAddrA T 26 v138 (AV.int IntKind.i64 1))) (fun v139 =>
  bnd (lft (loadA T 28 v139)) (fun v140 =>
  bnd (call 50 [nth v95 0, v136, v140]) (fun v141 =>
  bnd (cellsNil 4 [] v141) (fun v142 =>
  M.pure (AV.agg [nth (acells v142) 0, nth (acells v142) 1, nth (acells v142) 2, nth (acells v142) 3]))))))))) (bnd (lft (loadA T 98 (nth v95 1))) (fun v143 =>
  bnd (lft (fieldAddrA T 28 (nth v95 2) 5)) (fun v144 =>
  bnd (lft (loadA T 26 v144)) (fun v145 =>
  bnd (lft (indexAddrA T 26 v145 (AV.int IntKind.i64 2))) (fun v146 =>
  bnd (lft (loadA T 28 v146)) (fun v147 =>
  bnd (call 50 [nth v95 0, v143, v147]) (fun v148 =>
  bnd (cellsNil 4 [] v148) (fun v149 =>
  M.pure (AV.agg [nth (acells v149) 0, nth (acells v149) 1, nth (acells v149) 2, nth (acells v149) 3])))))))))))))))) (bnd (lft (binA T BinOp.eql 3 (nth v95 3) (AV.int IntKind.i64 12))) (fun v150 =>
  condM v150 (bnd (lft (loadA T 98 (nth v95 1))) (fun v151 =>
  bnd (lft (fieldAddrA T 28 (nth v95 2) 2)) (fun v152 =>
  bnd (lft (loadA T 9 v152)) (fun v153 =>
  bnd (lft (loadA T 98 (nth v95 1))) (fun v154 =>
  bnd (lft (fieldAddrA T 28 (nth v95 2) 5)) (fun v155 =>
  bnd (lft (loadA T 26 v155)) (fun v156 =>
  bnd (lft (indexAddrA T 26 v156 (AV.int IntKind.i64 0))) (fun v157 =>
  bnd (lft (loadA T 28 v157)) (fun v158 =>
  bnd (lft (fieldAddrA T 28 (nth v95 2) 5)) (fun v159 =>
  bnd (lft (loadA T 26 v159)) (fun v160 =>
  bnd (lft (indexAddrA T 26 v160 (AV.int IntKind.i64 1))) (fun v161 =>
  bnd (lft (loadA T 28 v161)) (fun v162 =>
  bnd (call 50 [nth v95 0, v154, v158]) (fun v163 =>
  bnd (noPan (call 70 [v151, v153, v163])) (fun v164 =>
  bnd (call 50 [nth v95 0, v164, v162]) (fun v165 =>
  bnd (cellsNil 4 [] v165) (fun v166 =>
  M.pure (AV.agg [nth (acells v166) 0, nth (acells v166) 1, nth (acells v166) 2, nth (acells v166) 3])))))))))))))))))) (bnd (lft (binA T BinOp.eql 3 (nth v95 3) (AV.int IntKind.i64 13))) (fun v167 =>
  condM v167 (bnd (lft (loadA T 98 (nth v95 1))) (fun v168 =>
  bnd (lft (loadA T 28 (nth v95 2))) (fun v169 =>
  bnd (call 78 [nth v95 0, v168, v169]) (fun v170 =>
  bnd (cellsNil 4 [] v170) (fun v171 =>
  M.pure (AV.agg [nth (acells v171) 0, nth (acells v171) 1, nth (acells v171) 2, nth (acells v171) 3])))))) (bnd (lft (binA T BinOp.eql 3 (nth v95 3) (AV.int IntKind.i64 14))) (fun v172 =>
  condM v172 (bnd (lft (loadA T 98 (nth v95 1))) (fun v173 =>
  bnd (lft (fieldAddrA T 28 (nth v95 2) 5)) (fun v174 =>
  bnd (lft (loadA T 26 v174)) (fun v175 =>
  bnd (lft (indexAddrA T 26 v175 (AV.int IntKind.i64 0))) (fun v176 =>
  bnd (lft (loadA T 28 v176)) (fun v177 =>
  bnd (call 50 [nth v95 0, v173, v177]) (fun v178 =>
  bnd (cellsM 4 v178) (fun v179 =>
  bnd (lft (fieldAddrA T 39 (AV.ip (acells v179)) 2)) (fun v180 =>
  bnd (lft (loadA T 25 v180)) (fun v181 =>
  bnd (lft (fieldAddrA T 28 (nth v95 2) 2)) (fun v182 =>
  bnd (lft (loadA T 9 v182)) (fun v183 =>
  bnd (call 79 [v181, v183]) (fun v184 =>
  bnd (lft (fieldAddrA T 39 (AV.ip (acells v179)) 0)) (fun v185 =>
  bnd (lft (loadA T 3 v185)) (fun v186 =>
  bnd (lft (binA T BinOp.eql 3 v186 (AV.int IntKind.i64 2))) (fun v187 =>
  bnd (guardM v187 true 1 (bnd (lft (binA T BinOp.geq 3 v184 (AV.int IntKind.i64 0))) (fun v188 =>
  M.pure [v188]))) (fun v189 =>
  bnd (lft (pickA v187 (nth v189 0) (AV.bool false))) (fun v190 =>
  bnd (call 69 [v190, AV.int IntKind.i64 13]) (fun v191 =>
  bnd (lft (fieldAddrA T 39 (AV.ip (acells v179)) 3)) (fun v192 =>
  bnd (lft (loadA T 23 v192)) (fun v193 =>
  bnd (lft (indexAddrA T 23 v193 v184)) (fun v194 =>
  bnd (lft (loadA T 39 v194)) (fun v195 =>
  bnd (cellsNil 4 [] v195) (fun v196 =>
  M.pure (AV.agg [nth (acells v196) 0, nth (acells v196) 1, nth (acells v196) 2, nth (acells v196) 3]))))))))))))))))))))))))) (bnd (lft (binA T BinOp.eql 3 (nth v95 3) (AV.int IntKind.i64 15))) (fun v197 =>
  condM v197 (bnd (lft (loadA T 98 (nth v95 1))) (fun v198 =>
  bnd (lft (loadA T 28 (nth v95 2))) (fun v199 =>
  bnd (call 80 [nth v95 0, v198, v199]) (fun v200 =>
  bnd (cellsNil 4 [] v200) (fun v201 =>
  M.pure (AV.agg [nth (acells v201) 0, nth (acells v201) 1, nth (acells v201) 2, nth (acells v201) 3])))))) (v32 [nth v95 0, nth v95 1, nth v95 2, nth v95 5, nth v95 6, nth v95 7, nth v95 8])))))))))))))
noncomputable def K50_2 (call : FuncId → List AV → M AV) (fx : Fix AV) (v32 : List AV → M AV) (v78 : List AV) : M AV :=
  condM (nth v78 4) (bnd (lft (fieldAddrA T 28 (nth v78 2) 0)) (fun v79 =>
  bnd (lft (loadA T 3 v79)) (fun v80 =>
  bnd (lft (loadA T 98 (nth v78 1))) (fun v81 =>
  bnd (lft (fieldAddrA T 28 (nth v78 2) 5)) (fun v82 =>
  bnd (lft (loadA T 26 v82)) (fun v83 =>
  bnd (lft (indexAddrA T 26 v83 (AV.int IntKind.i64 0))) (fun v84 =>
  bnd (lft (loadA T 28 v84)) (fun v85 =>
  bnd (lft (loadA T 98 (nth v78 1))) (fun v86 =>
  bnd (lft (fieldAddrA T 28 (nth v78 2) 5)) (fun v87 =>
  bnd (lft (loadA T 26 v87)) (fun v88 =>
  bnd (lft (indexAddrA T 26 v88 (AV.int IntKind.i64 1))) (fun v89 =>
  bnd (lft (loadA T 28 v89)) (fun v90 =>
  bnd (call 50 [nth v78 0, v81, v85]) (fun v91 =>
  bnd (call 50 [nth v78 0, v86, v90]) (fun v92 =>
  bnd (call 76 [v80, v91, v92]) (fun v93 =>
  bnd (cellsNil 4 [] v93) (fun v94 =>
  M.pure (AV.agg [nth (acells v94) 0, nth (acells v94) 1, nth (acells v94) 2, nth (acells v94) 3])))))))))))))))))) (jn (K50_1 call fx v32) (fun v202 =>
  bnd (lft (binA T BinOp.eql 3 (nth v78 3) (AV.int IntKind.i64 8))) (fun v203 =>
  condM v203 (v202 [nth v78 0, nth v78 1, nth v78 2, nth v78 3, v203, nth v78 5, nth v78 6, nth v78 7, nth v78 8]) (bnd (lft (binA T BinOp.eql 3 (nth v78 3) (AV.int IntKind.i64 9))) (fun v204 =>
  v202 [nth v78 0, nth v78 1, nth v78 2, nth v78 3, v204, nth v78 5, nth v78 6, nth v78 7, nth v78 8])))))
theorem XL50_0 {call : FuncId → List AV → M AV} {v32 : List AV → M AV} {v32s : Nat → List AV → M AV} (hv32 : LimF v32 fun n => v32s n) : Cont1 (L50_0 call fixW v32) fun n => L50_0 call fixW (v32s n) := by
  intro v60 v60s hself v61
  unfold L50_0
  exact (LimM.bnd (LimM.const _) fun _ => (condM_lim (LimM.bnd (LimM.const _) fun _ => (LimM.bnd (LimM.const _) fun _ => (LimM.bnd (LimM.const _) fun _ => (LimM.bnd (LimM.const _) fun _ => (LimM.bnd (LimM.const _) fun _ => (LimM.bnd (LimM.const _) fun _ => (LimM.bnd (LimM.const _) fun _ => (condM_lim (LimM.const _) (LimM.bnd (LimM.const _) fun _ => (hself _)))))))))) (LimM.bnd (LimM.const _) fun _ => (LimM.bnd (LimM.const _) fun _ => (hv32 _)))))
theorem YL50_0 {call : FuncId → List AV → M AV} {v32 : List AV → M AV} {v32s : Nat → List AV → M AV} (hv32 : LimF v32 fun n => v32s n) : LimF (fixW (L50_0 call fixW v32)) fun n => fixW (L50_0 call fixW (v32s n)) := fixW_limF (XL50_0 hv32) (XL50_0 (LimF.const _)) fun _ => XL50_0 (LimF.const _)
theorem FL50_0 (call : FuncId → List AV → M AV) (v32 : List AV → M AV) (vs : List AV) : fixW (L50_0 call fixW v32) vs = L50_0 call fixW v32 (fixW (L50_0 call fixW v32)) vs := fixW_eq (XL50_0 (LimF.const _)) vs
theorem XK50_1 {call : FuncId → List AV → M AV} {v32 : List AV → M AV} {v32s : Nat → List AV → M AV} (hv32 : LimF v32 fun n => v32s n) : LimF (K50_1 call fixW v32) fun n => K50_1 call fixW (v32s n) := by
  intro v95
  unfold K50_1
  exact (condM_lim (LimM.const _) (LimM.bnd (LimM.const _) fun _ => (condM_lim (LimM.const _) (LimM.bnd (LimM.const _) fun _ => (condM_lim (LimM.const _) (LimM.bnd (LimM.const _) fun _ => (condM_lim (LimM.const _) (LimM.bnd (LimM.const _) fun _ => (condM_lim (LimM.const _) (LimM.bnd (LimM.const _) fun _ => (condM_lim (LimM.const _) (LimM.bnd (LimM.const _) fun _ => (condM_lim (LimM.const _) (hv32 _))))))))))))))
theorem XK50_2 {call : FuncId → List AV → M AV} {v32 : List AV → M AV} {v32s : Nat → List AV → M AV} (hv32 : LimF v32 fun n => v32s n) : LimF (K50_2 call fixW v32) fun n => K50_2 call fixW (v32s n) := by
  intro v78
  unfold K50_2
  exact (condM_lim (LimM.const _) (jn_lim (XK50_1 hv32) fun _ _ hv202 => (LimM.bnd (LimM.const _) fun _ => (condM_lim (hv202 _) (LimM.bnd (LimM.const _) fun _ => (hv202 _))))))
noncomputable def S50 (call : FuncId → List AV → M AV) (fx : Fix AV) (a0 a1 a2 : AV) : M AV :=
  bnd (lft (nilChkA a0)) (fun v0 =>
  bnd (lft (fieldAddrA T 81 v0 2)) (fun v1 =>
  bnd (loadH T 3 v1) (fun v2 =>
  bnd (lft (binA T BinOp.gtr 3 v2 (AV.int IntKind.i64 0))) (fun v3 =>
  bnd (call 69 [v3, AV.int IntKind.i64 16]) (fun v4 =>
  bnd (lft (nilChkA a0)) (fun v5 =>
  bnd (lft (fieldAddrA T 81 v5 2)) (fun v6 =>
  bnd (loadH T 3 v6) (fun v7 =>
  bnd (lft (binA T BinOp.sub 3 v7 (AV.int IntKind.i64 1))) (fun v8 =>
  bnd (lft (nilChkA a0)) (fun v9 =>
  bnd (lft (fieldAddrA T 81 v9 2)) (fun v10 =>
  bnd (storeH T 3 v10 v8) (fun v11 =>
  bnd (lft (fieldAddrA T 28 (AV.ip (acells a2)) 0)) (fun v12 =>
  bnd (lft (loadA T 3 v12)) (fun v13 =>
  bnd (call 73 [v13]) (fun v14 =>
  bnd (lft (binA T BinOp.neq 3 v14 (AV.int IntKind.i64 (-2)))) (fun v15 =>
  bnd (guardM v15 true 1 (bnd (lft (binA T BinOp.eql 3 v14 (AV.int IntKind.i64 (-1)))) (fun v16 =>
  M.pure [v16]))) (fun v17 =>
  bnd (guardM (nth v17 0) false 1 (bnd (lft (fieldAddrA T 28 (AV.ip (acells a2)) 5)) (fun v18 =>
  bnd (lft (loadA T 26 v18)) (fun v19 =>
  bnd (lft (lenA T 26 v19)) (fun v20 =>
  bnd (lft (binA T BinOp.eql 3 v14 v20)) (fun v21 =>
  M.pure [v21])))))) (fun v22 =>
  bnd (guardM v15 true 1 (bnd (lft (pickA (nth v17 0) (AV.bool true) (nth v22 0))) (fun v23 =>
  M.pure [v23]))) (fun v24 =>
  bnd (lft (pickA v15 (nth v24 0) (AV.bool false))) (fun v25 =>
  bnd (call 69 [v25, AV.int IntKind.i64 13]) (fun v26 =>
  jn (K50_0 call fx) (fun v32 =>
  bnd (lft (fieldAddrA T 28 (AV.ip (acells a2)) 0)) (fun v33 =>
  bnd (lft (loadA T 3 v33)) (fun v34 =>
  bnd (lft (binA T BinOp.eql 3 v34 (AV.int IntKind.i64 0))) (fun v35 =>
  condM v35 (bnd (lft (fieldAddrA T 28 (AV.ip (acells a2)) 1)) (fun v36 =>
  bnd (lft (loadA T 3 v36)) (fun v37 =>
  bnd (call 74 [v37]) (fun v38 =>
  bnd (cellsNil 4 [] v38) (fun v39 =>
  M.pure (AV.agg [nth (acells v39) 0, nth (acells v39) 1, nth (acells v39) 2, nth (acells v39) 3])))))) (bnd (lft (binA T BinOp.eql 3 v34 (AV.int IntKind.i64 1))) (fun v40 =>
  condM v40 (bnd (lft (fieldAddrA T 28 (AV.ip (acells a2)) 1)) (fun v41 =>
  bnd (lft (loadA T 3 v41)) (fun v42 =>
  bnd (lft (binA T BinOp.eql 3 v42 (AV.int IntKind.i64 0))) (fun v43 =>
  bnd (guardM v43 false 1 (bnd (lft (fieldAddrA T 28 (AV.ip (acells a2)) 1)) (fun v44 =>
  bnd (lft (loadA T 3 v44)) (fun v45 =>
  bnd (lft (binA T BinOp.eql 3 v45 (AV.int IntKind.i64 1))) (fun v46 =>
  M.pure [v46]))))) (fun v47 =>
  bnd (lft (pickA v43 (AV.bool true) (nth v47 0))) (fun v48 =>
  bnd (call 69 [v48, AV.int IntKind.i64 13]) (fun v49 =>
  bnd (lft (fieldAddrA T 28 (AV.ip (acells a2)) 1)) (fun v50 =>
  bnd (lft (loadA T 3 v50)) (fun v51 =>
  bnd (lft (binA T BinOp.eql 3 v51 (AV.int IntKind.i64 1))) (fun v52 =>
  bnd (call 75 [v52]) (fun v53 =>
  bnd (cellsNil 4 [] v53) (fun v54 =>
  M.pure (AV.agg [nth (acells v54) 0, nth (acells v54) 1, nth (acells v54) 2, nth (acells v54) 3]))))))))))))) (bnd (lft (binA T BinOp.eql 3 v34 (AV.int IntKind.i64 2))) (fun v55 =>
  condM v55 (bnd (lft (fieldAddrA T 98 (AV.ip (acells a1)) 1)) (fun v56 =>
  bnd (lft (loadA T 25 v56)) (fun v57 =>
  bnd (lft (lenA T 25 v57)) (fun v58 =>
  bnd (lft (binA T BinOp.sub 3 v58 (AV.int IntKind.i64 1))) (fun v59 =>
  fx (L50_0 call fx v32) [a0, AV.ip (acells a1), AV.ip (acells a2), v59, AV.int IntKind.i64 0, AV.int IntKind.i64 0, AV.sl [], AV.sl []]))))) (jn (K50_2 call fx v32) (fun v205 =>
  bnd (lft (binA T BinOp.eql 3 v34 (AV.int IntKind.i64 3))) (fun v206 =>
  condM v206 (v205 [a0, AV.ip (acells a1), AV.ip (acells a2), v34, v206, AV.int IntKind.i64 0, AV.int IntKind.i64 0, AV.sl [], AV.sl []]) (bnd (lft (binA T BinOp.eql 3 v34 (AV.int IntKind.i64 4))) (fun v207 =>
  condM v207 (v205 [a0, AV.ip (acells a1), AV.ip (acells a2), v34, v207, AV.int IntKind.i64 0, AV.int IntKind.i64 0, AV.sl [], AV.sl []]) (bnd (lft (binA T BinOp.eql 3 v34 (AV.int IntKind.i64 5))) (fun v208 =>
  condM v208 (v205 [a0, AV.ip (acells a1), AV.ip (acells a2), v34, v208, AV.int IntKind.i64 0, AV.int IntKind.i64 0, AV.sl [], AV.sl []]) (bnd (lft (binA T BinOp.eql 3 v34 (AV.int IntKind.i64 6))) (fun v209 =>
  condM v209 (v205 [a0, AV.ip (acells a1), AV.ip (acells a2), v34, v209, AV.int IntKind.i64 0, AV.int IntKind.i64 0, AV.sl [], AV.sl []]) (bnd (lft (binA T BinOp.eql 3 v34 (AV.int IntKind.i64 7))) (fun v210 =>
  v205 [a0, AV.ip (acells a1), AV.ip (acells a2), v34, v210, AV.int IntKind.i64 0, AV.int IntKind.i64 0, AV.sl [], AV.sl []]))))))))))))))))))))))))))))))))))))))))
theorem E50 (call : FuncId → List AV → M AV) (fx : Fix AV) (a0 a1 a2 : AV) : evBody (pg.cx call Try.f50.ntmps ann50) fx Try.f50 (own 50) [a0, a1, a2] = S50 call fx a0 a1 a2 := by kernel_rfl
theorem C50 (a0 a1 a2 : AV) : callW pg 50 [a0, a1, a2] = S50 (callW pg) fixW a0 a1 a2 := (callW_heap hOther rfl rfl rfl _).trans (E50 _ _ a0 a1 a2)
noncomputable def S54 (call : FuncId → List AV → M AV) (fx : Fix AV) (a0 a1 : AV) : M AV :=
  bnd (lft (fieldAddrA T 39 (AV.ip (acells a0)) 0)) (fun v0 =>
  bnd (lft (loadA T 3 v0)) (fun v1 =>
  bnd (lft (fieldAddrA T 39 (AV.ip (acells a1)) 0)) (fun v2 =>
  bnd (lft (loadA T 3 v2)) (fun v3 =>
  bnd (lft (binA T BinOp.eql 3 v1 v3)) (fun v4 =>
  bnd (guardM v4 true 1 (bnd (lft (fieldAddrA T 39 (AV.ip (acells a0)) 1)) (fun v5 =>
  bnd (lft (loadA T 3 v5)) (fun v6 =>
  bnd (lft (fieldAddrA T 39 (AV.ip (acells a1)) 1)) (fun v7 =>
  bnd (lft (loadA T 3 v7)) (fun v8 =>
  bnd (lft (binA T BinOp.eql 3 v6 v8)) (fun v9 =>
  M.pure [v9]))))))) (fun v10 =>
  bnd (lft (pickA v4 (nth v10 0) (AV.bool false))) (fun v11 =>
  bnd (guardM v11 true 1 (bnd (lft (fieldAddrA T 39 (AV.ip (acells a0)) 2)) (fun v12 =>
  bnd (lft (loadA T 25 v12)) (fun v13 =>
  bnd (lft (fieldAddrA T 39 (AV.ip (acells a1)) 2)) (fun v14 =>
  bnd (lft (loadA T 25 v14)) (fun v15 =>
  bnd (call 92 [v13, v15]) (fun v16 =>
  M.pure [v16]))))))) (fun v17 =>
  bnd (lft (pickA v11 (nth v17 0) (AV.bool false))) (fun v18 =>
  bnd (guardM v18 true 1 (bnd (lft (fieldAddrA T 39 (AV.ip (acells a0)) 3)) (fun v19 =>
  bnd (lft (loadA T 23 v19)) (fun v20 =>
  bnd (lft (fieldAddrA T 39 (AV.ip (acells a1)) 3)) (fun v21 =>
  bnd (lft (loadA T 23 v21)) (fun v22 =>
  bnd (call 93 [v20, v22, AV.fn (Fn.func 54) [] []]) (fun v23 =>
  M.pure [v23]))))))) (fun v24 =>
  bnd (lft (pickA v18 (nth v24 0) (AV.bool false))) (fun v25 =>
  M.pure v25)))))))))))
theorem E54 (call : FuncId → List AV → M AV) (fx : Fix AV) (a0 a1 : AV) : evBody (pg.cx call Try.f54.ntmps ann54) fx Try.f54 (own 54) [a0, a1] = S54 call fx a0 a1 := by kernel_rfl
theorem C54 (a0 a1 : AV) : callW pg 54 [a0, a1] = isoP (S54 (callW pg) fixW (cl noHs a0) (cl noHs a1)) := (callW_iso hOther rfl rfl rfl _).trans (congrArg isoP (E54 _ _ (cl noHs a0) (cl noHs a1)))
noncomputable def L56_0 (call : FuncId → List AV → M AV) (fx : Fix AV) (v0 : List AV → M AV) (v1 : List AV) : M AV :=
  bnd (lft (lenA T 58 (nth v1 0))) (fun v2 =>
  bnd (lft (binA T BinOp.lss 3 (nth v1 1) v2)) (fun v3 =>
  bnd (guardM v3 true 1 (bnd (lft (binA T BinOp.lss 3 (nth v1 1) (AV.int IntKind.i64 9))) (fun v4 =>
  M.pure [v4]))) (fun v5 =>
  bnd (lft (pickA v3 (nth v5 0) (AV.bool false))) (fun v6 =>
  condM v6 (bnd (lft (indexAddrA T 58 (nth v1 0) (nth v1 1))) (fun v7 =>
  bnd (lft (fieldAddrA T 104 v7 1)) (fun v8 =>
  bnd (lft (loadA T 65 v8)) (fun v9 =>
  bnd (call 57 [v9, AV.int IntKind.i64 20, AV.int IntKind.i64 8]) (fun v10 =>
  bnd (lft (binA T BinOp.gtr 3 v10 (AV.int IntKind.i64 20))) (fun v11 =>
  condM v11 (M.pure (AV.bool false)) (bnd (lft (binA T BinOp.add 3 (nth v1 1) (AV.int IntKind.i64 1))) (fun v12 =>
  v0 [nth v1 0, v12])))))))) (bnd (lft (lenA T 58 (nth v1 0))) (fun v13 =>
  bnd (lft (binA T BinOp.leq 3 v13 (AV.int IntKind.i64 8))) (fun v14 =>
  M.pure v14)))))))
theorem XL56_0 {call : FuncId → List AV → M AV} : Cont1 (L56_0 call fixW ) fun _n => L56_0 call fixW  := by
  intro v0 v0s hself v1
  unfold L56_0
  exact (LimM.bnd (LimM.const _) fun _ => (LimM.bnd (LimM.const _) fun _ => (LimM.bnd (LimM.const _) fun _ => (LimM.bnd (LimM.const _) fun _ => (condM_lim (LimM.bnd (LimM.const _) fun _ => (LimM.bnd (LimM.const _) fun _ => (LimM.bnd (LimM.const _) fun _ => (LimM.bnd (LimM.const _) fun _ => (LimM.bnd (LimM.const _) fun _ => (condM_lim (LimM.const _) (LimM.bnd (LimM.const _) fun _ => (hself _)))))))) (LimM.const _))))))
theorem FL56_0 (call : FuncId → List AV → M AV) (vs : List AV) : fixW (L56_0 call fixW ) vs = L56_0 call fixW  (fixW (L56_0 call fixW )) vs := fixW_eq (XL56_0 ) vs
noncomputable def S56 (call : FuncId → List AV → M AV) (fx : Fix AV) (a0 : AV) : M AV :=
  fx (L56_0 call fx) [a0, AV.int IntKind.i64 0]
theorem E56 (call : FuncId → List AV → M AV) (fx : Fix AV) (a0 : AV) : evBody (pg.cx call Try.f56.ntmps ann56) fx Try.f56 (own 56) [a0] = S56 call fx a0 := by kernel_rfl
theorem C56 (a0 : AV) : callW pg 56 [a0] = isoP (S56 (callW pg) fixW (cl noHs a0)) := (callW_iso hOther rfl rfl rfl _).trans (congrArg isoP (E56 _ _ (cl noHs a0)))
noncomputable def S66 (call : FuncId → List AV → M AV) (fx : Fix AV) (a0 a1 : AV) : M AV :=
  bnd (lft (fieldAddrA T 67 (AV.ip (acells a0)) 0)) (fun v0 =>
  bnd (lft (loadA T 9 v0)) (fun v1 =>
  bnd (lft (loadA T 9 a1)) (fun v2 =>
  bnd (lft (binA T BinOp.eql 9 v1 v2)) (fun v3 =>
  M.pure v3))))
theorem E66 (call : FuncId → List AV → M AV) (fx : Fix AV) (a0 a1 : AV) : evBody (pg.cx call Try.f66.ntmps ann66) fx Try.f66 (own 66) [a0, a1] = S66 call fx a0 a1 := by kernel_rfl
theorem C66 (a0 a1 : AV) : callW pg 66 [a0, a1] = isoP (S66 (callW pg) fixW (cl noHs a0) (cl noHs a1)) := (callW_iso hOther rfl rfl rfl _).trans (congrArg isoP (E66 _ _ (cl noHs a0) (cl noHs a1)))
noncomputable def S75 (call : FuncId → List AV → M AV) (fx : Fix AV) (a0 : AV) : M AV :=
  condM a0 (bnd (lft (buildA T false 39 [(0, AV.int IntKind.i64 1), (1, AV.int IntKind.i64 1)])) (fun v0 =>
  bnd (cellsNil 4 [] v0) (fun v1 =>
  M.pure (AV.agg [nth (acells v1) 0, nth (acells v1) 1, nth (acells v1) 2, nth (acells v1) 3])))) (bnd (lft (buildA T false 39 [(0, AV.int IntKind.i64 1)])) (fun v2 =>
  bnd (cellsNil 4 [] v2) (fun v3 =>
  M.pure (AV.agg [nth (acells v3) 0, nth (acells v3) 1, nth (acells v3) 2, nth (acells v3) 3]))))
theorem E75 (call : FuncId → List AV → M AV) (fx : Fix AV) (a0 : AV) : evBody (pg.cx call Try.f75.ntmps ann75) fx Try.f75 (own 75) [a0] = S75 call fx a0 := by kernel_rfl
theorem C75 (a0 : AV) : callW pg 75 [a0] = isoP (S75 (callW pg) fixW (cl noHs a0)) := (callW_iso hOther rfl rfl rfl _).trans (congrArg isoP (E75 _ _ (cl noHs a0)))
noncomputable def S90 (call : FuncId → List AV → M AV) (fx : Fix AV) (a0 a1 : AV) : M AV :=
  bnd (lft (loadA T 39 (AV.ip (acells a0)))) (fun v0 =>
  bnd (lft (loadA T 3 a1)) (fun v1 =>
  bnd (lft (binA T BinOp.sub 3 v1 (AV.int IntKind.i64 1))) (fun v2 =>
  bnd (call 52 [v0, v2]) (fun v3 =>
  bnd (lft (unA UnOp.not v3)) (fun v4 =>
  M.pure v4)))))
theorem E90 (call : FuncId → List AV → M AV) (fx : Fix AV) (a0 a1 : AV) : evBody (pg.cx call Try.f90.ntmps ann90) fx Try.f90 (own 90) [a0, a1] = S90 call fx a0 a1 := by kernel_rfl
theorem C90 (a0 a1 : AV) : callW pg 90 [a0, a1] = isoP (S90 (callW pg) fixW (cl noHs a0) (cl noHs a1)) := (callW_iso hOther rfl rfl rfl _).trans (congrArg isoP (E90 _ _ (cl noHs a0) (cl noHs a1)))
noncomputable def L93_0 (call : FuncId → List AV → M AV) (fx : Fix AV) (v4 : List AV → M AV) (v5 : List AV) : M AV :=
  bnd (lft (binA T BinOp.lss 3 (nth v5 4) (nth v5 3))) (fun v6 =>
  condM v6 (bnd (lft (indexAddrA T 23 (nth v5 2) (nth v5 4))) (fun v7 =>
  bnd (lft (loadA T 39 v7)) (fun v8 =>
  bnd (cellsM 4 v8) (fun v9 =>
  bnd (lft (indexAddrA T 23 (nth v5 0) (nth v5 4))) (fun v10 =>
  bnd (lft (loadA T 39 v10)) (fun v11 =>
  bnd (cellsM 4 v11) (fun v12 =>
  bnd (lft (loadA T 39 (AV.ip (acells v9)))) (fun v13 =>
  bnd (lft (loadA T 39 (AV.ip (acells v12)))) (fun v14 =>
  bnd (callV call (nth v5 1) [v13, v14]) (fun v15 =>
  bnd (lft (unA UnOp.not v15)) (fun v16 =>
  condM v16 (M.pure (AV.bool false)) (bnd (lft (binA T BinOp.add 3 (nth v5 4) (AV.int IntKind.i64 1))) (fun v17 =>
  v4 [nth v5 0, nth v5 1, nth v5 2, nth v5 3, v17]))))))))))))) (M.pure (AV.bool true)))
theorem XL93_0 {call : FuncId → List AV → M AV} : Cont1 (L93_0 call fixW ) fun _n => L93_0 call fixW  := by
  intro v4 v4s hself v5
  unfold L93_0
  exact (LimM.bnd (LimM.const _) fun _ => (condM_lim (LimM.bnd (LimM.const _) fun _ => (LimM.bnd (LimM.const _) fun _ => (LimM.bnd (LimM.const _) fun _ => (LimM.bnd (LimM.const _) fun _ => (LimM.bnd (LimM.const _) fun _ => (LimM.bnd (LimM.const _) fun _ => (LimM.bnd (LimM.const _) fun _ => (LimM.bnd (LimM.const _) fun _ => (LimM.bnd (LimM.const _) fun _ => (LimM.bnd (LimM.const _) fun _ => (condM_lim (LimM.const _) (LimM.bnd (LimM.const _) fun _ => (hself _))))))))))))) (LimM.const _)))
theorem FL93_0 (call : FuncId → List AV → M AV) (vs : List AV) : fixW (L93_0 call fixW ) vs = L93_0 call fixW  (fixW (L93_0 call fixW )) vs := fixW_eq (XL93_0 ) vs
noncomputable def S93 (call : FuncId → List AV → M AV) (fx : Fix AV) (a0 a1 a2 : AV) : M AV :=
  bnd (lft (lenA T 23 a0)) (fun v0 =>
  bnd (lft (lenA T 23 a1)) (fun v1 =>
  bnd (lft (binA T BinOp.neq 3 v0 v1)) (fun v2 =>
  condM v2 (M.pure (AV.bool false)) (bnd (lft (lenA T 23 a0)) (fun v3 =>
  fx (L93_0 call fx) [a1, a2, a0, v3, AV.int IntKind.i64 0])))))
theorem E93 (call : FuncId → List AV → M AV) (fx : Fix AV) (a0 a1 a2 : AV) : evBody (pg.cx call Try.f93.ntmps ann93) fx Try.f93 (own 93) [a0, a1, a2] = S93 call fx a0 a1 a2 := by kernel_rfl
theorem C93 (a0 a1 a2 : AV) : callW pg 93 [a0, a1, a2] = isoP (S93 (callW pg) fixW (cl noHs a0) (cl noHs a1) (cl noHs a2)) := (callW_iso hOther rfl rfl rfl _).trans (congrArg isoP (E93 _ _ (cl noHs a0) (cl noHs a1) (cl noHs a2)))
noncomputable def L98_0 (call : FuncId → List AV → M AV) (fx : Fix AV) (v1 : List AV → M AV) (v2 : List AV) : M AV :=
  bnd (lft (binA T BinOp.lss 3 (nth v2 3) (nth v2 2))) (fun v3 =>
  condM v3 (bnd (lft (indexAddrA T 58 (nth v2 0) (nth v2 3))) (fun v4 =>
  bnd (lft (loadA T 104 v4)) (fun v5 =>
  bnd (callV call (nth v2 1) [v5]) (fun v6 =>
  condM v6 (M.pure (nth v2 3)) (bnd (lft (binA T BinOp.add 3 (nth v2 3) (AV.int IntKind.i64 1))) (fun v7 =>
  v1 [nth v2 0, nth v2 1, nth v2 2, v7])))))) (M.pure (AV.int IntKind.i64 (-1))))
theorem XL98_0 {call : FuncId → List AV → M AV} : Cont1 (L98_0 call fixW ) fun _n => L98_0 call fixW  := by
  intro v1 v1s hself v2
  unfold L98_0
  exact (LimM.bnd (LimM.const _) fun _ => (condM_lim (LimM.bnd (LimM.const _) fun _ => (LimM.bnd (LimM.const _) fun _ => (LimM.bnd (LimM.const _) fun _ => (condM_lim (LimM.const _) (LimM.bnd (LimM.const _) fun _ => (hself _)))))) (LimM.const _)))
theorem FL98_0 (call : FuncId → List AV → M AV) (vs : List AV) : fixW (L98_0 call fixW ) vs = L98_0 call fixW  (fixW (L98_0 call fixW )) vs := fixW_eq (XL98_0 ) vs
noncomputable def S98 (call : FuncId → List AV → M AV) (fx : Fix AV) (a0 a1 : AV) : M AV :=
  bnd (lft (lenA T 58 a0)) (fun v0 =>
  fx (L98_0 call fx) [a0, a1, v0, AV.int IntKind.i64 0])
theorem E98 (call : FuncId → List AV → M AV) (fx : Fix AV) (a0 a1 : AV) : evBody (pg.cx call Try.f98.ntmps ann98) fx Try.f98 (own 98) [a0, a1] = S98 call fx a0 a1 := by kernel_rfl
theorem C98 (a0 a1 : AV) : callW pg 98 [a0, a1] = isoP (S98 (callW pg) fixW (cl noHs a0) (cl noHs a1)) := (callW_iso hOther rfl rfl rfl _).trans (congrArg isoP (E98 _ _ (cl noHs a0) (cl noHs a1)))
end Go.Proofs.Ytgbopmciiadmlaa
