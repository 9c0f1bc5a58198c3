/- Shallow programs of the functions, part 1: written by a program. No condition. -/
import Derived.Test.YteemeakjlfnapaaGreatDoorAnn
namespace Go.Proofs.YteemeakjlfnapaaGreatDoor
open Go Go.Av
set_option maxRecDepth 100000
noncomputable def S47 (call : FuncId → List AV → M AV) (fx : Fix AV) (a0 : AV) : M AV :=
  bnd (lft (loadA T 27 (AV.ip (acells a0)))) (fun v0 =>
  bnd (call 116 [v0, AV.int IntKind.i64 4]) (fun v1 =>
  M.pure v1))
theorem E47 (call : FuncId → List AV → M AV) (fx : Fix AV) (a0 : AV) : evBody (pg.cx call Tryz.f47.ntmps ann47) fx Tryz.f47 (own 47) [a0] = S47 call fx a0 := by kernel_rfl
theorem C47 (a0 : AV) : callW pg 47 [a0] = isoP (S47 (callW pg) fixW (cl noHs a0)) := (callW_iso hOther rfl rfl rfl _).trans (congrArg isoP (E47 _ _ (cl noHs a0)))
noncomputable def S76 (call : FuncId → List AV → M AV) (fx : Fix AV) (a0 : AV) : M AV :=
  bnd (call 146 [a0]) (fun v0 =>
  bnd (guardM v0 true 1 (bnd (lft (binA T BinOp.add 9 (AV.str [32]) a0)) (fun v1 =>
  bnd (lft (binA T BinOp.add 9 v1 (AV.str [32]))) (fun v2 =>
  bnd (call 147 [AV.str [32, 97, 110, 100, 32, 98, 97, 99, 107, 32, 98, 111, 111, 108, 32, 99, 108, 111, 99, 107, 32, 101, 108, 115, 101, 32, 102, 97, 108, 115, 101, 32, 102, 105, 108, 101, 115, 32, 102, 110, 32, 102, 111, 114, 119, 97, 114, 100, 32, 103, 101, 116, 32, 105, 102, 32, 105, 110, 32, 105, 110, 116, 32, 108, 101, 116, 32, 109, 111, 100, 117, 108, 101, 32, 109, 111, 118, 101, 32, 110, 101, 116, 32, 110, 111, 116, 32, 111, 114, 32, 112, 117, 98, 32, 115, 101, 99, 114, 101, 116, 115, 32, 115, 101, 116, 32, 116, 104, 101, 110, 32, 116, 114, 117, 101, 32, 117, 115, 101, 32, 118, 97, 114, 32], v2]) (fun v3 =>
  bnd (lft (unA UnOp.not v3)) (fun v4 =>
  M.pure [v4])))))) (fun v5 =>
  bnd (lft (pickA v0 (nth v5 0) (AV.bool false))) (fun v6 =>
  M.pure v6)))
theorem E76 (call : FuncId → List AV → M AV) (fx : Fix AV) (a0 : AV) : evBody (pg.cx call Tryz.f76.ntmps ann76) fx Tryz.f76 (own 76) [a0] = S76 call fx a0 := by kernel_rfl
theorem C76 (a0 : AV) : callW pg 76 [a0] = isoP (S76 (callW pg) fixW (cl noHs a0)) := (callW_iso hOther rfl rfl rfl _).trans (congrArg isoP (E76 _ _ (cl noHs a0)))
noncomputable def S102 (call : FuncId → List AV → M AV) (fx : Fix AV) (a0 a1 : AV) : M AV :=
  bnd (lft (fieldAddrA T 56 (AV.ip (acells a0)) 0)) (fun v0 =>
  bnd (lft (loadA T 9 v0)) (fun v1 =>
  bnd (lft (loadA T 9 a1)) (fun v2 =>
  bnd (lft (binA T BinOp.eql 9 v1 v2)) (fun v3 =>
  M.pure v3))))
theorem E102 (call : FuncId → List AV → M AV) (fx : Fix AV) (a0 a1 : AV) : evBody (pg.cx call Tryz.f102.ntmps ann102) fx Tryz.f102 (own 102) [a0, a1] = S102 call fx a0 a1 := by kernel_rfl
theorem C102 (a0 a1 : AV) : callW pg 102 [a0, a1] = isoP (S102 (callW pg) fixW (cl noHs a0) (cl noHs a1)) := (callW_iso hOther rfl rfl rfl _).trans (congrArg isoP (E102 _ _ (cl noHs a0) (cl noHs a1)))
noncomputable def S108 (call : FuncId → List AV → M AV) (fx : Fix AV) (a0 a1 : AV) : M AV :=
  bnd (lft (fieldAddrA T 56 (AV.ip (acells a0)) 0)) (fun v0 =>
  bnd (lft (loadA T 9 v0)) (fun v1 =>
  bnd (lft (fieldAddrA T 56 (AV.ip (acells a1)) 0)) (fun v2 =>
  bnd (lft (loadA T 9 v2)) (fun v3 =>
  bnd (call 109 [v1, v3]) (fun v4 =>
  M.pure v4)))))
theorem E108 (call : FuncId → List AV → M AV) (fx : Fix AV) (a0 a1 : AV) : evBody (pg.cx call Tryz.f108.ntmps ann108) fx Tryz.f108 (own 108) [a0, a1] = S108 call fx a0 a1 := by kernel_rfl
theorem C108 (a0 a1 : AV) : callW pg 108 [a0, a1] = isoP (S108 (callW pg) fixW (cl noHs a0) (cl noHs a1)) := (callW_iso hOther rfl rfl rfl _).trans (congrArg isoP (E108 _ _ (cl noHs a0) (cl noHs a1)))
noncomputable def S109 (call : FuncId → List AV → M AV) (fx : Fix AV) (a0 a1 : AV) : M AV :=
  bnd (call 169 [a0]) (fun v0 =>
  bnd (call 169 [a1]) (fun v1 =>
  condM v0 (condM v1 (M.pure (AV.int IntKind.i64 0)) (M.pure (AV.int IntKind.i64 (-1)))) (condM v1 (M.pure (AV.int IntKind.i64 1)) (bnd (lft (binA T BinOp.lss 9 a0 a1)) (fun v2 =>
  condM v2 (M.pure (AV.int IntKind.i64 (-1))) (bnd (lft (binA T BinOp.gtr 9 a0 a1)) (fun v3 =>
  condM v3 (M.pure (AV.int IntKind.i64 1)) (M.pure (AV.int IntKind.i64 0)))))))))
theorem E109 (call : FuncId → List AV → M AV) (fx : Fix AV) (a0 a1 : AV) : evBody (pg.cx call Tryz.f109.ntmps ann109) fx Tryz.f109 (own 109) [a0, a1] = S109 call fx a0 a1 := by kernel_rfl
theorem C109 (a0 a1 : AV) : callW pg 109 [a0, a1] = isoP (S109 (callW pg) fixW (cl noHs a0) (cl noHs a1)) := (callW_iso hOther rfl rfl rfl _).trans (congrArg isoP (E109 _ _ (cl noHs a0) (cl noHs a1)))
noncomputable def L111_0 (call : FuncId → List AV → M AV) (fx : Fix AV) (v4 : List AV → M AV) (v5 : List AV) : M AV :=
  bnd (lft (binA T BinOp.lss 3 (nth v5 4) (nth v5 3))) (fun v6 =>
  condM v6 (bnd (lft (indexAddrA T 54 (nth v5 2) (nth v5 4))) (fun v7 =>
  bnd (lft (loadA T 27 v7)) (fun v8 =>
  bnd (cellsM 2 v8) (fun v9 =>
  bnd (lft (indexAddrA T 54 (nth v5 0) (nth v5 4))) (fun v10 =>
  bnd (lft (loadA T 27 v10)) (fun v11 =>
  bnd (cellsM 2 v11) (fun v12 =>
  bnd (lft (loadA T 27 (AV.ip (acells v9)))) (fun v13 =>
  bnd (lft (loadA T 27 (AV.ip (acells v12)))) (fun v14 =>
  bnd (callV call (nth v5 1) [v13, v14]) (fun v15 =>
  bnd (lft (unA UnOp.not v15)) (fun v16 =>
  condM v16 (M.pure (AV.bool false)) (bnd (lft (binA T BinOp.add 3 (nth v5 4) (AV.int IntKind.i64 1))) (fun v17 =>
  v4 [nth v5 0, nth v5 1, nth v5 2, nth v5 3, v17]))))))))))))) (M.pure (AV.bool true)))
theorem XL111_0 {call : FuncId → List AV → M AV} : Cont1 (L111_0 call fixW ) fun _n => L111_0 call fixW  := by
  intro v4 v4s hself v5
  unfold L111_0
  exact (LimM.bnd (LimM.const _) fun _ => (condM_lim (LimM.bnd (LimM.const _) fun _ => (LimM.bnd (LimM.const _) fun _ => (LimM.bnd (LimM.const _) fun _ => (LimM.bnd (LimM.const _) fun _ => (LimM.bnd (LimM.const _) fun _ => (LimM.bnd (LimM.const _) fun _ => (LimM.bnd (LimM.const _) fun _ => (LimM.bnd (LimM.const _) fun _ => (LimM.bnd (LimM.const _) fun _ => (LimM.bnd (LimM.const _) fun _ => (condM_lim (LimM.const _) (LimM.bnd (LimM.const _) fun _ => (hself _))))))))))))) (LimM.const _)))
theorem FL111_0 (call : FuncId → List AV → M AV) (vs : List AV) : fixW (L111_0 call fixW ) vs = L111_0 call fixW  (fixW (L111_0 call fixW )) vs := fixW_eq (XL111_0 ) vs
noncomputable def S111 (call : FuncId → List AV → M AV) (fx : Fix AV) (a0 a1 a2 : AV) : M AV :=
  bnd (lft (lenA T 54 a0)) (fun v0 =>
  bnd (lft (lenA T 54 a1)) (fun v1 =>
  bnd (lft (binA T BinOp.neq 3 v0 v1)) (fun v2 =>
  condM v2 (M.pure (AV.bool false)) (bnd (lft (lenA T 54 a0)) (fun v3 =>
  fx (L111_0 call fx) [a1, a2, a0, v3, AV.int IntKind.i64 0])))))
theorem E111 (call : FuncId → List AV → M AV) (fx : Fix AV) (a0 a1 a2 : AV) : evBody (pg.cx call Tryz.f111.ntmps ann111) fx Tryz.f111 (own 111) [a0, a1, a2] = S111 call fx a0 a1 a2 := by kernel_rfl
theorem C111 (a0 a1 a2 : AV) : callW pg 111 [a0, a1, a2] = isoP (S111 (callW pg) fixW (cl noHs a0) (cl noHs a1) (cl noHs a2)) := (callW_iso hOther rfl rfl rfl _).trans (congrArg isoP (E111 _ _ (cl noHs a0) (cl noHs a1) (cl noHs a2)))
noncomputable def L116_0 (call : FuncId → List AV → M AV) (fx : Fix AV) (v32 : List AV → M AV) (v33 : List AV) : M AV :=
  bnd (lft (binA T BinOp.lss 3 (nth v33 4) (nth v33 3))) (fun v34 =>
  condM v34 (bnd (lft (indexAddrA T 25 (nth v33 2) (nth v33 4))) (fun v35 =>
  bnd (lft (loadA T 76 v35)) (fun v36 =>
  bnd (cellsM 3 v36) (fun v37 =>
  bnd (lft (fieldAddrA T 76 (AV.ip (acells v37)) 0)) (fun v38 =>
  bnd (lft (loadA T 9 v38)) (fun v39 =>
  bnd (noPan (call 76 [v39])) (fun v40 =>
  bnd (lft (unA UnOp.not v40)) (fun v41 =>
  bnd (guardM v41 false 1 (bnd (lft (binA T BinOp.gtr 3 (nth v33 4) (AV.int IntKind.i64 0))) (fun v42 =>
  M.pure [v42]))) (fun v43 =>
  bnd (guardM (nth v43 0) true 1 (bnd (lft (fieldAddrA T 76 (AV.ip (acells v37)) 0)) (fun v44 =>
  bnd (lft (loadA T 9 v44)) (fun v45 =>
  bnd (lft (fieldAddrA T 27 (nth v33 1) 1)) (fun v46 =>
  bnd (lft (loadA T 25 v46)) (fun v47 =>
  bnd (lft (binA T BinOp.sub 3 (nth v33 4) (AV.int IntKind.i64 1))) (fun v48 =>
  bnd (lft (indexAddrA T 25 v47 v48)) (fun v49 =>
  bnd (lft (fieldAddrA T 76 v49 0)) (fun v50 =>
  bnd (lft (loadA T 9 v50)) (fun v51 =>
  bnd (lft (binA T BinOp.leq 9 v45 v51)) (fun v52 =>
  M.pure [v52]))))))))))) (fun v53 =>
  bnd (guardM v41 false 1 (bnd (lft (pickA (nth v43 0) (nth v53 0) (AV.bool false))) (fun v54 =>
  M.pure [v54]))) (fun v55 =>
  bnd (lft (pickA v41 (AV.bool true) (nth v55 0))) (fun v56 =>
  bnd (guardM v56 false 1 (bnd (lft (fieldAddrA T 76 (AV.ip (acells v37)) 1)) (fun v57 =>
  bnd (lft (loadA T 27 v57)) (fun v58 =>
  bnd (lft (binA T BinOp.sub 3 (nth v33 0) (AV.int IntKind.i64 1))) (fun v59 =>
  bnd (noPan (call 116 [v58, v59])) (fun v60 =>
  bnd (lft (unA UnOp.not v60)) (fun v61 =>
  M.pure [v61]))))))) (fun v62 =>
  bnd (lft (pickA v56 (AV.bool true) (nth v62 0))) (fun v63 =>
  condM v63 (M.pure (AV.bool false)) (bnd (lft (binA T BinOp.add 3 (nth v33 4) (AV.int IntKind.i64 1))) (fun v64 =>
  v32 [nth v33 0, nth v33 1, nth v33 2, nth v33 3, v64])))))))))))))))) (M.pure (AV.bool true)))
theorem XL116_0 {call : FuncId → List AV → M AV} : Cont1 (L116_0 call fixW ) fun _n => L116_0 call fixW  := by
  intro v32 v32s hself v33
  unfold L116_0
  exact (LimM.bnd (LimM.const _) fun _ => (condM_lim (LimM.bnd (LimM.const _) fun _ => (LimM.bnd (LimM.const _) fun _ => (LimM.bnd (LimM.const _) fun _ => (LimM.bnd (LimM.const _) fun _ => (LimM.bnd (LimM.const _) fun _ => (LimM.bnd (LimM.const _) fun _ => (LimM.bnd (LimM.const _) fun _ => (LimM.bnd (LimM.const _) fun _ => (LimM.bnd (LimM.const _) fun _ => (LimM.bnd (LimM.const _) fun _ => (LimM.bnd (LimM.const _) fun _ => (LimM.bnd (LimM.const _) fun _ => (LimM.bnd (LimM.const _) fun _ => (condM_lim (LimM.const _) (LimM.bnd (LimM.const _) fun _ => (hself _)))))))))))))))) (LimM.const _)))
theorem FL116_0 (call : FuncId → List AV → M AV) (vs : List AV) : fixW (L116_0 call fixW ) vs = L116_0 call fixW  (fixW (L116_0 call fixW )) vs := fixW_eq (XL116_0 ) vs
noncomputable def S116 (call : FuncId → List AV → M AV) (fx : Fix AV) (a0 a1 : AV) : M AV :=
  bnd (lft (binA T BinOp.eql 3 a1 (AV.int IntKind.i64 0))) (fun v0 =>
  bnd (guardM v0 false 1 (bnd (lft (fieldAddrA T 27 (AV.ip (acells a0)) 0)) (fun v1 =>
  bnd (lft (loadA T 3 v1)) (fun v2 =>
  bnd (lft (binA T BinOp.lss 3 v2 (AV.int IntKind.i64 0))) (fun v3 =>
  M.pure [v3]))))) (fun v4 =>
  bnd (lft (pickA v0 (AV.bool true) (nth v4 0))) (fun v5 =>
  bnd (guardM v5 false 1 (bnd (lft (fieldAddrA T 27 (AV.ip (acells a0)) 0)) (fun v6 =>
  bnd (lft (loadA T 3 v6)) (fun v7 =>
  bnd (lft (binA T BinOp.geq 3 v7 (AV.int IntKind.i64 3))) (fun v8 =>
  M.pure [v8]))))) (fun v9 =>
  bnd (lft (pickA v5 (AV.bool true) (nth v9 0))) (fun v10 =>
  bnd (guardM v10 false 1 (bnd (lft (fieldAddrA T 27 (AV.ip (acells a0)) 1)) (fun v11 =>
  bnd (lft (loadA T 25 v11)) (fun v12 =>
  bnd (lft (lenA T 25 v12)) (fun v13 =>
  bnd (lft (binA T BinOp.gtr 3 v13 (AV.int IntKind.i64 8))) (fun v14 =>
  M.pure [v14])))))) (fun v15 =>
  bnd (lft (pickA v10 (AV.bool true) (nth v15 0))) (fun v16 =>
  bnd (guardM v16 false 1 (bnd (lft (fieldAddrA T 27 (AV.ip (acells a0)) 0)) (fun v17 =>
  bnd (lft (loadA T 3 v17)) (fun v18 =>
  bnd (lft (binA T BinOp.neq 3 v18 (AV.int IntKind.i64 2))) (fun v19 =>
  M.pure [v19]))))) (fun v20 =>
  bnd (guardM (nth v20 0) true 1 (bnd (lft (fieldAddrA T 27 (AV.ip (acells a0)) 1)) (fun v21 =>
  bnd (lft (loadA T 25 v21)) (fun v22 =>
  bnd (lft (lenA T 25 v22)) (fun v23 =>
  bnd (lft (binA T BinOp.gtr 3 v23 (AV.int IntKind.i64 0))) (fun v24 =>
  M.pure [v24])))))) (fun v25 =>
  bnd (guardM v16 false 1 (bnd (lft (pickA (nth v20 0) (nth v25 0) (AV.bool false))) (fun v26 =>
  M.pure [v26]))) (fun v27 =>
  bnd (lft (pickA v16 (AV.bool true) (nth v27 0))) (fun v28 =>
  condM v28 (M.pure (AV.bool false)) (bnd (lft (fieldAddrA T 27 (AV.ip (acells a0)) 1)) (fun v29 =>
  bnd (lft (loadA T 25 v29)) (fun v30 =>
  bnd (lft (lenA T 25 v30)) (fun v31 =>
  fx (L116_0 call fx) [a1, AV.ip (acells a0), v30, v31, AV.int IntKind.i64 0])))))))))))))))
theorem E116 (call : FuncId → List AV → M AV) (fx : Fix AV) (a0 a1 : AV) : evBody (pg.cx call Tryz.f116.ntmps ann116) fx Tryz.f116 (own 116) [a0, a1] = S116 call fx a0 a1 := by kernel_rfl
theorem C116 (a0 a1 : AV) : callW pg 116 [a0, a1] = isoP (S116 (callW pg) fixW (cl noHs a0) (cl noHs a1)) := (callW_iso hOther rfl rfl rfl _).trans (congrArg isoP (E116 _ _ (cl noHs a0) (cl noHs a1)))
noncomputable def S148 (call : FuncId → List AV → M AV) (fx : Fix AV) (a0 a1 : AV) : M AV :=
  bnd (call 204 [a0, a1]) (fun v0 =>
  bnd (lft (binA T BinOp.geq 3 v0 (AV.int IntKind.i64 0))) (fun v1 =>
  M.pure v1))
theorem E148 (call : FuncId → List AV → M AV) (fx : Fix AV) (a0 a1 : AV) : evBody (pg.cx call Tryz.f148.ntmps ann148) fx Tryz.f148 (own 148) [a0, a1] = S148 call fx a0 a1 := by kernel_rfl
theorem C148 (a0 a1 : AV) : callW pg 148 [a0, a1] = isoP (S148 (callW pg) fixW (cl noHs a0) (cl noHs a1)) := (callW_iso hOther rfl rfl rfl _).trans (congrArg isoP (E148 _ _ (cl noHs a0) (cl noHs a1)))
noncomputable def S186 (call : FuncId → List AV → M AV) (fx : Fix AV) (a0 a1 : AV) : M AV :=
  bnd (lft (fieldAddrA T 27 a1 1)) (fun v0 =>
  bnd (lft (loadA T 25 v0)) (fun v1 =>
  bnd (lft (fieldAddrA T 76 (AV.ip (acells a0)) 0)) (fun v2 =>
  bnd (lft (loadA T 9 v2)) (fun v3 =>
  bnd (call 181 [v1, v3]) (fun v4 =>
  bnd (lft (extractA v4 0)) (fun v5 =>
  bnd (lft (extractA v4 1)) (fun v6 =>
  bnd (cellsM 2 v5) (fun v7 =>
  bnd (lft (unA UnOp.not v6)) (fun v8 =>
  bnd (guardM v8 false 1 (bnd (lft (loadA T 27 (AV.ip (acells v7)))) (fun v9 =>
  bnd (lft (fieldAddrA T 76 (AV.ip (acells a0)) 1)) (fun v10 =>
  bnd (lft (loadA T 27 v10)) (fun v11 =>
  bnd (call 125 [v9, v11]) (fun v12 =>
  bnd (lft (unA UnOp.not v12)) (fun v13 =>
  M.pure [v13]))))))) (fun v14 =>
  bnd (lft (pickA v8 (AV.bool true) (nth v14 0))) (fun v15 =>
  M.pure v15)))))))))))
theorem E186 (call : FuncId → List AV → M AV) (fx : Fix AV) (a0 a1 : AV) : evBody (pg.cx call Tryz.f186.ntmps ann186) fx Tryz.f186 (own 186) [a0, a1] = S186 call fx a0 a1 := by kernel_rfl
theorem C186 (a0 a1 : AV) : callW pg 186 [a0, a1] = isoP (S186 (callW pg) fixW (cl noHs a0) (cl noHs a1)) := (callW_iso hOther rfl rfl rfl _).trans (congrArg isoP (E186 _ _ (cl noHs a0) (cl noHs a1)))
noncomputable def L189_0 (call : FuncId → List AV → M AV) (fx : Fix AV) (v1 : List AV → M AV) (v2 : List AV) : M AV :=
  bnd (lft (binA T BinOp.lss 3 (nth v2 3) (nth v2 2))) (fun v3 =>
  condM v3 (bnd (lft (indexAddrA T 25 (nth v2 0) (nth v2 3))) (fun v4 =>
  bnd (lft (loadA T 76 v4)) (fun v5 =>
  bnd (callV call (nth v2 1) [v5]) (fun v6 =>
  condM v6 (M.pure (nth v2 3)) (bnd (lft (binA T BinOp.add 3 (nth v2 3) (AV.int IntKind.i64 1))) (fun v7 =>
  v1 [nth v2 0, nth v2 1, nth v2 2, v7])))))) (M.pure (AV.int IntKind.i64 (-1))))
theorem XL189_0 {call : FuncId → List AV → M AV} : Cont1 (L189_0 call fixW ) fun _n => L189_0 call fixW  := by
  intro v1 v1s hself v2
  unfold L189_0
  exact (LimM.bnd (LimM.const _) fun _ => (condM_lim (LimM.bnd (LimM.const _) fun _ => (LimM.bnd (LimM.const _) fun _ => (LimM.bnd (LimM.const _) fun _ => (condM_lim (LimM.const _) (LimM.bnd (LimM.const _) fun _ => (hself _)))))) (LimM.const _)))
theorem FL189_0 (call : FuncId → List AV → M AV) (vs : List AV) : fixW (L189_0 call fixW ) vs = L189_0 call fixW  (fixW (L189_0 call fixW )) vs := fixW_eq (XL189_0 ) vs
noncomputable def S189 (call : FuncId → List AV → M AV) (fx : Fix AV) (a0 a1 : AV) : M AV :=
  bnd (lft (lenA T 25 a0)) (fun v0 =>
  fx (L189_0 call fx) [a0, a1, v0, AV.int IntKind.i64 0])
theorem E189 (call : FuncId → List AV → M AV) (fx : Fix AV) (a0 a1 : AV) : evBody (pg.cx call Tryz.f189.ntmps ann189) fx Tryz.f189 (own 189) [a0, a1] = S189 call fx a0 a1 := by kernel_rfl
theorem C189 (a0 a1 : AV) : callW pg 189 [a0, a1] = isoP (S189 (callW pg) fixW (cl noHs a0) (cl noHs a1)) := (callW_iso hOther rfl rfl rfl _).trans (congrArg isoP (E189 _ _ (cl noHs a0) (cl noHs a1)))
noncomputable def S201 (call : FuncId → List AV → M AV) (fx : Fix AV) (a0 : AV) : M AV :=
  bnd (call 199 [a0]) (fun v0 =>
  bnd (guardM v0 false 1 (bnd (call 202 [a0]) (fun v1 =>
  M.pure [v1]))) (fun v2 =>
  bnd (lft (pickA v0 (AV.bool true) (nth v2 0))) (fun v3 =>
  M.pure v3)))
theorem E201 (call : FuncId → List AV → M AV) (fx : Fix AV) (a0 : AV) : evBody (pg.cx call Tryz.f201.ntmps ann201) fx Tryz.f201 (own 201) [a0] = S201 call fx a0 := by kernel_rfl
theorem C201 (a0 : AV) : callW pg 201 [a0] = isoP (S201 (callW pg) fixW (cl noHs a0)) := (callW_iso hOther rfl rfl rfl _).trans (congrArg isoP (E201 _ _ (cl noHs a0)))
noncomputable def S202 (call : FuncId → List AV → M AV) (fx : Fix AV) (a0 : AV) : M AV :=
  bnd (lft (binA T BinOp.geq 5 a0 (AV.int IntKind.u8 48))) (fun v0 =>
  bnd (guardM v0 true 1 (bnd (lft (binA T BinOp.leq 5 a0 (AV.int IntKind.u8 57))) (fun v1 =>
  M.pure [v1]))) (fun v2 =>
  bnd (lft (pickA v0 (nth v2 0) (AV.bool false))) (fun v3 =>
  M.pure v3)))
theorem E202 (call : FuncId → List AV → M AV) (fx : Fix AV) (a0 : AV) : evBody (pg.cx call Tryz.f202.ntmps ann202) fx Tryz.f202 (own 202) [a0] = S202 call fx a0 := by kernel_rfl
theorem C202 (a0 : AV) : callW pg 202 [a0] = isoP (S202 (callW pg) fixW (cl noHs a0)) := (callW_iso hOther rfl rfl rfl _).trans (congrArg isoP (E202 _ _ (cl noHs a0)))
end Go.Proofs.YteemeakjlfnapaaGreatDoor
