/- Shallow programs of the functions, part 3: written by a program. No condition. -/
import Derived.Test.YteemeakjlfnapaaGreatDoorAnn
namespace Go.Proofs.YteemeakjlfnapaaGreatDoor
open Go Go.Av
set_option maxRecDepth 100000
noncomputable def S16 (call : FuncId → List AV → M AV) (fx : Fix AV) (a0 : AV) : M AV :=
  bnd (lft (loadA T 27 (AV.ip (acells a0)))) (fun v0 =>
  bnd (call 62 [v0, AV.int IntKind.i64 40]) (fun v1 =>
  bnd (lft (binA T BinOp.leq 3 v1 (AV.int IntKind.i64 40))) (fun v2 =>
  bnd (guardM v2 true 1 (bnd (lft (loadA T 27 (AV.ip (acells a0)))) (fun v3 =>
  bnd (call 63 [v3]) (fun v4 =>
  M.pure [v4])))) (fun v5 =>
  bnd (lft (pickA v2 (nth v5 0) (AV.bool false))) (fun v6 =>
  M.pure v6)))))
theorem E16 (call : FuncId → List AV → M AV) (fx : Fix AV) (a0 : AV) : evBody (pg.cx call Tryz.f16.ntmps ann16) fx Tryz.f16 (own 16) [a0] = S16 call fx a0 := by kernel_rfl
theorem C16 (a0 : AV) : callW pg 16 [a0] = isoP (S16 (callW pg) fixW (cl noHs a0)) := (callW_iso hOther rfl rfl rfl _).trans (congrArg isoP (E16 _ _ (cl noHs a0)))
noncomputable def S47 (call : FuncId → List AV → M AV) (fx : Fix AV) (a0 : AV) : M AV :=
  bnd (lft (loadA T 27 (AV.ip (acells a0)))) (fun v0 =>
  bnd (call 116 [v0, AV.int IntKind.i64 4]) (fun v1 =>
  M.pure v1))
theorem E47 (call : FuncId → List AV → M AV) (fx : Fix AV) (a0 : AV) : evBody (pg.cx call Tryz.f47.ntmps ann47) fx Tryz.f47 (own 47) [a0] = S47 call fx a0 := by kernel_rfl
theorem C47 (a0 : AV) : callW pg 47 [a0] = isoP (S47 (callW pg) fixW (cl noHs a0)) := (callW_iso hOther rfl rfl rfl _).trans (congrArg isoP (E47 _ _ (cl noHs a0)))
noncomputable def L111_0 (call : FuncId → List AV → M AV) (fx : Fix AV) (v4 : List AV → M AV) (v5 : List AV) : M AV :=
  bnd (lft (binA T BinOp.lss 3 (nth v5 4) (nth v5 3))) (fun v6 =>
  condM v6 (bnd (lft (indexAddrA T 54 (nth v5 2) (nth v5 4))) (fun v7 =>
  bnd (lft (loadA T 27 v7)) (fun v8 =>
  bnd (cellsM 2 v8) (fun v9 =>
  bnd (lft (indexAddrA T 54 (nth v5 0) (nth v5 4))) (fun v10 =>
  bnd (lft (loadA T 27 v10)) (fun v11 =>
  bnd (cellsM 2 v11) (fun v12 =>
  bnd (lft (loadA T 27 (AV.ip (acells v9)))) (fun v13 =>
  bnd (lft (loadA T 27 (AV.ip (acells v12)))) (fun v14 =>
  bnd (callV call (nth v5 1) [v13, v14]) (fun v15 =>
  bnd (lft (unA UnOp.not v15)) (fun v16 =>
  condM v16 (M.pure (AV.bool false)) (bnd (lft (binA T BinOp.add 3 (nth v5 4) (AV.int IntKind.i64 1))) (fun v17 =>
  v4 [nth v5 0, nth v5 1, nth v5 2, nth v5 3, v17]))))))))))))) (M.pure (AV.bool true)))
theorem XL111_0 {call : FuncId → List AV → M AV} : Cont1 (L111_0 call fixW ) fun _n => L111_0 call fixW  := by
  intro v4 v4s hself v5
  unfold L111_0
  exact (LimM.bnd (LimM.const _) fun _ => (condM_lim (LimM.bnd (LimM.const _) fun _ => (LimM.bnd (LimM.const _) fun _ => (LimM.bnd (LimM.const _) fun _ => (LimM.bnd (LimM.const _) fun _ => (LimM.bnd (LimM.const _) fun _ => (LimM.bnd (LimM.const _) fun _ => (LimM.bnd (LimM.const _) fun _ => (LimM.bnd (LimM.const _) fun _ => (LimM.bnd (LimM.const _) fun _ => (LimM.bnd (LimM.const _) fun _ => (condM_lim (LimM.const _) (LimM.bnd (LimM.const _) fun _ => (hself _))))))))))))) (LimM.const _)))
theorem FL111_0 (call : FuncId → List AV → M AV) (vs : List AV) : fixW (L111_0 call fixW ) vs = L111_0 call fixW  (fixW (L111_0 call fixW )) vs := fixW_eq (XL111_0 ) vs
noncomputable def S111 (call : FuncId → List AV → M AV) (fx : Fix AV) (a0 a1 a2 : AV) : M AV :=
  bnd (lft (lenA T 54 a0)) (fun v0 =>
  bnd (lft (lenA T 54 a1)) (fun v1 =>
  bnd (lft (binA T BinOp.neq 3 v0 v1)) (fun v2 =>
  condM v2 (M.pure (AV.bool false)) (bnd (lft (lenA T 54 a0)) (fun v3 =>
  fx (L111_0 call fx) [a1, a2, a0, v3, AV.int IntKind.i64 0])))))
theorem E111 (call : FuncId → List AV → M AV) (fx : Fix AV) (a0 a1 a2 : AV) : evBody (pg.cx call Tryz.f111.ntmps ann111) fx Tryz.f111 (own 111) [a0, a1, a2] = S111 call fx a0 a1 a2 := by kernel_rfl
theorem C111 (a0 a1 a2 : AV) : callW pg 111 [a0, a1, a2] = isoP (S111 (callW pg) fixW (cl noHs a0) (cl noHs a1) (cl noHs a2)) := (callW_iso hOther rfl rfl rfl _).trans (congrArg isoP (E111 _ _ (cl noHs a0) (cl noHs a1) (cl noHs a2)))
noncomputable def S148 (call : FuncId → List AV → M AV) (fx : Fix AV) (a0 a1 : AV) : M AV :=
  bnd (call 204 [a0, a1]) (fun v0 =>
  bnd (lft (binA T BinOp.geq 3 v0 (AV.int IntKind.i64 0))) (fun v1 =>
  M.pure v1))
theorem E148 (call : FuncId → List AV → M AV) (fx : Fix AV) (a0 a1 : AV) : evBody (pg.cx call Tryz.f148.ntmps ann148) fx Tryz.f148 (own 148) [a0, a1] = S148 call fx a0 a1 := by kernel_rfl
theorem C148 (a0 a1 : AV) : callW pg 148 [a0, a1] = isoP (S148 (callW pg) fixW (cl noHs a0) (cl noHs a1)) := (callW_iso hOther rfl rfl rfl _).trans (congrArg isoP (E148 _ _ (cl noHs a0) (cl noHs a1)))
end Go.Proofs.YteemeakjlfnapaaGreatDoor
