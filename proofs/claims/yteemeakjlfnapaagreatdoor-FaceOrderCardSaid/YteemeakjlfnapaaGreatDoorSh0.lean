/- Shallow programs of the functions, part 0: written by a program. No condition. -/
import Derived.Test.YteemeakjlfnapaaGreatDoorAnn
namespace Go.Proofs.YteemeakjlfnapaaGreatDoor
open Go Go.Av
set_option maxRecDepth 100000
noncomputable def S53 (call : FuncId → List AV → M AV) (fx : Fix AV) (a0 : AV) : M AV :=
  bnd (lft (loadA T 27 (AV.ip (acells a0)))) (fun v0 =>
  bnd (call 130 [v0, AV.int IntKind.i64 40, AV.int IntKind.i64 6]) (fun v1 =>
  bnd (lft (binA T BinOp.leq 3 v1 (AV.int IntKind.i64 40))) (fun v2 =>
  M.pure v2)))
theorem E53 (call : FuncId → List AV → M AV) (fx : Fix AV) (a0 : AV) : evBody (pg.cx call Tryz.f53.ntmps ann53) fx Tryz.f53 (own 53) [a0] = S53 call fx a0 := by kernel_rfl
theorem C53 (a0 : AV) : callW pg 53 [a0] = isoP (S53 (callW pg) fixW (cl noHs a0)) := (callW_iso hOther rfl rfl rfl _).trans (congrArg isoP (E53 _ _ (cl noHs a0)))
noncomputable def L101_0 (call : FuncId → List AV → M AV) (fx : Fix AV) (v1 : List AV → M AV) (v2 : List AV) : M AV :=
  bnd (lft (binA T BinOp.lss 3 (nth v2 3) (nth v2 2))) (fun v3 =>
  condM v3 (bnd (lft (indexAddrA T 22 (nth v2 0) (nth v2 3))) (fun v4 =>
  bnd (lft (loadA T 56 v4)) (fun v5 =>
  bnd (callV call (nth v2 1) [v5]) (fun v6 =>
  condM v6 (M.pure (nth v2 3)) (bnd (lft (binA T BinOp.add 3 (nth v2 3) (AV.int IntKind.i64 1))) (fun v7 =>
  v1 [nth v2 0, nth v2 1, nth v2 2, v7])))))) (M.pure (AV.int IntKind.i64 (-1))))
theorem XL101_0 {call : FuncId → List AV → M AV} : Cont1 (L101_0 call fixW ) fun _n => L101_0 call fixW  := by
  intro v1 v1s hself v2
  unfold L101_0
  exact (LimM.bnd (LimM.const _) fun _ => (condM_lim (LimM.bnd (LimM.const _) fun _ => (LimM.bnd (LimM.const _) fun _ => (LimM.bnd (LimM.const _) fun _ => (condM_lim (LimM.const _) (LimM.bnd (LimM.const _) fun _ => (hself _)))))) (LimM.const _)))
theorem FL101_0 (call : FuncId → List AV → M AV) (vs : List AV) : fixW (L101_0 call fixW ) vs = L101_0 call fixW  (fixW (L101_0 call fixW )) vs := fixW_eq (XL101_0 ) vs
noncomputable def S101 (call : FuncId → List AV → M AV) (fx : Fix AV) (a0 a1 : AV) : M AV :=
  bnd (lft (lenA T 22 a0)) (fun v0 =>
  fx (L101_0 call fx) [a0, a1, v0, AV.int IntKind.i64 0])
theorem E101 (call : FuncId → List AV → M AV) (fx : Fix AV) (a0 a1 : AV) : evBody (pg.cx call Tryz.f101.ntmps ann101) fx Tryz.f101 (own 101) [a0, a1] = S101 call fx a0 a1 := by kernel_rfl
theorem C101 (a0 a1 : AV) : callW pg 101 [a0, a1] = isoP (S101 (callW pg) fixW (cl noHs a0) (cl noHs a1)) := (callW_iso hOther rfl rfl rfl _).trans (congrArg isoP (E101 _ _ (cl noHs a0) (cl noHs a1)))
noncomputable def S146 (call : FuncId → List AV → M AV) (fx : Fix AV) (a0 : AV) : M AV :=
  bnd (lft (binA T BinOp.eql 9 a0 (AV.str []))) (fun v0 =>
  bnd (guardM v0 false 1 (bnd (lft (indexStrA T 9 a0 (AV.int IntKind.i64 0))) (fun v1 =>
  bnd (call 199 [v1]) (fun v2 =>
  bnd (lft (unA UnOp.not v2)) (fun v3 =>
  M.pure [v3]))))) (fun v4 =>
  bnd (lft (pickA v0 (AV.bool true) (nth v4 0))) (fun v5 =>
  bnd (guardM v5 false 1 (bnd (lft (lenA T 9 a0)) (fun v6 =>
  bnd (lft (binA T BinOp.gtr 3 v6 (AV.int IntKind.i64 20))) (fun v7 =>
  M.pure [v7])))) (fun v8 =>
  bnd (lft (pickA v5 (AV.bool true) (nth v8 0))) (fun v9 =>
  condM v9 (M.pure (AV.bool false)) (bnd (call 200 [a0, AV.fn (Fn.func 201) [] []]) (fun v10 =>
  bnd (lft (lenA T 9 a0)) (fun v11 =>
  bnd (lft (binA T BinOp.eql 3 v10 v11)) (fun v12 =>
  M.pure v12)))))))))
theorem E146 (call : FuncId → List AV → M AV) (fx : Fix AV) (a0 : AV) : evBody (pg.cx call Tryz.f146.ntmps ann146) fx Tryz.f146 (own 146) [a0] = S146 call fx a0 := by kernel_rfl
theorem C146 (a0 : AV) : callW pg 146 [a0] = isoP (S146 (callW pg) fixW (cl noHs a0)) := (callW_iso hOther rfl rfl rfl _).trans (congrArg isoP (E146 _ _ (cl noHs a0)))
noncomputable def S149 (call : FuncId → List AV → M AV) (fx : Fix AV) (a0 : AV) : M AV :=
  bnd (lft (loadA T 27 (AV.ip (acells a0)))) (fun v0 =>
  bnd (call 47 [v0]) (fun v1 =>
  bnd (lft (unA UnOp.not v1)) (fun v2 =>
  M.pure v2)))
theorem E149 (call : FuncId → List AV → M AV) (fx : Fix AV) (a0 : AV) : evBody (pg.cx call Tryz.f149.ntmps ann149) fx Tryz.f149 (own 149) [a0] = S149 call fx a0 := by kernel_rfl
theorem C149 (a0 : AV) : callW pg 149 [a0] = isoP (S149 (callW pg) fixW (cl noHs a0)) := (callW_iso hOther rfl rfl rfl _).trans (congrArg isoP (E149 _ _ (cl noHs a0)))
noncomputable def S169 (call : FuncId → List AV → M AV) (fx : Fix AV) (a0 : AV) : M AV :=
  bnd (lft (binA T BinOp.neq 9 a0 a0)) (fun v0 =>
  M.pure v0)
theorem E169 (call : FuncId → List AV → M AV) (fx : Fix AV) (a0 : AV) : evBody (pg.cx call Tryz.f169.ntmps ann169) fx Tryz.f169 (own 169) [a0] = S169 call fx a0 := by kernel_rfl
theorem C169 (a0 : AV) : callW pg 169 [a0] = isoP (S169 (callW pg) fixW (cl noHs a0)) := (callW_iso hOther rfl rfl rfl _).trans (congrArg isoP (E169 _ _ (cl noHs a0)))
noncomputable def S199 (call : FuncId → List AV → M AV) (fx : Fix AV) (a0 : AV) : M AV :=
  bnd (lft (binA T BinOp.geq 5 a0 (AV.int IntKind.u8 97))) (fun v0 =>
  bnd (guardM v0 true 1 (bnd (lft (binA T BinOp.leq 5 a0 (AV.int IntKind.u8 122))) (fun v1 =>
  M.pure [v1]))) (fun v2 =>
  bnd (lft (pickA v0 (nth v2 0) (AV.bool false))) (fun v3 =>
  M.pure v3)))
theorem E199 (call : FuncId → List AV → M AV) (fx : Fix AV) (a0 : AV) : evBody (pg.cx call Tryz.f199.ntmps ann199) fx Tryz.f199 (own 199) [a0] = S199 call fx a0 := by kernel_rfl
theorem C199 (a0 : AV) : callW pg 199 [a0] = isoP (S199 (callW pg) fixW (cl noHs a0)) := (callW_iso hOther rfl rfl rfl _).trans (congrArg isoP (E199 _ _ (cl noHs a0)))
noncomputable def L200_0 (call : FuncId → List AV → M AV) (fx : Fix AV) (v0 : List AV → M AV) (v1 : List AV) : M AV :=
  bnd (lft (lenA T 9 (nth v1 0))) (fun v2 =>
  bnd (lft (binA T BinOp.lss 3 (nth v1 2) v2)) (fun v3 =>
  bnd (guardM v3 true 1 (bnd (lft (indexStrA T 9 (nth v1 0) (nth v1 2))) (fun v4 =>
  bnd (callV call (nth v1 1) [v4]) (fun v5 =>
  M.pure [v5])))) (fun v6 =>
  bnd (lft (pickA v3 (nth v6 0) (AV.bool false))) (fun v7 =>
  condM v7 (bnd (lft (binA T BinOp.add 3 (nth v1 2) (AV.int IntKind.i64 1))) (fun v8 =>
  v0 [nth v1 0, nth v1 1, v8])) (M.pure (nth v1 2))))))
theorem XL200_0 {call : FuncId → List AV → M AV} : Cont1 (L200_0 call fixW ) fun _n => L200_0 call fixW  := by
  intro v0 v0s hself v1
  unfold L200_0
  exact (LimM.bnd (LimM.const _) fun _ => (LimM.bnd (LimM.const _) fun _ => (LimM.bnd (LimM.const _) fun _ => (LimM.bnd (LimM.const _) fun _ => (condM_lim (LimM.bnd (LimM.const _) fun _ => (hself _)) (LimM.const _))))))
theorem FL200_0 (call : FuncId → List AV → M AV) (vs : List AV) : fixW (L200_0 call fixW ) vs = L200_0 call fixW  (fixW (L200_0 call fixW )) vs := fixW_eq (XL200_0 ) vs
noncomputable def S200 (call : FuncId → List AV → M AV) (fx : Fix AV) (a0 a1 : AV) : M AV :=
  fx (L200_0 call fx) [a0, a1, AV.int IntKind.i64 0]
theorem E200 (call : FuncId → List AV → M AV) (fx : Fix AV) (a0 a1 : AV) : evBody (pg.cx call Tryz.f200.ntmps ann200) fx Tryz.f200 (own 200) [a0, a1] = S200 call fx a0 a1 := by kernel_rfl
theorem C200 (a0 a1 : AV) : callW pg 200 [a0, a1] = isoP (S200 (callW pg) fixW (cl noHs a0) (cl noHs a1)) := (callW_iso hOther rfl rfl rfl _).trans (congrArg isoP (E200 _ _ (cl noHs a0) (cl noHs a1)))
end Go.Proofs.YteemeakjlfnapaaGreatDoor
