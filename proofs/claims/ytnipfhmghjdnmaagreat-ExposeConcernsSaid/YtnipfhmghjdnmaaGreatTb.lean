/- What the functions of the seat compute, part 2: the texts of the claim, one behind the other. Conditions: bounds, as each theorem names them. -/
import Derived.Test.YtnipfhmghjdnmaaGreatTa
import Derived.Shelf.SlGeneric
import Derived.Shelf.SlSortCmp.WholeK
import Derived.Ground.SlsfProg
import Derived.Test.YtnipfhmghjdnmaaGreatProg
import Derived.Test.YtnipfhmghjdnmaaGreatLd
import Derived.Shelf.SlSortCmp.NoneTotal
import Derived.Tactics
import Derived.Tactics2
import Derived.Defers
import Derived.Recover

namespace Go.Proofs.YtnipfhmghjdnmaaGreat
open Go Go.Av Go.Av.Ap
set_option maxRecDepth 100000
noncomputable def K4_0 (_call:CC) (_fx:Fix AV) (v9:List AV→M AV) (v12:List AV):M AV :=
 bnd (lft (binA T .sub 3 (nth v12 4) (AV.int .i64 1))) fun v13 =>
 v9 [nth v12 0,nth v12 1,nth v12 2,nth v12 3,v13]
noncomputable def K4_1 (_call:CC) (_fx:Fix AV) (v70:List AV→M AV) (v76:List AV):M AV :=
 bnd (lft (binA T .add 3 (nth v76 3) (AV.int .i64 1))) fun v77 =>
 v70 [nth v76 0,nth v76 1,nth v76 2,v77,nth v76 4,nth v76 5,nth v76 6,nth v76 7,nth v76 8,nth v76 9,nth v76 10,nth v76 11]
noncomputable def L4_0 (call:CC) (fx:Fix AV) (v70:List AV→M AV) (v71:List AV):M AV :=
 bnd (lft (fieldAddrA T 26 (nth v71 0) 0)) fun v72 =>
 bnd (lft (loadA T 22 v72)) fun v73 =>
 bnd (lft (lenA T 22 v73)) fun v74 =>
 bnd (lft (binA T .lss 3 (nth v71 3) v74)) fun v75 =>
 condM v75 (jn (K4_1 call fx v70) fun v78 =>
 bnd (lft (fieldAddrA T 26 (nth v71 0) 0)) fun v79 =>
 bnd (lft (loadA T 22 v79)) fun v80 =>
 bnd (lft (indexAddrA T 22 v80 (nth v71 3))) fun v81 =>
 bnd (lft (fieldAddrA T 55 v81 0)) fun v82 =>
 bnd (lft (loadA T 9 v82)) fun v83 =>
 bnd (lft (fieldAddrA T 33 (nth v71 1) 1)) fun v84 =>
 bnd (lft (loadA T 9 v84)) fun v85 =>
 bnd (lft (binA T .neq 9 v83 v85)) fun v86 =>
 condM v86 (bnd (lft (fieldAddrA T 26 (nth v71 0) 0)) fun v87 =>
 bnd (lft (loadA T 22 v87)) fun v88 =>
 bnd (lft (indexAddrA T 22 v88 (nth v71 3))) fun v89 =>
 bnd (lft (loadA T 55 v89)) fun v90 =>
 bnd (lft (buildSliceA T 22 1 [(0,v90)])) fun v91 =>
 bnd (lft (appA T 22 (nth v71 8) v91)) fun v92 =>
 bnd (cell1M v92) fun _v93 =>
 v78 [nth v71 0,nth v71 1,nth v71 2,nth v71 3,nth v71 4,nth v71 5,nth v71 6,nth v71 7,v92,nth v71 9,nth v71 10,nth v71 11]) (v78 [nth v71 0,nth v71 1,nth v71 2,nth v71 3,nth v71 4,nth v71 5,nth v71 6,nth v71 7,nth v71 8,nth v71 9,nth v71 10,nth v71 11])) (bnd (lft (loadA T 33 (nth v71 1))) fun v94 =>
 bnd (cellsNil 10 [] v94) fun v95 =>
 bnd (guardM (nth v71 2) true 1 (bnd (lft (loadA T 33 (nth v71 1))) fun v96 =>
 bnd (call 18 [AV.agg [nth v71 4,nth v71 5,nth v71 6,nth v71 7],v96]) fun v97 =>
 bnd (lft (binA T .eql 3 v97 (AV.int .i64 0))) fun v98 =>
 M.pure [v98])) fun v99 =>
 bnd (lft (pickA (nth v71 2) (nth v99 0) (AV.bool false))) fun v100 =>
 bnd (guardM v100 true 1 (bnd (lft (loadA T 33 (nth v71 1))) fun v101 =>
 bnd (call 18 [AV.agg [nth v71 8,nth v71 9,nth v71 10,nth v71 11],v101]) fun v102 =>
 bnd (lft (binA T .eql 3 v102 (AV.int .i64 0))) fun v103 =>
 M.pure [v103])) fun v104 =>
 bnd (lft (pickA v100 (nth v104 0) (AV.bool false))) fun v105 =>
 bnd (guardM v105 true 1 (bnd (lft (loadA T 26 (nth v71 0))) fun v106 =>
 bnd (call 18 [v106,AV.agg [nth (acells v95) 0,nth (acells v95) 1,AV.sl [],nth (acells v95) 3,nth (acells v95) 4,nth (acells v95) 5,nth (acells v95) 6,nth (acells v95) 7,nth (acells v95) 8,nth (acells v95) 9]]) fun v107 =>
 bnd (lft (binA T .eql 3 v107 (AV.int .i64 0))) fun v108 =>
 M.pure [v108])) fun v109 =>
 bnd (lft (pickA v105 (nth v109 0) (AV.bool false))) fun v110 =>
 bnd (guardM v110 true 1 (bnd (lft (loadA T 33 (nth v71 1))) fun v111 =>
 bnd (call 13 [AV.agg [nth v71 8,nth v71 9,nth v71 10,nth v71 11],v111]) fun v112 =>
 bnd (lft (lenA T 42 v112)) fun v113 =>
 bnd (lft (binA T .eql 3 v113 (AV.int .i64 0))) fun v114 =>
 M.pure [v114])) fun v115 =>
 bnd (lft (pickA v110 (nth v115 0) (AV.bool false))) fun v116 =>
 M.pure v116)
noncomputable def K4_2 (call:CC) (fx:Fix AV) (v36:List AV):M AV :=
 bnd (guardM (nth v36 3) true 1 (bnd (lft (unA UnOp.not (nth v36 4))) fun v37 =>
 M.pure [v37])) fun v38 =>
 bnd (lft (pickA (nth v36 3) (nth v38 0) (AV.bool false))) fun v39 =>
 bnd (guardM v39 false 1 (bnd (lft (unA UnOp.not (nth v36 3))) fun v40 =>
 M.pure [v40])) fun v41 =>
 bnd (guardM (nth v41 0) true 1 (bnd (lft (loadA T 26 (nth v36 0))) fun v42 =>
 bnd (lft (loadA T 33 (nth v36 1))) fun v43 =>
 bnd (call 13 [v42,v43]) fun v44 =>
 bnd (lft (lenA T 42 v44)) fun v45 =>
 bnd (lft (binA T .gtr 3 v45 (AV.int .i64 0))) fun v46 =>
 M.pure [v46])) fun v47 =>
 bnd (guardM (nth v47 0) false 1 (bnd (lft (loadA T 26 (nth v36 0))) fun v48 =>
 bnd (lft (loadA T 33 (nth v36 1))) fun v49 =>
 bnd (call 16 [v48,v49]) fun v50 =>
 bnd (lft (lenA T 45 v50)) fun v51 =>
 bnd (lft (binA T .gtr 3 v51 (AV.int .i64 0))) fun v52 =>
 M.pure [v52])) fun v53 =>
 bnd (guardM (nth v41 0) true 1 (bnd (lft (pickA (nth v47 0) (AV.bool true) (nth v53 0))) fun v54 =>
 M.pure [v54])) fun v55 =>
 bnd (guardM (nth v55 0) false 1 (bnd (lft (loadA T 26 (nth v36 0))) fun v56 =>
 bnd (lft (loadA T 33 (nth v36 1))) fun v57 =>
 bnd (call 18 [v56,v57]) fun v58 =>
 bnd (lft (binA T .neq 3 v58 (AV.int .i64 0))) fun v59 =>
 M.pure [v59])) fun v60 =>
 bnd (guardM (nth v41 0) true 1 (bnd (lft (pickA (nth v55 0) (AV.bool true) (nth v60 0))) fun v61 =>
 M.pure [v61])) fun v62 =>
 bnd (guardM v39 false 1 (bnd (lft (pickA (nth v41 0) (nth v62 0) (AV.bool false))) fun v63 =>
 M.pure [v63])) fun v64 =>
 bnd (lft (pickA v39 (AV.bool true) (nth v64 0))) fun v65 =>
 condM v65 (M.pure (AV.bool false)) (bnd (lft (loadA T 26 (nth v36 0))) fun v66 =>
 bnd (cellsNil 4 [] v66) fun v67 =>
 bnd (lft (loadA T 26 (nth v36 0))) fun v68 =>
 bnd (cellsNil 4 [] v68) fun v69 =>
 fx (L4_0 call fx) [nth v36 0,nth v36 1,nth v36 2,AV.int .i64 0,nth (acells v67) 0,AV.sl [],nth (acells v67) 2,nth (acells v67) 3,AV.sl [],nth (acells v69) 1,nth (acells v69) 2,nth (acells v69) 3])
noncomputable def L4_1 (call:CC) (fx:Fix AV) (v9:List AV→M AV) (v10:List AV):M AV :=
 bnd (lft (binA T .geq 3 (nth v10 4) (AV.int .i64 0))) fun v11 =>
 condM v11 (jn (K4_0 call fx v9) fun v14 =>
 bnd (lft (fieldAddrA T 26 (nth v10 0) 0)) fun v15 =>
 bnd (lft (loadA T 22 v15)) fun v16 =>
 bnd (lft (indexAddrA T 22 v16 (nth v10 4))) fun v17 =>
 bnd (lft (fieldAddrA T 55 v17 0)) fun v18 =>
 bnd (lft (loadA T 9 v18)) fun v19 =>
 bnd (lft (fieldAddrA T 33 (nth v10 1) 1)) fun v20 =>
 bnd (lft (loadA T 9 v20)) fun v21 =>
 bnd (lft (binA T .eql 9 v19 v21)) fun v22 =>
 condM v22 (v14 [nth v10 0,nth v10 1,nth v10 2,nth v10 4,nth v10 4]) (v14 [nth v10 0,nth v10 1,nth v10 2,nth v10 3,nth v10 4])) (bnd (lft (loadA T 26 (nth v10 0))) fun v23 =>
 bnd (lft (loadA T 33 (nth v10 1))) fun v24 =>
 bnd (call 10 [v23,v24]) fun v25 =>
 bnd (lft (extractA v25 0)) fun v26 =>
 bnd (lft (extractA v25 1)) fun v27 =>
 bnd (cellsM 2 v26) fun _v28 =>
 bnd (lft (binA T .geq 3 (nth v10 3) (AV.int .i64 0))) fun v29 =>
 bnd (guardM v29 true 1 (bnd (lft (fieldAddrA T 26 (nth v10 0) 1)) fun v30 =>
 bnd (lft (loadA T 23 v30)) fun v31 =>
 bnd (lft (lenA T 23 v31)) fun v32 =>
 bnd (lft (binA T .lss 3 (nth v10 3) v32)) fun v33 =>
 M.pure [v33])) fun v34 =>
 bnd (lft (pickA v29 (nth v34 0) (AV.bool false))) fun v35 =>
 jn (K4_2 call fx) fun v117 =>
 condM v35 (bnd (lft (fieldAddrA T 33 (nth v10 1) 2)) fun v118 =>
 bnd (lft (loadA T 27 v118)) fun v119 =>
 bnd (lft (fieldAddrA T 26 (nth v10 0) 1)) fun v120 =>
 bnd (lft (loadA T 23 v120)) fun v121 =>
 bnd (lft (indexAddrA T 23 v121 (nth v10 3))) fun v122 =>
 bnd (lft (loadA T 58 v122)) fun v123 =>
 bnd (noPan (call 22 [v119,v123])) fun v124 =>
 v117 [nth v10 0,nth v10 1,nth v10 2,v27,v124]) (v117 [nth v10 0,nth v10 1,nth v10 2,v27,v35]))
theorem XK4_0 {call:CC} {v9:List AV→M AV} {v9s:Nat→List AV→M AV} (hv9:LimF v9 fun n=>v9s n):LimF (K4_0 call fixW v9) fun n=>K4_0 call fixW (v9s n):=by
 intro v12
 unfold K4_0
 exact (lb fun _=>(hv9 _))
theorem XK4_1 {call:CC} {v70:List AV→M AV} {v70s:Nat→List AV→M AV} (hv70:LimF v70 fun n=>v70s n):LimF (K4_1 call fixW v70) fun n=>K4_1 call fixW (v70s n):=by
 intro v76
 unfold K4_1
 exact (lb fun _=>(hv70 _))
theorem XL4_0 {call:CC}:Cont1 (L4_0 call fixW ) fun _n=>L4_0 call fixW  := by
 intro v70 v70s hself v71
 unfold L4_0
 exact (lb fun _=>(lb fun _=>(lb fun _=>(lb fun _=>(condM_lim (jn_lim (XK4_1 hself) fun _ _ hv78=>(lb fun _=>(lb fun _=>(lb fun _=>(lb fun _=>(lb fun _=>(lb fun _=>(lb fun _=>(lb fun _=>(condM_lim (lb fun _=>(lb fun _=>(lb fun _=>(lb fun _=>(lb fun _=>(lb fun _=>(lb fun _=>(hv78 _)))))))) (hv78 _))))))))))) (LimM.const _))))))
theorem FL4_0 (call:CC) (vs:List AV):fixW (L4_0 call fixW ) vs=L4_0 call fixW  (fixW (L4_0 call fixW )) vs:=fixW_eq (XL4_0 ) vs
theorem XL4_1 {call:CC}:Cont1 (L4_1 call fixW ) fun _n=>L4_1 call fixW  := by
 intro v9 v9s hself v10
 unfold L4_1
 exact (lb fun _=>(condM_lim (jn_lim (XK4_0 hself) fun _ _ hv14=>(lb fun _=>(lb fun _=>(lb fun _=>(lb fun _=>(lb fun _=>(lb fun _=>(lb fun _=>(lb fun _=>(condM_lim (hv14 _) (hv14 _))))))))))) (LimM.const _)))
theorem FL4_1 (call:CC) (vs:List AV):fixW (L4_1 call fixW ) vs=L4_1 call fixW  (fixW (L4_1 call fixW )) vs:=fixW_eq (XL4_1 ) vs
noncomputable def S4 (call:CC) (fx:Fix AV) (a0 a1:AV):M AV :=
 bnd (call 8 []) fun v0 =>
 bnd (lft (loadA T 26 (AV.ip (acells a0)))) fun v1 =>
 bnd (lft (loadA T 33 (AV.ip (acells a1)))) fun v2 =>
 bnd (call 9 [v1,v2]) fun v3 =>
 bnd (lft (unA UnOp.not v3)) fun v4 =>
 condM v4 (M.pure v0) (bnd (lft (fieldAddrA T 26 (AV.ip (acells a0)) 0)) fun v5 =>
 bnd (lft (loadA T 22 v5)) fun v6 =>
 bnd (lft (lenA T 22 v6)) fun v7 =>
 bnd (lft (binA T .sub 3 v7 (AV.int .i64 1))) fun v8 =>
 fx (L4_1 call fx) [AV.ip (acells a0),AV.ip (acells a1),v0,AV.int .i64 (-1),v8])
theorem E4 (call:CC) (fx:Fix AV) (a0 a1:AV):evBody (pg.cx call Tryz.f4.ntmps ann4) fx Tryz.f4 (own 4) [a0,a1] = S4 call fx a0 a1:=by kernel_rfl
theorem C4 (a0 a1:AV):callW pg 4 [a0,a1] = isoP (S4 (callW pg) fixW (cl noHs a0) (cl noHs a1)):=(callW_iso hOther rfl rfl rfl _).trans (congrArg isoP (E4 _ _ (cl noHs a0) (cl noHs a1)))
noncomputable def S8 (call:CC) (_fx:Fix AV):M AV :=
 bnd (call 33 []) fun v0 =>
 bnd (cellsM 10 v0) fun v1 =>
 bnd (call 34 [AV.bool false]) fun v2 =>
 bnd (cellsM 4 v2) fun v3 =>
 bnd (call 34 [AV.bool true]) fun v4 =>
 bnd (cellsNil 4 [] v4) fun v5 =>
 bnd (call 35 [AV.str [98,97,115,101],AV.str [116,119,111],AV.int .i64 9]) fun v6 =>
 bnd (call 35 [AV.str [103,101,111],AV.str [105,100],AV.int .i64 3]) fun v7 =>
 bnd (lft (buildSliceA T 24 2 [(0,v6),(1,v7)])) fun v8 =>
 bnd (cell1M v8) fun _v9 =>
 bnd (call 34 [AV.bool true]) fun v10 =>
 bnd (cellsNil 4 [] v10) fun v11 =>
 bnd (call 35 [AV.str [103,101,111],AV.str [105,100],AV.int .i64 3]) fun v12 =>
 bnd (call 35 [AV.str [103,101,111],AV.str [105,100],AV.int .i64 5]) fun v13 =>
 bnd (lft (buildSliceA T 24 2 [(0,v12),(1,v13)])) fun v14 =>
 bnd (cell1M v14) fun _v15 =>
 bnd (call 34 [AV.bool false]) fun v16 =>
 bnd (cellsNil 4 [] v16) fun v17 =>
 bnd (lft (buildA T false 58 [(0,AV.int .i64 1)])) fun v18 =>
 bnd (lft (buildA T false 58 [(0,AV.int .i64 2)])) fun v19 =>
 bnd (lft (buildSliceA T 23 2 [(0,v18),(1,v19)])) fun v20 =>
 bnd (cell1M v20) fun _v21 =>
 bnd (lft (loadA T 26 (AV.ip (acells v3)))) fun v22 =>
 bnd (lft (loadA T 33 (AV.ip (acells v1)))) fun v23 =>
 bnd (call 10 [v22,v23]) fun v24 =>
 bnd (lft (extractA v24 0)) fun v25 =>
 bnd (lft (extractA v24 1)) fun v26 =>
 bnd (cellsM 2 v25) fun v27 =>
 bnd (lft (buildA T false 37 [(0,AV.str [98,97,115,101]),(1,AV.str [116,119,111])])) fun v28 =>
 bnd (lft (buildA T false 37 [(0,AV.str [103,101,111]),(1,AV.str [105,100])])) fun v29 =>
 bnd (lft (buildSliceA T 42 2 [(0,v28),(1,v29)])) fun v30 =>
 bnd (guardM v26 true 1 (bnd (lft (loadA T 37 (AV.ip (acells v27)))) fun v31 =>
 bnd (lft (indexAddrA T 42 v30 (AV.int .i64 1))) fun v32 =>
 bnd (lft (loadA T 37 v32)) fun v33 =>
 bnd (lft (binA T .eql 37 v31 v33)) fun v34 =>
 M.pure [v34])) fun v35 =>
 bnd (lft (pickA v26 (nth v35 0) (AV.bool false))) fun v36 =>
 bnd (guardM v36 true 1 (bnd (lft (loadA T 26 (AV.ip (acells v3)))) fun v37 =>
 bnd (lft (loadA T 33 (AV.ip (acells v1)))) fun v38 =>
 bnd (noPan (call 13 [v37,v38])) fun v39 =>
 bnd (noPan (call 12 [v39,v30])) fun v40 =>
 M.pure [v40])) fun v41 =>
 bnd (lft (pickA v36 (nth v41 0) (AV.bool false))) fun v42 =>
 bnd (guardM v42 true 1 (bnd (lft (loadA T 26 (AV.ip (acells v3)))) fun v43 =>
 bnd (lft (loadA T 33 (AV.ip (acells v1)))) fun v44 =>
 bnd (noPan (call 18 [v43,v44])) fun v45 =>
 bnd (lft (binA T .eql 3 v45 (AV.int .i64 1))) fun v46 =>
 M.pure [v46])) fun v47 =>
 bnd (lft (pickA v42 (nth v47 0) (AV.bool false))) fun v48 =>
 bnd (guardM v48 true 1 (bnd (noPan (call 34 [AV.bool true])) fun v49 =>
 bnd (lft (loadA T 33 (AV.ip (acells v1)))) fun v50 =>
 bnd (noPan (call 18 [v49,v50])) fun v51 =>
 bnd (lft (binA T .eql 3 v51 (AV.int .i64 0))) fun v52 =>
 M.pure [v52])) fun v53 =>
 bnd (lft (pickA v48 (nth v53 0) (AV.bool false))) fun v54 =>
 bnd (guardM v54 true 1 (bnd (lft (loadA T 33 (AV.ip (acells v1)))) fun v55 =>
 bnd (noPan (call 18 [AV.agg [nth (acells v5) 0,nth (acells v5) 1,v8,nth (acells v5) 3],v55])) fun v56 =>
 bnd (lft (binA T .eql 3 v56 (AV.int .i64 0))) fun v57 =>
 M.pure [v57])) fun v58 =>
 bnd (lft (pickA v54 (nth v58 0) (AV.bool false))) fun v59 =>
 bnd (lft (loadA T 33 (AV.ip (acells v1)))) fun v60 =>
 bnd (call 16 [AV.agg [nth (acells v11) 0,nth (acells v11) 1,v14,nth (acells v11) 3],v60]) fun v61 =>
 bnd (lft (buildSliceA T 45 1 [(0,AV.int .i64 1)])) fun v62 =>
 bnd (call 15 [v61,v62]) fun v63 =>
 bnd (guardM v63 true 1 (bnd (lft (loadA T 33 (AV.ip (acells v1)))) fun v64 =>
 bnd (call 18 [AV.agg [nth (acells v11) 0,nth (acells v11) 1,v14,nth (acells v11) 3],v64]) fun v65 =>
 bnd (lft (binA T .eql 3 v65 (AV.int .i64 2))) fun v66 =>
 M.pure [v66])) fun v67 =>
 bnd (lft (pickA v63 (nth v67 0) (AV.bool false))) fun v68 =>
 bnd (guardM v68 true 1 (bnd (lft (loadA T 33 (AV.ip (acells v1)))) fun v69 =>
 bnd (call 13 [AV.agg [nth (acells v17) 0,v20,nth (acells v17) 2,nth (acells v17) 3],v69]) fun v70 =>
 bnd (lft (lenA T 42 v70)) fun v71 =>
 bnd (lft (binA T .eql 3 v71 (AV.int .i64 0))) fun v72 =>
 M.pure [v72])) fun v73 =>
 bnd (lft (pickA v68 (nth v73 0) (AV.bool false))) fun v74 =>
 bnd (guardM v74 true 1 (bnd (lft (loadA T 33 (AV.ip (acells v1)))) fun v75 =>
 bnd (call 18 [AV.agg [nth (acells v17) 0,v20,nth (acells v17) 2,nth (acells v17) 3],v75]) fun v76 =>
 bnd (lft (binA T .eql 3 v76 (AV.int .i64 0))) fun v77 =>
 M.pure [v77])) fun v78 =>
 bnd (lft (pickA v74 (nth v78 0) (AV.bool false))) fun v79 =>
 bnd (guardM v59 true 1 (M.pure [v79])) fun v80 =>
 bnd (lft (pickA v59 (nth v80 0) (AV.bool false))) fun v81 =>
 bnd (guardM v81 true 1 (bnd (lft (loadA T 26 (AV.ip (acells v3)))) fun v82 =>
 bnd (lft (buildSliceA T 40 3 [(0,AV.agg [nth (acells v5) 0,nth (acells v5) 1,v8,nth (acells v5) 3]),(1,v82),(2,AV.agg [nth (acells v17) 0,v20,nth (acells v17) 2,nth (acells v17) 3])])) fun v83 =>
 bnd (lft (loadA T 33 (AV.ip (acells v1)))) fun v84 =>
 bnd (call 20 [v83,v84]) fun v85 =>
 bnd (lft (buildSliceA T 45 1 [(0,AV.int .i64 1)])) fun v86 =>
 bnd (call 15 [v85,v86]) fun v87 =>
 M.pure [v87])) fun v88 =>
 bnd (lft (pickA v81 (nth v88 0) (AV.bool false))) fun v89 =>
 M.pure v89
theorem E8 (call:CC) (fx:Fix AV):evBody (pg.cx call Tryz.f8.ntmps ann8) fx Tryz.f8 (own 8) [] = S8 call fx  := by kernel_rfl
theorem C8:callW pg 8 [] = isoP (S8 (callW pg) fixW ):=(callW_iso hOther rfl rfl rfl _).trans (congrArg isoP (E8 _ _ ))
noncomputable def L9_0 (call:CC) (_fx:Fix AV) (v0:List AV→M AV) (v61:List AV→M AV) (v62:List AV):M AV :=
 bnd (lft (fieldAddrA T 26 (nth v62 0) 0)) fun v63 =>
 bnd (lft (loadA T 22 v63)) fun v64 =>
 bnd (lft (indexAddrA T 22 v64 (nth v62 2))) fun v65 =>
 bnd (lft (fieldAddrA T 55 v65 4)) fun v66 =>
 bnd (lft (loadA T 51 v66)) fun v67 =>
 bnd (lft (lenA T 51 v67)) fun v68 =>
 bnd (lft (binA T .lss 3 (nth v62 3) v68)) fun v69 =>
 condM v69 (bnd (lft (fieldAddrA T 26 (nth v62 0) 0)) fun v70 =>
 bnd (lft (loadA T 22 v70)) fun v71 =>
 bnd (lft (indexAddrA T 22 v71 (nth v62 2))) fun v72 =>
 bnd (lft (fieldAddrA T 55 v72 4)) fun v73 =>
 bnd (lft (loadA T 51 v73)) fun v74 =>
 bnd (lft (indexAddrA T 51 v74 (nth v62 3))) fun v75 =>
 bnd (lft (fieldAddrA T 90 v75 5)) fun v76 =>
 bnd (lft (loadA T 31 v76)) fun v77 =>
 bnd (call 37 [v77,AV.int .i64 40,AV.int .i64 16]) fun v78 =>
 bnd (lft (binA T .gtr 3 v78 (AV.int .i64 40))) fun v79 =>
 bnd (guardM v79 false 1 (bnd (lft (fieldAddrA T 26 (nth v62 0) 0)) fun v80 =>
 bnd (lft (loadA T 22 v80)) fun v81 =>
 bnd (lft (indexAddrA T 22 v81 (nth v62 2))) fun v82 =>
 bnd (lft (fieldAddrA T 55 v82 4)) fun v83 =>
 bnd (lft (loadA T 51 v83)) fun v84 =>
 bnd (lft (indexAddrA T 51 v84 (nth v62 3))) fun v85 =>
 bnd (lft (fieldAddrA T 90 v85 2)) fun v86 =>
 bnd (lft (loadA T 50 v86)) fun v87 =>
 bnd (lft (lenA T 50 v87)) fun v88 =>
 bnd (lft (binA T .gtr 3 v88 (AV.int .i64 6))) fun v89 =>
 M.pure [v89])) fun v90 =>
 bnd (lft (pickA v79 (AV.bool true) (nth v90 0))) fun v91 =>
 condM v91 (M.pure (AV.bool false)) (bnd (lft (binA T .add 3 (nth v62 3) (AV.int .i64 1))) fun v92 =>
 v61 [nth v62 0,nth v62 1,nth v62 2,v92])) (bnd (lft (binA T .add 3 (nth v62 2) (AV.int .i64 1))) fun v93 =>
 v0 [nth v62 0,nth v62 1,v93])
noncomputable def L9_1 (call:CC) (fx:Fix AV) (v0:List AV→M AV) (v42:List AV→M AV) (v43:List AV):M AV :=
 bnd (lft (fieldAddrA T 26 (nth v43 0) 0)) fun v44 =>
 bnd (lft (loadA T 22 v44)) fun v45 =>
 bnd (lft (indexAddrA T 22 v45 (nth v43 2))) fun v46 =>
 bnd (lft (fieldAddrA T 55 v46 3)) fun v47 =>
 bnd (lft (loadA T 29 v47)) fun v48 =>
 bnd (lft (lenA T 29 v48)) fun v49 =>
 bnd (lft (binA T .lss 3 (nth v43 3) v49)) fun v50 =>
 condM v50 (bnd (lft (fieldAddrA T 26 (nth v43 0) 0)) fun v51 =>
 bnd (lft (loadA T 22 v51)) fun v52 =>
 bnd (lft (indexAddrA T 22 v52 (nth v43 2))) fun v53 =>
 bnd (lft (fieldAddrA T 55 v53 3)) fun v54 =>
 bnd (lft (loadA T 29 v54)) fun v55 =>
 bnd (lft (indexAddrA T 29 v55 (nth v43 3))) fun v56 =>
 bnd (lft (loadA T 31 v56)) fun v57 =>
 bnd (call 37 [v57,AV.int .i64 40,AV.int .i64 16]) fun v58 =>
 bnd (lft (binA T .gtr 3 v58 (AV.int .i64 40))) fun v59 =>
 condM v59 (M.pure (AV.bool false)) (bnd (lft (binA T .add 3 (nth v43 3) (AV.int .i64 1))) fun v60 =>
 v42 [nth v43 0,nth v43 1,nth v43 2,v60])) (fx (L9_0 call fx v0) [nth v43 0,nth v43 1,nth v43 2,AV.int .i64 0])
noncomputable def L9_2 (call:CC) (_fx:Fix AV) (v94:List AV→M AV) (v110:List AV→M AV) (v111:List AV):M AV :=
 bnd (lft (fieldAddrA T 26 (nth v111 0) 2)) fun v112 =>
 bnd (lft (loadA T 24 v112)) fun v113 =>
 bnd (lft (indexAddrA T 24 v113 (nth v111 2))) fun v114 =>
 bnd (lft (fieldAddrA T 63 v114 2)) fun v115 =>
 bnd (lft (loadA T 61 v115)) fun v116 =>
 bnd (lft (lenA T 61 v116)) fun v117 =>
 bnd (lft (binA T .lss 3 (nth v111 3) v117)) fun v118 =>
 condM v118 (bnd (lft (fieldAddrA T 26 (nth v111 0) 2)) fun v119 =>
 bnd (lft (loadA T 24 v119)) fun v120 =>
 bnd (lft (indexAddrA T 24 v120 (nth v111 2))) fun v121 =>
 bnd (lft (fieldAddrA T 63 v121 2)) fun v122 =>
 bnd (lft (loadA T 61 v122)) fun v123 =>
 bnd (lft (indexAddrA T 61 v123 (nth v111 3))) fun v124 =>
 bnd (lft (loadA T 71 v124)) fun v125 =>
 bnd (call 38 [v125,AV.int .i64 30,AV.int .i64 8]) fun v126 =>
 bnd (lft (binA T .gtr 3 v126 (AV.int .i64 30))) fun v127 =>
 condM v127 (M.pure (AV.bool false)) (bnd (lft (binA T .add 3 (nth v111 3) (AV.int .i64 1))) fun v128 =>
 v110 [nth v111 0,nth v111 1,nth v111 2,v128])) (bnd (lft (binA T .add 3 (nth v111 2) (AV.int .i64 1))) fun v129 =>
 v94 [nth v111 0,nth v111 1,v129])
noncomputable def L9_3 (call:CC) (fx:Fix AV) (v94:List AV→M AV) (v95:List AV):M AV :=
 bnd (lft (fieldAddrA T 26 (nth v95 0) 2)) fun v96 =>
 bnd (lft (loadA T 24 v96)) fun v97 =>
 bnd (lft (lenA T 24 v97)) fun v98 =>
 bnd (lft (binA T .lss 3 (nth v95 2) v98)) fun v99 =>
 bnd (guardM v99 true 1 (bnd (lft (binA T .lss 3 (nth v95 2) (AV.int .i64 13))) fun v100 =>
 M.pure [v100])) fun v101 =>
 bnd (lft (pickA v99 (nth v101 0) (AV.bool false))) fun v102 =>
 condM v102 (bnd (lft (fieldAddrA T 26 (nth v95 0) 2)) fun v103 =>
 bnd (lft (loadA T 24 v103)) fun v104 =>
 bnd (lft (indexAddrA T 24 v104 (nth v95 2))) fun v105 =>
 bnd (lft (fieldAddrA T 63 v105 2)) fun v106 =>
 bnd (lft (loadA T 61 v106)) fun v107 =>
 bnd (lft (lenA T 61 v107)) fun v108 =>
 bnd (lft (binA T .gtr 3 v108 (AV.int .i64 6))) fun v109 =>
 condM v109 (M.pure (AV.bool false)) (fx (L9_2 call fx v94) [nth v95 0,nth v95 1,nth v95 2,AV.int .i64 0])) (bnd (lft (fieldAddrA T 26 (nth v95 0) 0)) fun v130 =>
 bnd (lft (loadA T 22 v130)) fun v131 =>
 bnd (lft (lenA T 22 v131)) fun v132 =>
 bnd (lft (binA T .leq 3 v132 (AV.int .i64 4))) fun v133 =>
 bnd (guardM v133 true 1 (bnd (lft (fieldAddrA T 26 (nth v95 0) 1)) fun v134 =>
 bnd (lft (loadA T 23 v134)) fun v135 =>
 bnd (lft (lenA T 23 v135)) fun v136 =>
 bnd (lft (binA T .leq 3 v136 (AV.int .i64 6))) fun v137 =>
 M.pure [v137])) fun v138 =>
 bnd (lft (pickA v133 (nth v138 0) (AV.bool false))) fun v139 =>
 bnd (guardM v139 true 1 (bnd (lft (fieldAddrA T 26 (nth v95 0) 2)) fun v140 =>
 bnd (lft (loadA T 24 v140)) fun v141 =>
 bnd (lft (lenA T 24 v141)) fun v142 =>
 bnd (lft (binA T .leq 3 v142 (AV.int .i64 12))) fun v143 =>
 M.pure [v143])) fun v144 =>
 bnd (lft (pickA v139 (nth v144 0) (AV.bool false))) fun v145 =>
 bnd (guardM v145 true 1 (bnd (lft (fieldAddrA T 33 (nth v95 1) 2)) fun v146 =>
 bnd (lft (loadA T 27 v146)) fun v147 =>
 bnd (lft (lenA T 27 v147)) fun v148 =>
 bnd (lft (binA T .leq 3 v148 (AV.int .i64 6))) fun v149 =>
 M.pure [v149])) fun v150 =>
 bnd (lft (pickA v145 (nth v150 0) (AV.bool false))) fun v151 =>
 bnd (guardM v151 true 1 (bnd (lft (fieldAddrA T 33 (nth v95 1) 4)) fun v152 =>
 bnd (lft (loadA T 31 v152)) fun v153 =>
 bnd (call 37 [v153,AV.int .i64 30,AV.int .i64 16]) fun v154 =>
 bnd (lft (binA T .leq 3 v154 (AV.int .i64 30))) fun v155 =>
 M.pure [v155])) fun v156 =>
 bnd (lft (pickA v151 (nth v156 0) (AV.bool false))) fun v157 =>
 M.pure v157)
noncomputable def L9_4 (call:CC) (fx:Fix AV) (v0:List AV→M AV) (v1:List AV):M AV :=
 bnd (lft (fieldAddrA T 26 (nth v1 0) 0)) fun v2 =>
 bnd (lft (loadA T 22 v2)) fun v3 =>
 bnd (lft (lenA T 22 v3)) fun v4 =>
 bnd (lft (binA T .lss 3 (nth v1 2) v4)) fun v5 =>
 bnd (guardM v5 true 1 (bnd (lft (binA T .lss 3 (nth v1 2) (AV.int .i64 5))) fun v6 =>
 M.pure [v6])) fun v7 =>
 bnd (lft (pickA v5 (nth v7 0) (AV.bool false))) fun v8 =>
 condM v8 (bnd (lft (fieldAddrA T 26 (nth v1 0) 0)) fun v9 =>
 bnd (lft (loadA T 22 v9)) fun v10 =>
 bnd (lft (indexAddrA T 22 v10 (nth v1 2))) fun v11 =>
 bnd (lft (fieldAddrA T 55 v11 4)) fun v12 =>
 bnd (lft (loadA T 51 v12)) fun v13 =>
 bnd (lft (lenA T 51 v13)) fun v14 =>
 bnd (lft (binA T .gtr 3 v14 (AV.int .i64 4))) fun v15 =>
 bnd (guardM v15 false 1 (bnd (lft (fieldAddrA T 26 (nth v1 0) 0)) fun v16 =>
 bnd (lft (loadA T 22 v16)) fun v17 =>
 bnd (lft (indexAddrA T 22 v17 (nth v1 2))) fun v18 =>
 bnd (lft (fieldAddrA T 55 v18 2)) fun v19 =>
 bnd (lft (loadA T 50 v19)) fun v20 =>
 bnd (lft (lenA T 50 v20)) fun v21 =>
 bnd (lft (binA T .gtr 3 v21 (AV.int .i64 4))) fun v22 =>
 M.pure [v22])) fun v23 =>
 bnd (lft (pickA v15 (AV.bool true) (nth v23 0))) fun v24 =>
 bnd (guardM v24 false 1 (bnd (lft (fieldAddrA T 26 (nth v1 0) 0)) fun v25 =>
 bnd (lft (loadA T 22 v25)) fun v26 =>
 bnd (lft (indexAddrA T 22 v26 (nth v1 2))) fun v27 =>
 bnd (lft (fieldAddrA T 55 v27 3)) fun v28 =>
 bnd (lft (loadA T 29 v28)) fun v29 =>
 bnd (lft (lenA T 29 v29)) fun v30 =>
 bnd (lft (binA T .gtr 3 v30 (AV.int .i64 4))) fun v31 =>
 M.pure [v31])) fun v32 =>
 bnd (lft (pickA v24 (AV.bool true) (nth v32 0))) fun v33 =>
 bnd (guardM v33 false 1 (bnd (lft (fieldAddrA T 26 (nth v1 0) 0)) fun v34 =>
 bnd (lft (loadA T 22 v34)) fun v35 =>
 bnd (lft (indexAddrA T 22 v35 (nth v1 2))) fun v36 =>
 bnd (lft (loadA T 55 v36)) fun v37 =>
 bnd (call 36 [v37]) fun v38 =>
 bnd (lft (unA UnOp.not v38)) fun v39 =>
 M.pure [v39])) fun v40 =>
 bnd (lft (pickA v33 (AV.bool true) (nth v40 0))) fun v41 =>
 condM v41 (M.pure (AV.bool false)) (fx (L9_1 call fx v0) [nth v1 0,nth v1 1,nth v1 2,AV.int .i64 0])) (fx (L9_3 call fx) [nth v1 0,nth v1 1,AV.int .i64 0])
theorem XL9_0 {call:CC} {v0:List AV→M AV} {v0s:Nat→List AV→M AV} (hv0:LimF v0 fun n=>v0s n):Cont1 (L9_0 call fixW v0) fun n=>L9_0 call fixW (v0s n):=by
 intro v61 v61s hself v62
 unfold L9_0
 exact (lb fun _=>(lb fun _=>(lb fun _=>(lb fun _=>(lb fun _=>(lb fun _=>(lb fun _=>(condM_lim (lb fun _=>(lb fun _=>(lb fun _=>(lb fun _=>(lb fun _=>(lb fun _=>(lb fun _=>(lb fun _=>(lb fun _=>(lb fun _=>(lb fun _=>(lb fun _=>(condM_lim (LimM.const _) (lb fun _=>(hself _))))))))))))))) (lb fun _=>(hv0 _))))))))))
theorem YL9_0 {call:CC} {v0:List AV→M AV} {v0s:Nat→List AV→M AV} (hv0:LimF v0 fun n=>v0s n):LimF (fixW (L9_0 call fixW v0)) fun n=>fixW (L9_0 call fixW (v0s n)):=fixW_limF (XL9_0 hv0) (XL9_0 (LimF.const _)) fun _=>XL9_0 (LimF.const _)
theorem FL9_0 (call:CC) (v0:List AV→M AV) (vs:List AV):fixW (L9_0 call fixW v0) vs=L9_0 call fixW v0 (fixW (L9_0 call fixW v0)) vs:=fixW_eq (XL9_0 (LimF.const _)) vs
theorem XL9_1 {call:CC} {v0:List AV→M AV} {v0s:Nat→List AV→M AV} (hv0:LimF v0 fun n=>v0s n):Cont1 (L9_1 call fixW v0) fun n=>L9_1 call fixW (v0s n):=by
 intro v42 v42s hself v43
 unfold L9_1
 exact (lb fun _=>(lb fun _=>(lb fun _=>(lb fun _=>(lb fun _=>(lb fun _=>(lb fun _=>(condM_lim (lb fun _=>(lb fun _=>(lb fun _=>(lb fun _=>(lb fun _=>(lb fun _=>(lb fun _=>(lb fun _=>(lb fun _=>(condM_lim (LimM.const _) (lb fun _=>(hself _)))))))))))) ((YL9_0 hv0) _)))))))))
theorem YL9_1 {call:CC} {v0:List AV→M AV} {v0s:Nat→List AV→M AV} (hv0:LimF v0 fun n=>v0s n):LimF (fixW (L9_1 call fixW v0)) fun n=>fixW (L9_1 call fixW (v0s n)):=fixW_limF (XL9_1 hv0) (XL9_1 (LimF.const _)) fun _=>XL9_1 (LimF.const _)
theorem FL9_1 (call:CC) (v0:List AV→M AV) (vs:List AV):fixW (L9_1 call fixW v0) vs=L9_1 call fixW v0 (fixW (L9_1 call fixW v0)) vs:=fixW_eq (XL9_1 (LimF.const _)) vs
theorem XL9_2 {call:CC} {v94:List AV→M AV} {v94s:Nat→List AV→M AV} (hv94:LimF v94 fun n=>v94s n):Cont1 (L9_2 call fixW v94) fun n=>L9_2 call fixW (v94s n):=by
 intro v110 v110s hself v111
 unfold L9_2
 exact (lb fun _=>(lb fun _=>(lb fun _=>(lb fun _=>(lb fun _=>(lb fun _=>(lb fun _=>(condM_lim (lb fun _=>(lb fun _=>(lb fun _=>(lb fun _=>(lb fun _=>(lb fun _=>(lb fun _=>(lb fun _=>(lb fun _=>(condM_lim (LimM.const _) (lb fun _=>(hself _)))))))))))) (lb fun _=>(hv94 _))))))))))
theorem YL9_2 {call:CC} {v94:List AV→M AV} {v94s:Nat→List AV→M AV} (hv94:LimF v94 fun n=>v94s n):LimF (fixW (L9_2 call fixW v94)) fun n=>fixW (L9_2 call fixW (v94s n)):=fixW_limF (XL9_2 hv94) (XL9_2 (LimF.const _)) fun _=>XL9_2 (LimF.const _)
theorem FL9_2 (call:CC) (v94:List AV→M AV) (vs:List AV):fixW (L9_2 call fixW v94) vs=L9_2 call fixW v94 (fixW (L9_2 call fixW v94)) vs:=fixW_eq (XL9_2 (LimF.const _)) vs
theorem XL9_3 {call:CC}:Cont1 (L9_3 call fixW ) fun _n=>L9_3 call fixW  := by
 intro v94 v94s hself v95
 unfold L9_3
 exact (lb fun _=>(lb fun _=>(lb fun _=>(lb fun _=>(lb fun _=>(lb fun _=>(condM_lim (lb fun _=>(lb fun _=>(lb fun _=>(lb fun _=>(lb fun _=>(lb fun _=>(lb fun _=>(condM_lim (LimM.const _) ((YL9_2 hself) _))))))))) (LimM.const _))))))))
theorem FL9_3 (call:CC) (vs:List AV):fixW (L9_3 call fixW ) vs=L9_3 call fixW  (fixW (L9_3 call fixW )) vs:=fixW_eq (XL9_3 ) vs
theorem XL9_4 {call:CC}:Cont1 (L9_4 call fixW ) fun _n=>L9_4 call fixW  := by
 intro v0 v0s hself v1
 unfold L9_4
 exact (lb fun _=>(lb fun _=>(lb fun _=>(lb fun _=>(lb fun _=>(lb fun _=>(condM_lim (lb fun _=>(lb fun _=>(lb fun _=>(lb fun _=>(lb fun _=>(lb fun _=>(lb fun _=>(lb fun _=>(lb fun _=>(lb fun _=>(lb fun _=>(lb fun _=>(lb fun _=>(condM_lim (LimM.const _) ((YL9_1 hself) _))))))))))))))) (LimM.const _))))))))
theorem FL9_4 (call:CC) (vs:List AV):fixW (L9_4 call fixW ) vs=L9_4 call fixW  (fixW (L9_4 call fixW )) vs:=fixW_eq (XL9_4 ) vs
noncomputable def S9 (call:CC) (fx:Fix AV) (a0 a1:AV):M AV :=
 fx (L9_4 call fx) [AV.ip (acells a0),AV.ip (acells a1),AV.int .i64 0]
theorem E9 (call:CC) (fx:Fix AV) (a0 a1:AV):evBody (pg.cx call Tryz.f9.ntmps ann9) fx Tryz.f9 (own 9) [a0,a1] = S9 call fx a0 a1:=by kernel_rfl
theorem C9 (a0 a1:AV):callW pg 9 [a0,a1] = isoP (S9 (callW pg) fixW (cl noHs a0) (cl noHs a1)):=(callW_iso hOther rfl rfl rfl _).trans (congrArg isoP (E9 _ _ (cl noHs a0) (cl noHs a1)))
noncomputable def S10 (call:CC) (_fx:Fix AV) (a0 a1:AV):M AV :=
 bnd (lft (loadA T 26 (AV.ip (acells a0)))) fun v0 =>
 bnd (lft (loadA T 33 (AV.ip (acells a1)))) fun v1 =>
 bnd (call 39 [v0,v1]) fun v2 =>
 bnd (lft (extractA v2 0)) fun v3 =>
 bnd (lft (extractA v2 1)) fun v4 =>
 bnd (cellsM 12 v3) fun _v5 =>
 bnd (lft (unA UnOp.not v4)) fun v6 =>
 condM v6 (bnd (lft (buildA T false 37 [])) fun v7 =>
 bnd (cellsNil 2 [] v7) fun v8 =>
 M.pure (AV.tup [AV.agg [nth (acells v8) 0,nth (acells v8) 1],AV.bool false])) (bnd (lft (fieldAddrA T 33 (AV.ip (acells a1)) 1)) fun v9 =>
 bnd (lft (loadA T 9 v9)) fun v10 =>
 bnd (lft (fieldAddrA T 33 (AV.ip (acells a1)) 3)) fun v11 =>
 bnd (lft (loadA T 9 v11)) fun v12 =>
 bnd (lft (buildA T false 37 [(0,v10),(1,v12)])) fun v13 =>
 bnd (cellsNil 2 [] v13) fun v14 =>
 M.pure (AV.tup [AV.agg [nth (acells v14) 0,nth (acells v14) 1],AV.bool true]))
theorem E10 (call:CC) (fx:Fix AV) (a0 a1:AV):evBody (pg.cx call Tryz.f10.ntmps ann10) fx Tryz.f10 (own 10) [a0,a1] = S10 call fx a0 a1:=by kernel_rfl
theorem C10 (a0 a1:AV):callW pg 10 [a0,a1] = isoP (S10 (callW pg) fixW (cl noHs a0) (cl noHs a1)):=(callW_iso hOther rfl rfl rfl _).trans (congrArg isoP (E10 _ _ (cl noHs a0) (cl noHs a1)))
noncomputable def L12_0 (_call:CC) (_fx:Fix AV) (v3:List AV→M AV) (v4:List AV):M AV :=
 bnd (lft (lenA T 42 (nth v4 0))) fun v5 =>
 bnd (lft (binA T .lss 3 (nth v4 2) v5)) fun v6 =>
 condM v6 (bnd (lft (indexAddrA T 42 (nth v4 0) (nth v4 2))) fun v7 =>
 bnd (lft (loadA T 37 v7)) fun v8 =>
 bnd (lft (indexAddrA T 42 (nth v4 1) (nth v4 2))) fun v9 =>
 bnd (lft (loadA T 37 v9)) fun v10 =>
 bnd (lft (binA T .neq 37 v8 v10)) fun v11 =>
 condM v11 (M.pure (AV.bool false)) (bnd (lft (binA T .add 3 (nth v4 2) (AV.int .i64 1))) fun v12 =>
 v3 [nth v4 0,nth v4 1,v12])) (M.pure (AV.bool true))
theorem XL12_0 {call:CC}:Cont1 (L12_0 call fixW ) fun _n=>L12_0 call fixW  := by
 intro v3 v3s hself v4
 unfold L12_0
 exact (lb fun _=>(lb fun _=>(condM_lim (lb fun _=>(lb fun _=>(lb fun _=>(lb fun _=>(lb fun _=>(condM_lim (LimM.const _) (lb fun _=>(hself _)))))))) (LimM.const _))))
theorem FL12_0 (call:CC) (vs:List AV):fixW (L12_0 call fixW ) vs=L12_0 call fixW  (fixW (L12_0 call fixW )) vs:=fixW_eq (XL12_0 ) vs
noncomputable def S12 (call:CC) (fx:Fix AV) (a0 a1:AV):M AV :=
 bnd (lft (lenA T 42 a0)) fun v0 =>
 bnd (lft (lenA T 42 a1)) fun v1 =>
 bnd (lft (binA T .neq 3 v0 v1)) fun v2 =>
 condM v2 (M.pure (AV.bool false)) (fx (L12_0 call fx) [a0,a1,AV.int .i64 0])
theorem E12 (call:CC) (fx:Fix AV) (a0 a1:AV):evBody (pg.cx call Tryz.f12.ntmps ann12) fx Tryz.f12 (own 12) [a0,a1] = S12 call fx a0 a1:=by kernel_rfl
theorem C12 (a0 a1:AV):callW pg 12 [a0,a1] = isoP (S12 (callW pg) fixW (cl noHs a0) (cl noHs a1)):=(callW_iso hOther rfl rfl rfl _).trans (congrArg isoP (E12 _ _ (cl noHs a0) (cl noHs a1)))
noncomputable def S13 (call:CC) (_fx:Fix AV) (a0 a1:AV):M AV :=
 bnd (lft (loadA T 26 (AV.ip (acells a0)))) fun v0 =>
 bnd (lft (loadA T 33 (AV.ip (acells a1)))) fun v1 =>
 bnd (call 10 [v0,v1]) fun v2 =>
 bnd (lft (extractA v2 0)) fun v3 =>
 bnd (lft (extractA v2 1)) fun v4 =>
 bnd (cellsM 2 v3) fun v5 =>
 bnd (lft (unA UnOp.not v4)) fun v6 =>
 condM v6 (M.pure (AV.sl [])) (bnd (lft (fieldAddrA T 26 (AV.ip (acells a0)) 0)) fun v7 =>
 bnd (lft (loadA T 22 v7)) fun v8 =>
 bnd (lft (loadA T 37 (AV.ip (acells v5)))) fun v9 =>
 bnd (call 41 [v8,v9]) fun v10 =>
 M.pure v10)
theorem E13 (call:CC) (fx:Fix AV) (a0 a1:AV):evBody (pg.cx call Tryz.f13.ntmps ann13) fx Tryz.f13 (own 13) [a0,a1] = S13 call fx a0 a1:=by kernel_rfl
theorem C13 (a0 a1:AV):callW pg 13 [a0,a1] = isoP (S13 (callW pg) fixW (cl noHs a0) (cl noHs a1)):=(callW_iso hOther rfl rfl rfl _).trans (congrArg isoP (E13 _ _ (cl noHs a0) (cl noHs a1)))
noncomputable def L15_0 (_call:CC) (_fx:Fix AV) (v3:List AV→M AV) (v4:List AV):M AV :=
 bnd (lft (lenA T 45 (nth v4 0))) fun v5 =>
 bnd (lft (binA T .lss 3 (nth v4 2) v5)) fun v6 =>
 condM v6 (bnd (lft (indexAddrA T 45 (nth v4 0) (nth v4 2))) fun v7 =>
 bnd (lft (loadA T 3 v7)) fun v8 =>
 bnd (lft (indexAddrA T 45 (nth v4 1) (nth v4 2))) fun v9 =>
 bnd (lft (loadA T 3 v9)) fun v10 =>
 bnd (lft (binA T .neq 3 v8 v10)) fun v11 =>
 condM v11 (M.pure (AV.bool false)) (bnd (lft (binA T .add 3 (nth v4 2) (AV.int .i64 1))) fun v12 =>
 v3 [nth v4 0,nth v4 1,v12])) (M.pure (AV.bool true))
theorem XL15_0 {call:CC}:Cont1 (L15_0 call fixW ) fun _n=>L15_0 call fixW  := by
 intro v3 v3s hself v4
 unfold L15_0
 exact (lb fun _=>(lb fun _=>(condM_lim (lb fun _=>(lb fun _=>(lb fun _=>(lb fun _=>(lb fun _=>(condM_lim (LimM.const _) (lb fun _=>(hself _)))))))) (LimM.const _))))
theorem FL15_0 (call:CC) (vs:List AV):fixW (L15_0 call fixW ) vs=L15_0 call fixW  (fixW (L15_0 call fixW )) vs:=fixW_eq (XL15_0 ) vs
noncomputable def S15 (call:CC) (fx:Fix AV) (a0 a1:AV):M AV :=
 bnd (lft (lenA T 45 a0)) fun v0 =>
 bnd (lft (lenA T 45 a1)) fun v1 =>
 bnd (lft (binA T .neq 3 v0 v1)) fun v2 =>
 condM v2 (M.pure (AV.bool false)) (fx (L15_0 call fx) [a0,a1,AV.int .i64 0])
theorem E15 (call:CC) (fx:Fix AV) (a0 a1:AV):evBody (pg.cx call Tryz.f15.ntmps ann15) fx Tryz.f15 (own 15) [a0,a1] = S15 call fx a0 a1:=by kernel_rfl
theorem C15 (a0 a1:AV):callW pg 15 [a0,a1] = isoP (S15 (callW pg) fixW (cl noHs a0) (cl noHs a1)):=(callW_iso hOther rfl rfl rfl _).trans (congrArg isoP (E15 _ _ (cl noHs a0) (cl noHs a1)))
noncomputable def L16_0 (call:CC) (_fx:Fix AV) (v10:List AV→M AV) (v11:List AV):M AV :=
 bnd (lft (binA T .lss 3 (nth v11 5) (nth v11 4))) fun v12 =>
 condM v12 (bnd (lft (indexAddrA T 24 (nth v11 3) (nth v11 5))) fun v13 =>
 bnd (lft (loadA T 63 v13)) fun v14 =>
 bnd (cellsM 3 v14) fun v15 =>
 bnd (lft (loadA T 90 (nth v11 1))) fun v16 =>
 bnd (lft (loadA T 33 (nth v11 0))) fun v17 =>
 bnd (lft (loadA T 63 (AV.ip (acells v15)))) fun v18 =>
 bnd (call 43 [v16,v17,v18]) fun v19 =>
 bnd (lft (extractA v19 0)) fun v20 =>
 bnd (lft (extractA v19 1)) fun _v21 =>
 condM v20 (bnd (lft (buildSliceA T 45 1 [(0,nth v11 5)])) fun v22 =>
 bnd (lft (appA T 45 (nth v11 2) v22)) fun v23 =>
 bnd (lft (binA T .add 3 (nth v11 5) (AV.int .i64 1))) fun v24 =>
 v10 [nth v11 0,nth v11 1,v23,nth v11 3,nth v11 4,v24]) (bnd (lft (binA T .add 3 (nth v11 5) (AV.int .i64 1))) fun v25 =>
 v10 [nth v11 0,nth v11 1,nth v11 2,nth v11 3,nth v11 4,v25])) (M.pure (nth v11 2))
theorem XL16_0 {call:CC}:Cont1 (L16_0 call fixW ) fun _n=>L16_0 call fixW  := by
 intro v10 v10s hself v11
 unfold L16_0
 exact (lb fun _=>(condM_lim (lb fun _=>(lb fun _=>(lb fun _=>(lb fun _=>(lb fun _=>(lb fun _=>(lb fun _=>(lb fun _=>(lb fun _=>(condM_lim (lb fun _=>(lb fun _=>(lb fun _=>(hself _)))) (lb fun _=>(hself _)))))))))))) (LimM.const _)))
theorem FL16_0 (call:CC) (vs:List AV):fixW (L16_0 call fixW ) vs=L16_0 call fixW  (fixW (L16_0 call fixW )) vs:=fixW_eq (XL16_0 ) vs
noncomputable def S16 (call:CC) (fx:Fix AV) (a0 a1:AV):M AV :=
 bnd (lft (loadA T 26 (AV.ip (acells a0)))) fun v0 =>
 bnd (lft (loadA T 33 (AV.ip (acells a1)))) fun v1 =>
 bnd (call 39 [v0,v1]) fun v2 =>
 bnd (lft (extractA v2 0)) fun v3 =>
 bnd (lft (extractA v2 1)) fun v4 =>
 bnd (cellsM 12 v3) fun v5 =>
 bnd (lft (unA UnOp.not v4)) fun v6 =>
 condM v6 (M.pure (AV.sl [])) (bnd (lft (fieldAddrA T 26 (AV.ip (acells a0)) 2)) fun v7 =>
 bnd (lft (loadA T 24 v7)) fun v8 =>
 bnd (lft (lenA T 24 v8)) fun v9 =>
 fx (L16_0 call fx) [AV.ip (acells a1),AV.ip (acells v5),AV.sl [],v8,v9,AV.int .i64 0])
theorem E16 (call:CC) (fx:Fix AV) (a0 a1:AV):evBody (pg.cx call Tryz.f16.ntmps ann16) fx Tryz.f16 (own 16) [a0,a1] = S16 call fx a0 a1:=by kernel_rfl
theorem C16 (a0 a1:AV):callW pg 16 [a0,a1] = isoP (S16 (callW pg) fixW (cl noHs a0) (cl noHs a1)):=(callW_iso hOther rfl rfl rfl _).trans (congrArg isoP (E16 _ _ (cl noHs a0) (cl noHs a1)))
noncomputable def L18_0 (call:CC) (_fx:Fix AV) (v25:List AV→M AV) (v26:List AV):M AV :=
 bnd (lft (binA T .lss 3 (nth v26 5) (nth v26 4))) fun v27 =>
 condM v27 (bnd (lft (indexAddrA T 24 (nth v26 3) (nth v26 5))) fun v28 =>
 bnd (lft (loadA T 63 v28)) fun v29 =>
 bnd (cellsM 3 v29) fun v30 =>
 bnd (lft (loadA T 90 (nth v26 1))) fun v31 =>
 bnd (lft (loadA T 33 (nth v26 0))) fun v32 =>
 bnd (lft (loadA T 63 (AV.ip (acells v30)))) fun v33 =>
 bnd (call 43 [v31,v32,v33]) fun v34 =>
 bnd (lft (extractA v34 0)) fun _v35 =>
 bnd (lft (extractA v34 1)) fun v36 =>
 bnd (guardM v36 false 1 (bnd (lft (fieldAddrA T 90 (nth v26 1) 1)) fun v37 =>
 bnd (lft (loadA T 4 v37)) fun v38 =>
 bnd (lft (unA UnOp.not v38)) fun v39 =>
 M.pure [v39])) fun v40 =>
 bnd (guardM (nth v40 0) true 1 (bnd (lft (fieldAddrA T 63 (AV.ip (acells v30)) 0)) fun v41 =>
 bnd (lft (loadA T 9 v41)) fun v42 =>
 bnd (lft (fieldAddrA T 63 (AV.ip (acells v30)) 1)) fun v43 =>
 bnd (lft (loadA T 9 v43)) fun v44 =>
 bnd (lft (buildA T false 37 [(0,v42),(1,v44)])) fun v45 =>
 bnd (call 45 [nth v26 2,v45]) fun v46 =>
 M.pure [v46])) fun v47 =>
 bnd (guardM v36 false 1 (bnd (lft (pickA (nth v40 0) (nth v47 0) (AV.bool false))) fun v48 =>
 M.pure [v48])) fun v49 =>
 bnd (lft (pickA v36 (AV.bool true) (nth v49 0))) fun v50 =>
 condM v50 (M.pure (AV.int .i64 1)) (bnd (lft (binA T .add 3 (nth v26 5) (AV.int .i64 1))) fun v51 =>
 v25 [nth v26 0,nth v26 1,nth v26 2,nth v26 3,nth v26 4,v51])) (M.pure (AV.int .i64 0))
theorem XL18_0 {call:CC}:Cont1 (L18_0 call fixW ) fun _n=>L18_0 call fixW  := by
 intro v25 v25s hself v26
 unfold L18_0
 exact (lb fun _=>(condM_lim (lb fun _=>(lb fun _=>(lb fun _=>(lb fun _=>(lb fun _=>(lb fun _=>(lb fun _=>(lb fun _=>(lb fun _=>(lb fun _=>(lb fun _=>(lb fun _=>(lb fun _=>(condM_lim (LimM.const _) (lb fun _=>(hself _)))))))))))))))) (LimM.const _)))
theorem FL18_0 (call:CC) (vs:List AV):fixW (L18_0 call fixW ) vs=L18_0 call fixW  (fixW (L18_0 call fixW )) vs:=fixW_eq (XL18_0 ) vs
noncomputable def S18 (call:CC) (fx:Fix AV) (a0 a1:AV):M AV :=
 bnd (lft (loadA T 26 (AV.ip (acells a0)))) fun v0 =>
 bnd (lft (loadA T 33 (AV.ip (acells a1)))) fun v1 =>
 bnd (call 39 [v0,v1]) fun v2 =>
 bnd (lft (extractA v2 0)) fun v3 =>
 bnd (lft (extractA v2 1)) fun v4 =>
 bnd (cellsM 12 v3) fun v5 =>
 bnd (lft (loadA T 26 (AV.ip (acells a0)))) fun v6 =>
 bnd (lft (loadA T 33 (AV.ip (acells a1)))) fun v7 =>
 bnd (call 16 [v6,v7]) fun v8 =>
 bnd (lft (lenA T 45 v8)) fun v9 =>
 bnd (lft (binA T .gtr 3 v9 (AV.int .i64 0))) fun v10 =>
 condM v10 (M.pure (AV.int .i64 2)) (bnd (lft (loadA T 26 (AV.ip (acells a0)))) fun v11 =>
 bnd (lft (loadA T 33 (AV.ip (acells a1)))) fun v12 =>
 bnd (call 13 [v11,v12]) fun v13 =>
 bnd (lft (unA UnOp.not v4)) fun v14 =>
 bnd (guardM v14 false 1 (bnd (lft (lenA T 42 v13)) fun v15 =>
 bnd (lft (binA T .eql 3 v15 (AV.int .i64 0))) fun v16 =>
 M.pure [v16])) fun v17 =>
 bnd (lft (pickA v14 (AV.bool true) (nth v17 0))) fun v18 =>
 condM v18 (M.pure (AV.int .i64 0)) (bnd (lft (fieldAddrA T 26 (AV.ip (acells a0)) 3)) fun v19 =>
 bnd (lft (loadA T 4 v19)) fun v20 =>
 bnd (lft (unA UnOp.not v20)) fun v21 =>
 condM v21 (M.pure (AV.int .i64 1)) (bnd (lft (fieldAddrA T 26 (AV.ip (acells a0)) 2)) fun v22 =>
 bnd (lft (loadA T 24 v22)) fun v23 =>
 bnd (lft (lenA T 24 v23)) fun v24 =>
 fx (L18_0 call fx) [AV.ip (acells a1),AV.ip (acells v5),v13,v23,v24,AV.int .i64 0])))
theorem E18 (call:CC) (fx:Fix AV) (a0 a1:AV):evBody (pg.cx call Tryz.f18.ntmps ann18) fx Tryz.f18 (own 18) [a0,a1] = S18 call fx a0 a1:=by kernel_rfl
theorem C18 (a0 a1:AV):callW pg 18 [a0,a1] = isoP (S18 (callW pg) fixW (cl noHs a0) (cl noHs a1)):=(callW_iso hOther rfl rfl rfl _).trans (congrArg isoP (E18 _ _ (cl noHs a0) (cl noHs a1)))
noncomputable def L20_0 (call:CC) (_fx:Fix AV) (v1:List AV→M AV) (v2:List AV):M AV :=
 bnd (lft (binA T .lss 3 (nth v2 4) (nth v2 3))) fun v3 =>
 condM v3 (bnd (lft (indexAddrA T 40 (nth v2 2) (nth v2 4))) fun v4 =>
 bnd (lft (loadA T 26 v4)) fun v5 =>
 bnd (cellsM 4 v5) fun v6 =>
 bnd (lft (fieldAddrA T 26 (AV.ip (acells v6)) 3)) fun v7 =>
 bnd (lft (loadA T 4 v7)) fun v8 =>
 bnd (lft (unA UnOp.not v8)) fun v9 =>
 bnd (guardM v9 true 1 (bnd (lft (loadA T 26 (AV.ip (acells v6)))) fun v10 =>
 bnd (lft (loadA T 33 (nth v2 0))) fun v11 =>
 bnd (call 18 [v10,v11]) fun v12 =>
 bnd (lft (binA T .eql 3 v12 (AV.int .i64 1))) fun v13 =>
 M.pure [v13])) fun v14 =>
 bnd (lft (pickA v9 (nth v14 0) (AV.bool false))) fun v15 =>
 condM v15 (bnd (lft (buildSliceA T 45 1 [(0,nth v2 4)])) fun v16 =>
 bnd (lft (appA T 45 (nth v2 1) v16)) fun v17 =>
 bnd (lft (binA T .add 3 (nth v2 4) (AV.int .i64 1))) fun v18 =>
 v1 [nth v2 0,v17,nth v2 2,nth v2 3,v18]) (bnd (lft (binA T .add 3 (nth v2 4) (AV.int .i64 1))) fun v19 =>
 v1 [nth v2 0,nth v2 1,nth v2 2,nth v2 3,v19])) (M.pure (nth v2 1))
theorem XL20_0 {call:CC}:Cont1 (L20_0 call fixW ) fun _n=>L20_0 call fixW  := by
 intro v1 v1s hself v2
 unfold L20_0
 exact (lb fun _=>(condM_lim (lb fun _=>(lb fun _=>(lb fun _=>(lb fun _=>(lb fun _=>(lb fun _=>(lb fun _=>(lb fun _=>(condM_lim (lb fun _=>(lb fun _=>(lb fun _=>(hself _)))) (lb fun _=>(hself _))))))))))) (LimM.const _)))
theorem FL20_0 (call:CC) (vs:List AV):fixW (L20_0 call fixW ) vs=L20_0 call fixW  (fixW (L20_0 call fixW )) vs:=fixW_eq (XL20_0 ) vs
noncomputable def S20 (call:CC) (fx:Fix AV) (a0 a1:AV):M AV :=
 bnd (lft (lenA T 40 a0)) fun v0 =>
 fx (L20_0 call fx) [AV.ip (acells a1),AV.sl [],a0,v0,AV.int .i64 0]
theorem E20 (call:CC) (fx:Fix AV) (a0 a1:AV):evBody (pg.cx call Tryz.f20.ntmps ann20) fx Tryz.f20 (own 20) [a0,a1] = S20 call fx a0 a1:=by kernel_rfl
theorem C20 (a0 a1:AV):callW pg 20 [a0,a1] = isoP (S20 (callW pg) fixW (cl noHs a0) (cl noHs a1)):=(callW_iso hOther rfl rfl rfl _).trans (congrArg isoP (E20 _ _ (cl noHs a0) (cl noHs a1)))
noncomputable def S22 (call:CC) (_fx:Fix AV) (a0 a1:AV):M AV :=
 bnd (call 46 [a0,AV.fn (Fn.func 47) [] [AV.ip (acells a1)]]) fun v0 =>
 M.pure v0
theorem E22 (call:CC) (fx:Fix AV) (a0 a1:AV):evBody (pg.cx call Tryz.f22.ntmps ann22) fx Tryz.f22 (own 22) [a0,a1] = S22 call fx a0 a1:=by kernel_rfl
theorem C22 (a0 a1:AV):callW pg 22 [a0,a1] = isoP (S22 (callW pg) fixW (cl noHs a0) (cl noHs a1)):=(callW_iso hOther rfl rfl rfl _).trans (congrArg isoP (E22 _ _ (cl noHs a0) (cl noHs a1)))
noncomputable def S33 (_call:CC) (_fx:Fix AV):M AV :=
 bnd (lft (buildA T false 31 [(1,AV.int .i64 4)])) fun v0 =>
 bnd (lft (buildA T false 31 [(0,AV.int .i64 2),(2,AV.str [120])])) fun v1 =>
 bnd (lft (buildSliceA T 29 2 [(0,v0),(1,v1)])) fun v2 =>
 bnd (lft (buildA T false 31 [(0,AV.int .i64 6),(5,v2)])) fun v3 =>
 bnd (cellsM 6 v3) fun v4 =>
 bnd (lft (buildA T false 58 [(0,AV.int .i64 1)])) fun v5 =>
 bnd (lft (buildA T false 58 [(0,AV.int .i64 2)])) fun v6 =>
 bnd (lft (buildA T false 99 [(0,v5),(1,v6)])) fun v7 =>
 bnd (lft (buildSliceA T 27 1 [(0,v7)])) fun v8 =>
 bnd (lft (loadA T 31 (AV.ip (acells v4)))) fun v9 =>
 bnd (lft (buildA T false 33 [(0,AV.int .i64 1),(1,AV.str [103,101,111]),(2,v8),(3,AV.str [105,100]),(4,v9)])) fun v10 =>
 bnd (cellsNil 10 [] v10) fun v11 =>
 M.pure (AV.agg [nth (acells v11) 0,nth (acells v11) 1,nth (acells v11) 2,nth (acells v11) 3,nth (acells v11) 4,nth (acells v11) 5,nth (acells v11) 6,nth (acells v11) 7,nth (acells v11) 8,nth (acells v11) 9])
theorem E33 (call:CC) (fx:Fix AV):evBody (pg.cx call Tryz.f33.ntmps ann33) fx Tryz.f33 (own 33) [] = S33 call fx  := by kernel_rfl
theorem C33:callW pg 33 [] = isoP (S33 (callW pg) fixW ):=(callW_iso hOther rfl rfl rfl _).trans (congrArg isoP (E33 _ _ ))
noncomputable def S34 (_call:CC) (_fx:Fix AV) (a0:AV):M AV :=
 bnd (lft (buildA T false 31 [(0,AV.int .i64 2),(2,AV.str [120])])) fun v0 =>
 bnd (cellsM 6 v0) fun v1 =>
 bnd (lft (buildA T false 105 [(0,AV.str [120])])) fun v2 =>
 bnd (lft (buildSliceA T 50 1 [(0,v2)])) fun v3 =>
 bnd (lft (loadA T 31 (AV.ip (acells v1)))) fun v4 =>
 bnd (lft (buildA T false 90 [(0,AV.str [105,100]),(1,AV.bool true),(2,v3),(5,v4)])) fun v5 =>
 bnd (cellsM 12 v5) fun v6 =>
 bnd (lft (buildA T false 105 [(0,AV.str [120])])) fun v7 =>
 bnd (lft (buildSliceA T 50 1 [(0,v7)])) fun v8 =>
 bnd (lft (loadA T 31 (AV.ip (acells v1)))) fun v9 =>
 bnd (lft (buildSliceA T 29 1 [(0,v9)])) fun v10 =>
 bnd (lft (buildA T false 31 [(0,AV.int .i64 15),(3,AV.str [103,101,111]),(2,AV.str [105,100]),(5,v10)])) fun v11 =>
 bnd (lft (buildA T false 90 [(0,AV.str [116,119,111]),(1,AV.bool true),(2,v8),(5,v11)])) fun v12 =>
 bnd (cellsM 12 v12) fun v13 =>
 bnd (lft (buildSliceA T 28 1 [(0,AV.str [103,101,111])])) fun v14 =>
 bnd (lft (loadA T 90 (AV.ip (acells v13)))) fun v15 =>
 bnd (lft (buildSliceA T 51 1 [(0,v15)])) fun v16 =>
 bnd (lft (buildA T false 55 [(0,AV.str [98,97,115,101]),(1,v14),(4,v16)])) fun v17 =>
 bnd (lft (loadA T 90 (AV.ip (acells v6)))) fun v18 =>
 bnd (lft (buildSliceA T 51 1 [(0,v18)])) fun v19 =>
 bnd (lft (buildA T false 55 [(0,AV.str [103,101,111]),(4,v19)])) fun v20 =>
 bnd (lft (buildSliceA T 22 2 [(0,v17),(1,v20)])) fun v21 =>
 bnd (lft (buildA T false 58 [(0,AV.int .i64 1)])) fun v22 =>
 bnd (lft (buildA T false 58 [(0,AV.int .i64 1),(1,AV.int .i64 2)])) fun v23 =>
 bnd (lft (buildSliceA T 23 2 [(0,v22),(1,v23)])) fun v24 =>
 bnd (lft (buildA T false 26 [(0,v21),(1,v24),(3,a0)])) fun v25 =>
 bnd (cellsNil 4 [] v25) fun v26 =>
 M.pure (AV.agg [nth (acells v26) 0,nth (acells v26) 1,nth (acells v26) 2,nth (acells v26) 3])
theorem E34 (call:CC) (fx:Fix AV) (a0:AV):evBody (pg.cx call Tryz.f34.ntmps ann34) fx Tryz.f34 (own 34) [a0] = S34 call fx a0:=by kernel_rfl
theorem C34 (a0:AV):callW pg 34 [a0] = isoP (S34 (callW pg) fixW (cl noHs a0)):=(callW_iso hOther rfl rfl rfl _).trans (congrArg isoP (E34 _ _ (cl noHs a0)))
noncomputable def S35 (call:CC) (_fx:Fix AV) (a0 a1 a2:AV):M AV :=
 bnd (call 69 [a2]) fun v0 =>
 bnd (lft (buildSliceA T 61 1 [(0,v0)])) fun v1 =>
 bnd (lft (buildA T false 63 [(0,a0),(1,a1),(2,v1)])) fun v2 =>
 bnd (cellsNil 3 [] v2) fun v3 =>
 M.pure (AV.agg [nth (acells v3) 0,nth (acells v3) 1,nth (acells v3) 2])
theorem E35 (call:CC) (fx:Fix AV) (a0 a1 a2:AV):evBody (pg.cx call Tryz.f35.ntmps ann35) fx Tryz.f35 (own 35) [a0,a1,a2] = S35 call fx a0 a1 a2:=by kernel_rfl
theorem C35 (a0 a1 a2:AV):callW pg 35 [a0,a1,a2] = isoP (S35 (callW pg) fixW (cl noHs a0) (cl noHs a1) (cl noHs a2)):=(callW_iso hOther rfl rfl rfl _).trans (congrArg isoP (E35 _ _ (cl noHs a0) (cl noHs a1) (cl noHs a2)))
noncomputable def L36_0 (call:CC) (_fx:Fix AV) (v47:List AV→M AV) (v48:List AV):M AV :=
 bnd (lft (lenA T 29 (nth v48 1))) fun v49 =>
 bnd (lft (binA T .lss 3 (nth v48 2) v49)) fun v50 =>
 condM v50 (bnd (lft (indexAddrA T 29 (nth v48 1) (nth v48 2))) fun v51 =>
 bnd (lft (loadA T 31 v51)) fun v52 =>
 bnd (call 37 [v52,AV.int .i64 40,AV.int .i64 16]) fun v53 =>
 bnd (lft (binA T .gtr 3 v53 (AV.int .i64 40))) fun v54 =>
 condM v54 (M.pure (AV.bool false)) (bnd (lft (binA T .add 3 (nth v48 2) (AV.int .i64 1))) fun v55 =>
 v47 [nth v48 0,nth v48 1,v55])) (bnd (lft (fieldAddrA T 55 (nth v48 0) 1)) fun v56 =>
 bnd (lft (loadA T 28 v56)) fun v57 =>
 bnd (lft (lenA T 28 v57)) fun v58 =>
 bnd (lft (binA T .leq 3 v58 (AV.int .i64 12))) fun v59 =>
 bnd (guardM v59 true 1 (bnd (lft (fieldAddrA T 55 (nth v48 0) 2)) fun v60 =>
 bnd (lft (loadA T 50 v60)) fun v61 =>
 bnd (call 70 [v61]) fun v62 =>
 M.pure [v62])) fun v63 =>
 bnd (lft (pickA v59 (nth v63 0) (AV.bool false))) fun v64 =>
 bnd (guardM v64 true 1 (bnd (lft (fieldAddrA T 55 (nth v48 0) 6)) fun v65 =>
 bnd (lft (fieldAddrA T 53 v65 0)) fun v66 =>
 bnd (lft (loadA T 50 v66)) fun v67 =>
 bnd (call 70 [v67]) fun v68 =>
 M.pure [v68])) fun v69 =>
 bnd (lft (pickA v64 (nth v69 0) (AV.bool false))) fun v70 =>
 bnd (guardM v70 true 1 (bnd (lft (fieldAddrA T 55 (nth v48 0) 6)) fun v71 =>
 bnd (lft (fieldAddrA T 53 v71 1)) fun v72 =>
 bnd (lft (loadA T 29 v72)) fun v73 =>
 bnd (lft (lenA T 29 v73)) fun v74 =>
 bnd (lft (binA T .leq 3 v74 (AV.int .i64 6))) fun v75 =>
 M.pure [v75])) fun v76 =>
 bnd (lft (pickA v70 (nth v76 0) (AV.bool false))) fun v77 =>
 bnd (guardM v77 true 1 (bnd (lft (fieldAddrA T 55 (nth v48 0) 6)) fun v78 =>
 bnd (lft (fieldAddrA T 53 v78 2)) fun v79 =>
 bnd (lft (loadA T 29 v79)) fun v80 =>
 bnd (lft (lenA T 29 v80)) fun v81 =>
 bnd (lft (binA T .leq 3 v81 (AV.int .i64 6))) fun v82 =>
 M.pure [v82])) fun v83 =>
 bnd (lft (pickA v77 (nth v83 0) (AV.bool false))) fun v84 =>
 M.pure v84)
noncomputable def L36_1 (call:CC) (fx:Fix AV) (v0:List AV→M AV) (v1:List AV):M AV :=
 bnd (lft (fieldAddrA T 55 (nth v1 0) 4)) fun v2 =>
 bnd (lft (loadA T 51 v2)) fun v3 =>
 bnd (lft (lenA T 51 v3)) fun v4 =>
 bnd (lft (binA T .lss 3 (nth v1 1) v4)) fun v5 =>
 bnd (guardM v5 true 1 (bnd (lft (binA T .lss 3 (nth v1 1) (AV.int .i64 9))) fun v6 =>
 M.pure [v6])) fun v7 =>
 bnd (lft (pickA v5 (nth v7 0) (AV.bool false))) fun v8 =>
 condM v8 (bnd (lft (fieldAddrA T 55 (nth v1 0) 4)) fun v9 =>
 bnd (lft (loadA T 51 v9)) fun v10 =>
 bnd (lft (indexAddrA T 51 v10 (nth v1 1))) fun v11 =>
 bnd (lft (fieldAddrA T 90 v11 2)) fun v12 =>
 bnd (lft (loadA T 50 v12)) fun v13 =>
 bnd (call 70 [v13]) fun v14 =>
 bnd (lft (unA UnOp.not v14)) fun v15 =>
 bnd (guardM v15 false 1 (bnd (lft (fieldAddrA T 55 (nth v1 0) 4)) fun v16 =>
 bnd (lft (loadA T 51 v16)) fun v17 =>
 bnd (lft (indexAddrA T 51 v17 (nth v1 1))) fun v18 =>
 bnd (lft (fieldAddrA T 90 v18 3)) fun v19 =>
 bnd (lft (loadA T 88 v19)) fun v20 =>
 bnd (call 71 [v20,AV.int .i64 20,AV.int .i64 8]) fun v21 =>
 bnd (lft (binA T .gtr 3 v21 (AV.int .i64 20))) fun v22 =>
 M.pure [v22])) fun v23 =>
 bnd (lft (pickA v15 (AV.bool true) (nth v23 0))) fun v24 =>
 condM v24 (M.pure (AV.bool false)) (bnd (lft (binA T .add 3 (nth v1 1) (AV.int .i64 1))) fun v25 =>
 v0 [nth v1 0,v25])) (bnd (lft (buildSliceA T 29 0 [])) fun v26 =>
 bnd (lft (fieldAddrA T 55 (nth v1 0) 6)) fun v27 =>
 bnd (lft (fieldAddrA T 53 v27 1)) fun v28 =>
 bnd (lft (loadA T 29 v28)) fun v29 =>
 bnd (lft (fieldAddrA T 55 (nth v1 0) 6)) fun v30 =>
 bnd (lft (fieldAddrA T 53 v30 1)) fun v31 =>
 bnd (lft (loadA T 29 v31)) fun v32 =>
 bnd (lft (lenA T 29 v32)) fun v33 =>
 bnd (lft (minsA false [v33,AV.int .i64 7])) fun v34 =>
 bnd (lft (sliceA T 29 v29 none (some v34) none)) fun v35 =>
 bnd (lft (appA T 29 v26 v35)) fun v36 =>
 bnd (lft (fieldAddrA T 55 (nth v1 0) 6)) fun v37 =>
 bnd (lft (fieldAddrA T 53 v37 2)) fun v38 =>
 bnd (lft (loadA T 29 v38)) fun v39 =>
 bnd (lft (fieldAddrA T 55 (nth v1 0) 6)) fun v40 =>
 bnd (lft (fieldAddrA T 53 v40 2)) fun v41 =>
 bnd (lft (loadA T 29 v41)) fun v42 =>
 bnd (lft (lenA T 29 v42)) fun v43 =>
 bnd (lft (minsA false [v43,AV.int .i64 7])) fun v44 =>
 bnd (lft (sliceA T 29 v39 none (some v44) none)) fun v45 =>
 bnd (lft (appA T 29 v36 v45)) fun v46 =>
 fx (L36_0 call fx) [nth v1 0,v46,AV.int .i64 0])
theorem XL36_0 {call:CC}:Cont1 (L36_0 call fixW ) fun _n=>L36_0 call fixW  := by
 intro v47 v47s hself v48
 unfold L36_0
 exact (lb fun _=>(lb fun _=>(condM_lim (lb fun _=>(lb fun _=>(lb fun _=>(lb fun _=>(condM_lim (LimM.const _) (lb fun _=>(hself _))))))) (LimM.const _))))
theorem FL36_0 (call:CC) (vs:List AV):fixW (L36_0 call fixW ) vs=L36_0 call fixW  (fixW (L36_0 call fixW )) vs:=fixW_eq (XL36_0 ) vs
theorem XL36_1 {call:CC}:Cont1 (L36_1 call fixW ) fun _n=>L36_1 call fixW  := by
 intro v0 v0s hself v1
 unfold L36_1
 exact (lb fun _=>(lb fun _=>(lb fun _=>(lb fun _=>(lb fun _=>(lb fun _=>(condM_lim (lb fun _=>(lb fun _=>(lb fun _=>(lb fun _=>(lb fun _=>(lb fun _=>(lb fun _=>(lb fun _=>(lb fun _=>(condM_lim (LimM.const _) (lb fun _=>(hself _)))))))))))) (LimM.const _))))))))
theorem FL36_1 (call:CC) (vs:List AV):fixW (L36_1 call fixW ) vs=L36_1 call fixW  (fixW (L36_1 call fixW )) vs:=fixW_eq (XL36_1 ) vs
noncomputable def S36 (call:CC) (fx:Fix AV) (a0:AV):M AV :=
 fx (L36_1 call fx) [AV.ip (acells a0),AV.int .i64 0]
theorem E36 (call:CC) (fx:Fix AV) (a0:AV):evBody (pg.cx call Tryz.f36.ntmps ann36) fx Tryz.f36 (own 36) [a0] = S36 call fx a0:=by kernel_rfl
theorem C36 (a0:AV):callW pg 36 [a0] = isoP (S36 (callW pg) fixW (cl noHs a0)):=(callW_iso hOther rfl rfl rfl _).trans (congrArg isoP (E36 _ _ (cl noHs a0)))
noncomputable def L37_0 (call:CC) (_fx:Fix AV) (v2:List AV→M AV) (v3:List AV):M AV :=
 bnd (lft (fieldAddrA T 31 (nth v3 2) 5)) fun v4 =>
 bnd (lft (loadA T 29 v4)) fun v5 =>
 bnd (lft (lenA T 29 v5)) fun v6 =>
 bnd (lft (binA T .lss 3 (nth v3 4) v6)) fun v7 =>
 bnd (guardM v7 true 1 (bnd (lft (binA T .leq 3 (nth v3 3) (nth v3 0))) fun v8 =>
 M.pure [v8])) fun v9 =>
 bnd (lft (pickA v7 (nth v9 0) (AV.bool false))) fun v10 =>
 condM v10 (bnd (lft (fieldAddrA T 31 (nth v3 2) 5)) fun v11 =>
 bnd (lft (loadA T 29 v11)) fun v12 =>
 bnd (lft (indexAddrA T 29 v12 (nth v3 4))) fun v13 =>
 bnd (lft (loadA T 31 v13)) fun v14 =>
 bnd (lft (binA T .sub 3 (nth v3 0) (nth v3 3))) fun v15 =>
 bnd (lft (binA T .sub 3 (nth v3 1) (AV.int .i64 1))) fun v16 =>
 bnd (call 37 [v14,v15,v16]) fun v17 =>
 bnd (lft (binA T .add 3 (nth v3 3) v17)) fun v18 =>
 bnd (lft (binA T .add 3 (nth v3 4) (AV.int .i64 1))) fun v19 =>
 v2 [nth v3 0,nth v3 1,nth v3 2,v18,v19]) (M.pure (nth v3 3))
theorem XL37_0 {call:CC}:Cont1 (L37_0 call fixW ) fun _n=>L37_0 call fixW  := by
 intro v2 v2s hself v3
 unfold L37_0
 exact (lb fun _=>(lb fun _=>(lb fun _=>(lb fun _=>(lb fun _=>(lb fun _=>(condM_lim (lb fun _=>(lb fun _=>(lb fun _=>(lb fun _=>(lb fun _=>(lb fun _=>(lb fun _=>(lb fun _=>(lb fun _=>(hself _)))))))))) (LimM.const _))))))))
theorem FL37_0 (call:CC) (vs:List AV):fixW (L37_0 call fixW ) vs=L37_0 call fixW  (fixW (L37_0 call fixW )) vs:=fixW_eq (XL37_0 ) vs
noncomputable def S37 (call:CC) (fx:Fix AV) (a0 a1 a2:AV):M AV :=
 bnd (lft (binA T .lss 3 a2 (AV.int .i64 1))) fun v0 =>
 condM v0 (bnd (lft (binA T .add 3 a1 (AV.int .i64 1))) fun v1 =>
 M.pure v1) (fx (L37_0 call fx) [a1,a2,AV.ip (acells a0),AV.int .i64 1,AV.int .i64 0])
theorem E37 (call:CC) (fx:Fix AV) (a0 a1 a2:AV):evBody (pg.cx call Tryz.f37.ntmps ann37) fx Tryz.f37 (own 37) [a0,a1,a2] = S37 call fx a0 a1 a2:=by kernel_rfl
theorem C37 (a0 a1 a2:AV):callW pg 37 [a0,a1,a2] = isoP (S37 (callW pg) fixW (cl noHs a0) (cl noHs a1) (cl noHs a2)):=(callW_iso hOther rfl rfl rfl _).trans (congrArg isoP (E37 _ _ (cl noHs a0) (cl noHs a1) (cl noHs a2)))
noncomputable def L38_0 (call:CC) (_fx:Fix AV) (v2:List AV→M AV) (v3:List AV):M AV :=
 bnd (lft (fieldAddrA T 71 (nth v3 2) 3)) fun v4 =>
 bnd (lft (loadA T 61 v4)) fun v5 =>
 bnd (lft (lenA T 61 v5)) fun v6 =>
 bnd (lft (binA T .lss 3 (nth v3 4) v6)) fun v7 =>
 bnd (guardM v7 true 1 (bnd (lft (binA T .leq 3 (nth v3 3) (nth v3 0))) fun v8 =>
 M.pure [v8])) fun v9 =>
 bnd (lft (pickA v7 (nth v9 0) (AV.bool false))) fun v10 =>
 condM v10 (bnd (lft (fieldAddrA T 71 (nth v3 2) 3)) fun v11 =>
 bnd (lft (loadA T 61 v11)) fun v12 =>
 bnd (lft (indexAddrA T 61 v12 (nth v3 4))) fun v13 =>
 bnd (lft (loadA T 71 v13)) fun v14 =>
 bnd (lft (binA T .sub 3 (nth v3 0) (nth v3 3))) fun v15 =>
 bnd (lft (binA T .sub 3 (nth v3 1) (AV.int .i64 1))) fun v16 =>
 bnd (call 38 [v14,v15,v16]) fun v17 =>
 bnd (lft (binA T .add 3 (nth v3 3) v17)) fun v18 =>
 bnd (lft (binA T .add 3 (nth v3 4) (AV.int .i64 1))) fun v19 =>
 v2 [nth v3 0,nth v3 1,nth v3 2,v18,v19]) (M.pure (nth v3 3))
theorem XL38_0 {call:CC}:Cont1 (L38_0 call fixW ) fun _n=>L38_0 call fixW  := by
 intro v2 v2s hself v3
 unfold L38_0
 exact (lb fun _=>(lb fun _=>(lb fun _=>(lb fun _=>(lb fun _=>(lb fun _=>(condM_lim (lb fun _=>(lb fun _=>(lb fun _=>(lb fun _=>(lb fun _=>(lb fun _=>(lb fun _=>(lb fun _=>(lb fun _=>(hself _)))))))))) (LimM.const _))))))))
theorem FL38_0 (call:CC) (vs:List AV):fixW (L38_0 call fixW ) vs=L38_0 call fixW  (fixW (L38_0 call fixW )) vs:=fixW_eq (XL38_0 ) vs
noncomputable def S38 (call:CC) (fx:Fix AV) (a0 a1 a2:AV):M AV :=
 bnd (lft (binA T .lss 3 a2 (AV.int .i64 1))) fun v0 =>
 condM v0 (bnd (lft (binA T .add 3 a1 (AV.int .i64 1))) fun v1 =>
 M.pure v1) (fx (L38_0 call fx) [a1,a2,AV.ip (acells a0),AV.int .i64 1,AV.int .i64 0])
theorem E38 (call:CC) (fx:Fix AV) (a0 a1 a2:AV):evBody (pg.cx call Tryz.f38.ntmps ann38) fx Tryz.f38 (own 38) [a0,a1,a2] = S38 call fx a0 a1 a2:=by kernel_rfl
theorem C38 (a0 a1 a2:AV):callW pg 38 [a0,a1,a2] = isoP (S38 (callW pg) fixW (cl noHs a0) (cl noHs a1) (cl noHs a2)):=(callW_iso hOther rfl rfl rfl _).trans (congrArg isoP (E38 _ _ (cl noHs a0) (cl noHs a1) (cl noHs a2)))
noncomputable def S39 (call:CC) (_fx:Fix AV) (a0 a1:AV):M AV :=
 bnd (lft (fieldAddrA T 26 (AV.ip (acells a0)) 0)) fun v0 =>
 bnd (lft (loadA T 22 v0)) fun v1 =>
 bnd (call 72 [v1,AV.fn (Fn.func 73) [] [AV.ip (acells a1)]]) fun v2 =>
 bnd (lft (binA T .lss 3 v2 (AV.int .i64 0))) fun v3 =>
 bnd (guardM v3 false 1 (bnd (lft (fieldAddrA T 26 (AV.ip (acells a0)) 1)) fun v4 =>
 bnd (lft (loadA T 23 v4)) fun v5 =>
 bnd (lft (lenA T 23 v5)) fun v6 =>
 bnd (lft (binA T .geq 3 v2 v6)) fun v7 =>
 M.pure [v7])) fun v8 =>
 bnd (lft (pickA v3 (AV.bool true) (nth v8 0))) fun v9 =>
 bnd (guardM v9 false 1 (bnd (lft (fieldAddrA T 33 (AV.ip (acells a1)) 2)) fun v10 =>
 bnd (lft (loadA T 27 v10)) fun v11 =>
 bnd (lft (fieldAddrA T 26 (AV.ip (acells a0)) 1)) fun v12 =>
 bnd (lft (loadA T 23 v12)) fun v13 =>
 bnd (lft (indexAddrA T 23 v13 v2)) fun v14 =>
 bnd (lft (loadA T 58 v14)) fun v15 =>
 bnd (noPan (call 22 [v11,v15])) fun v16 =>
 bnd (lft (unA UnOp.not v16)) fun v17 =>
 M.pure [v17])) fun v18 =>
 bnd (lft (pickA v9 (AV.bool true) (nth v18 0))) fun v19 =>
 condM v19 (bnd (lft (buildA T false 90 [])) fun v20 =>
 bnd (cellsNil 12 [] v20) fun v21 =>
 M.pure (AV.tup [AV.agg [nth (acells v21) 0,nth (acells v21) 1,nth (acells v21) 2,nth (acells v21) 3,nth (acells v21) 4,nth (acells v21) 5,nth (acells v21) 6,nth (acells v21) 7,nth (acells v21) 8,nth (acells v21) 9,nth (acells v21) 10,nth (acells v21) 11],AV.bool false])) (bnd (lft (fieldAddrA T 26 (AV.ip (acells a0)) 0)) fun v22 =>
 bnd (lft (loadA T 22 v22)) fun v23 =>
 bnd (lft (indexAddrA T 22 v23 v2)) fun v24 =>
 bnd (lft (fieldAddrA T 55 v24 4)) fun v25 =>
 bnd (lft (loadA T 51 v25)) fun v26 =>
 bnd (call 74 [v26,AV.fn (Fn.func 75) [] [AV.ip (acells a1)]]) fun v27 =>
 bnd (lft (binA T .lss 3 v27 (AV.int .i64 0))) fun v28 =>
 condM v28 (bnd (lft (buildA T false 90 [])) fun v29 =>
 bnd (cellsNil 12 [] v29) fun v30 =>
 M.pure (AV.tup [AV.agg [nth (acells v30) 0,nth (acells v30) 1,nth (acells v30) 2,nth (acells v30) 3,nth (acells v30) 4,nth (acells v30) 5,nth (acells v30) 6,nth (acells v30) 7,nth (acells v30) 8,nth (acells v30) 9,nth (acells v30) 10,nth (acells v30) 11],AV.bool false])) (bnd (lft (fieldAddrA T 26 (AV.ip (acells a0)) 0)) fun v31 =>
 bnd (lft (loadA T 22 v31)) fun v32 =>
 bnd (lft (indexAddrA T 22 v32 v2)) fun v33 =>
 bnd (lft (fieldAddrA T 55 v33 4)) fun v34 =>
 bnd (lft (loadA T 51 v34)) fun v35 =>
 bnd (lft (indexAddrA T 51 v35 v27)) fun v36 =>
 bnd (lft (loadA T 90 v36)) fun v37 =>
 bnd (cellsNil 12 [] v37) fun v38 =>
 M.pure (AV.tup [AV.agg [nth (acells v38) 0,nth (acells v38) 1,nth (acells v38) 2,nth (acells v38) 3,nth (acells v38) 4,nth (acells v38) 5,nth (acells v38) 6,nth (acells v38) 7,nth (acells v38) 8,nth (acells v38) 9,nth (acells v38) 10,nth (acells v38) 11],AV.bool true])))
theorem E39 (call:CC) (fx:Fix AV) (a0 a1:AV):evBody (pg.cx call Tryz.f39.ntmps ann39) fx Tryz.f39 (own 39) [a0,a1] = S39 call fx a0 a1:=by kernel_rfl
theorem C39 (a0 a1:AV):callW pg 39 [a0,a1] = isoP (S39 (callW pg) fixW (cl noHs a0) (cl noHs a1)):=(callW_iso hOther rfl rfl rfl _).trans (congrArg isoP (E39 _ _ (cl noHs a0) (cl noHs a1)))
noncomputable def L41_0 (call:CC) (_fx:Fix AV) (v2:List AV→M AV) (v3:List AV):M AV :=
 nxtM (nth v3 3) (bnd (call 77 [nth v3 2,AV.fn (Fn.func 66) [] []]) fun _v23 =>
 bnd (lft (some (nth v3 2))) fzM) (bnd (entryH (nth v3 3)) fun v24 =>
 bnd (lft (extractA v24 0)) fun v25 =>
 bnd (lft (extractA v24 1)) fun v26 =>
 bnd (cellsM 2 v25) fun v27 =>
 bnd (cellsM 12 v26) fun v28 =>
 bnd (lft (loadA T 37 (AV.ip (acells v27)))) fun v29 =>
 bnd (lft (loadA T 37 (nth v3 0))) fun v30 =>
 bnd (call 52 [nth v3 1,v29]) fun v31 =>
 bnd (lookH T 108 v31 v30 true) fun v32 =>
 bnd (lft (extractA v32 0)) fun v33 =>
 bnd (lft (extractA v32 1)) fun v34 =>
 bnd (cellsM 2 v33) fun _v35 =>
 bnd (guardM v34 true 1 (bnd (lft (fieldAddrA T 90 (AV.ip (acells v28)) 1)) fun v36 =>
 bnd (lft (loadA T 4 v36)) fun v37 =>
 M.pure [v37])) fun v38 =>
 bnd (lft (pickA v34 (nth v38 0) (AV.bool false))) fun v39 =>
 condM v39 (bnd (lft (loadA T 37 (AV.ip (acells v27)))) fun v40 =>
 bnd (lft (buildSliceA T 42 1 [(0,v40)])) fun v41 =>
 bnd (appH T 42 false (nth v3 2) v41) fun v42 =>
 v2 [nth v3 0,nth v3 1,v42,nth v3 3]) (v2 [nth v3 0,nth v3 1,nth v3 2,nth v3 3]))
theorem XL41_0 {call:CC}:Cont1 (L41_0 call fixW ) fun _n=>L41_0 call fixW  := by
 intro v2 v2s hself v3
 unfold L41_0
 exact (nxtM_lim (LimM.const _) (lb fun _=>(lb fun _=>(lb fun _=>(lb fun _=>(lb fun _=>(lb fun _=>(lb fun _=>(lb fun _=>(lb fun _=>(lb fun _=>(lb fun _=>(lb fun _=>(lb fun _=>(lb fun _=>(condM_lim (lb fun _=>(lb fun _=>(lb fun _=>(hself _)))) (hself _)))))))))))))))) _)
theorem FL41_0 (call:CC) (vs:List AV):fixW (L41_0 call fixW ) vs=L41_0 call fixW  (fixW (L41_0 call fixW )) vs:=fixW_eq (XL41_0 ) vs
noncomputable def S41 (call:CC) (fx:Fix AV) (a0 a1:AV):M AV :=
 bnd (call 53 [a0]) fun v0 =>
 bnd (rangeH T 110 v0) fun v1 =>
 fx (L41_0 call fx) [AV.ip (acells a1),v0,AV.hn,v1]
theorem E41 (call:CC) (fx:Fix AV) (a0 a1:AV):evBody (pg.cx call Tryz.f41.ntmps ann41) fx Tryz.f41 (own 41) [a0,a1] = S41 call fx a0 a1:=by kernel_rfl
theorem C41 (a0 a1:AV):callW pg 41 [a0,a1] = isoP (S41 (callW pg) fixW (cl noHs a0) (cl noHs a1)):=(callW_iso hOther rfl rfl rfl _).trans (congrArg isoP (E41 _ _ (cl noHs a0) (cl noHs a1)))
noncomputable def L43_0 (call:CC) (_fx:Fix AV) (v24:List AV→M AV) (v25:List AV):M AV :=
 bnd (lft (binA T .lss 3 (nth v25 5) (nth v25 4))) fun v26 =>
 condM v26 (bnd (lft (indexAddrA T 50 (nth v25 3) (nth v25 5))) fun v27 =>
 bnd (lft (loadA T 105 v27)) fun v28 =>
 bnd (cellsM 3 v28) fun v29 =>
 bnd (lft (fieldAddrA T 105 (AV.ip (acells v29)) 0)) fun v30 =>
 bnd (lft (loadA T 9 v30)) fun v31 =>
 bnd (lft (buildSliceA T 28 1 [(0,v31)])) fun v32 =>
 bnd (lft (appA T 28 (nth v25 2) v32)) fun v33 =>
 bnd (lft (binA T .add 3 (nth v25 5) (AV.int .i64 1))) fun v34 =>
 v24 [nth v25 0,nth v25 1,v33,nth v25 3,nth v25 4,v34]) (bnd (lft (fieldAddrA T 33 (nth v25 0) 4)) fun v35 =>
 bnd (lft (loadA T 31 v35)) fun v36 =>
 bnd (lft (fieldAddrA T 63 (nth v25 1) 2)) fun v37 =>
 bnd (lft (loadA T 61 v37)) fun v38 =>
 bnd (call 51 [v36,nth v25 2,v38]) fun v39 =>
 bnd (lft (extractA v39 0)) fun v40 =>
 bnd (lft (extractA v39 1)) fun v41 =>
 bnd (cellsM 4 v40) fun v42 =>
 bnd (lft (binA T .neq 69 v41 (AV.int .i64 0))) fun v43 =>
 bnd (guardM v43 false 1 (bnd (lft (fieldAddrA T 71 (AV.ip (acells v42)) 0)) fun v44 =>
 bnd (lft (loadA T 3 v44)) fun v45 =>
 bnd (lft (binA T .neq 3 v45 (AV.int .i64 1))) fun v46 =>
 M.pure [v46])) fun v47 =>
 bnd (lft (pickA v43 (AV.bool true) (nth v47 0))) fun v48 =>
 condM v48 (M.pure (AV.tup [AV.bool false,AV.bool true])) (bnd (lft (fieldAddrA T 71 (AV.ip (acells v42)) 1)) fun v49 =>
 bnd (lft (loadA T 3 v49)) fun v50 =>
 bnd (lft (binA T .eql 3 v50 (AV.int .i64 1))) fun v51 =>
 M.pure (AV.tup [v51,AV.bool false])))
theorem XL43_0 {call:CC}:Cont1 (L43_0 call fixW ) fun _n=>L43_0 call fixW  := by
 intro v24 v24s hself v25
 unfold L43_0
 exact (lb fun _=>(condM_lim (lb fun _=>(lb fun _=>(lb fun _=>(lb fun _=>(lb fun _=>(lb fun _=>(lb fun _=>(lb fun _=>(hself _))))))))) (LimM.const _)))
theorem FL43_0 (call:CC) (vs:List AV):fixW (L43_0 call fixW ) vs=L43_0 call fixW  (fixW (L43_0 call fixW )) vs:=fixW_eq (XL43_0 ) vs
noncomputable def S43 (call:CC) (fx:Fix AV) (a0 a1 a2:AV):M AV :=
 bnd (lft (fieldAddrA T 63 (AV.ip (acells a2)) 0)) fun v0 =>
 bnd (lft (loadA T 9 v0)) fun v1 =>
 bnd (lft (fieldAddrA T 33 (AV.ip (acells a1)) 1)) fun v2 =>
 bnd (lft (loadA T 9 v2)) fun v3 =>
 bnd (lft (binA T .neq 9 v1 v3)) fun v4 =>
 bnd (guardM v4 false 1 (bnd (lft (fieldAddrA T 63 (AV.ip (acells a2)) 1)) fun v5 =>
 bnd (lft (loadA T 9 v5)) fun v6 =>
 bnd (lft (fieldAddrA T 33 (AV.ip (acells a1)) 3)) fun v7 =>
 bnd (lft (loadA T 9 v7)) fun v8 =>
 bnd (lft (binA T .neq 9 v6 v8)) fun v9 =>
 M.pure [v9])) fun v10 =>
 bnd (lft (pickA v4 (AV.bool true) (nth v10 0))) fun v11 =>
 bnd (guardM v11 false 1 (bnd (lft (fieldAddrA T 63 (AV.ip (acells a2)) 2)) fun v12 =>
 bnd (lft (loadA T 61 v12)) fun v13 =>
 bnd (lft (lenA T 61 v13)) fun v14 =>
 bnd (lft (fieldAddrA T 90 (AV.ip (acells a0)) 2)) fun v15 =>
 bnd (lft (loadA T 50 v15)) fun v16 =>
 bnd (lft (lenA T 50 v16)) fun v17 =>
 bnd (lft (binA T .neq 3 v14 v17)) fun v18 =>
 M.pure [v18])) fun v19 =>
 bnd (lft (pickA v11 (AV.bool true) (nth v19 0))) fun v20 =>
 condM v20 (M.pure (AV.tup [AV.bool false,AV.bool false])) (bnd (lft (fieldAddrA T 90 (AV.ip (acells a0)) 2)) fun v21 =>
 bnd (lft (loadA T 50 v21)) fun v22 =>
 bnd (lft (lenA T 50 v22)) fun v23 =>
 fx (L43_0 call fx) [AV.ip (acells a1),AV.ip (acells a2),AV.sl [],v22,v23,AV.int .i64 0])
theorem E43 (call:CC) (fx:Fix AV) (a0 a1 a2:AV):evBody (pg.cx call Tryz.f43.ntmps ann43) fx Tryz.f43 (own 43) [a0,a1,a2] = S43 call fx a0 a1 a2:=by kernel_rfl
theorem C43 (a0 a1 a2:AV):callW pg 43 [a0,a1,a2] = isoP (S43 (callW pg) fixW (cl noHs a0) (cl noHs a1) (cl noHs a2)):=(callW_iso hOther rfl rfl rfl _).trans (congrArg isoP (E43 _ _ (cl noHs a0) (cl noHs a1) (cl noHs a2)))
noncomputable def S45 (call:CC) (_fx:Fix AV) (a0 a1:AV):M AV :=
 bnd (lft (loadA T 37 (AV.ip (acells a1)))) fun v0 =>
 bnd (call 82 [a0,v0]) fun v1 =>
 bnd (lft (binA T .geq 3 v1 (AV.int .i64 0))) fun v2 =>
 M.pure v2
theorem E45 (call:CC) (fx:Fix AV) (a0 a1:AV):evBody (pg.cx call Tryz.f45.ntmps ann45) fx Tryz.f45 (own 45) [a0,a1] = S45 call fx a0 a1:=by kernel_rfl
theorem C45 (a0 a1:AV):callW pg 45 [a0,a1] = isoP (S45 (callW pg) fixW (cl noHs a0) (cl noHs a1)):=(callW_iso hOther rfl rfl rfl _).trans (congrArg isoP (E45 _ _ (cl noHs a0) (cl noHs a1)))
noncomputable def S46 (call:CC) (_fx:Fix AV) (a0 a1:AV):M AV :=
 bnd (call 83 [a0,a1]) fun v0 =>
 bnd (lft (binA T .geq 3 v0 (AV.int .i64 0))) fun v1 =>
 M.pure v1
theorem E46 (call:CC) (fx:Fix AV) (a0 a1:AV):evBody (pg.cx call Tryz.f46.ntmps ann46) fx Tryz.f46 (own 46) [a0,a1] = S46 call fx a0 a1:=by kernel_rfl
theorem C46 (a0 a1:AV):callW pg 46 [a0,a1] = isoP (S46 (callW pg) fixW (cl noHs a0) (cl noHs a1)):=(callW_iso hOther rfl rfl rfl _).trans (congrArg isoP (E46 _ _ (cl noHs a0) (cl noHs a1)))
noncomputable def S47 (call:CC) (_fx:Fix AV) (a0 a1:AV):M AV :=
 bnd (lft (loadA T 99 (AV.ip (acells a0)))) fun v0 =>
 bnd (lft (loadA T 58 a1)) fun v1 =>
 bnd (call 48 [v0,v1]) fun v2 =>
 M.pure v2
theorem E47 (call:CC) (fx:Fix AV) (a0 a1:AV):evBody (pg.cx call Tryz.f47.ntmps ann47) fx Tryz.f47 (own 47) [a0,a1] = S47 call fx a0 a1:=by kernel_rfl
theorem C47 (a0 a1:AV):callW pg 47 [a0,a1] = isoP (S47 (callW pg) fixW (cl noHs a0) (cl noHs a1)):=(callW_iso hOther rfl rfl rfl _).trans (congrArg isoP (E47 _ _ (cl noHs a0) (cl noHs a1)))
noncomputable def S48 (call:CC) (_fx:Fix AV) (a0 a1:AV):M AV :=
 bnd (lft (fieldAddrA T 99 (AV.ip (acells a0)) 0)) fun v0 =>
 bnd (lft (loadA T 58 v0)) fun v1 =>
 bnd (lft (loadA T 58 (AV.ip (acells a1)))) fun v2 =>
 bnd (call 84 [v1,v2]) fun v3 =>
 bnd (lft (binA T .leq 3 v3 (AV.int .i64 0))) fun v4 =>
 bnd (guardM v4 true 1 (bnd (lft (loadA T 58 (AV.ip (acells a1)))) fun v5 =>
 bnd (lft (fieldAddrA T 99 (AV.ip (acells a0)) 1)) fun v6 =>
 bnd (lft (loadA T 58 v6)) fun v7 =>
 bnd (call 84 [v5,v7]) fun v8 =>
 bnd (lft (binA T .lss 3 v8 (AV.int .i64 0))) fun v9 =>
 M.pure [v9])) fun v10 =>
 bnd (lft (pickA v4 (nth v10 0) (AV.bool false))) fun v11 =>
 M.pure v11
theorem E48 (call:CC) (fx:Fix AV) (a0 a1:AV):evBody (pg.cx call Tryz.f48.ntmps ann48) fx Tryz.f48 (own 48) [a0,a1] = S48 call fx a0 a1:=by kernel_rfl
theorem C48 (a0 a1:AV):callW pg 48 [a0,a1] = isoP (S48 (callW pg) fixW (cl noHs a0) (cl noHs a1)):=(callW_iso hOther rfl rfl rfl _).trans (congrArg isoP (E48 _ _ (cl noHs a0) (cl noHs a1)))
noncomputable def S51 (call:CC) (_fx:Fix AV) (a0 a1 a2:AV):M AV :=
 bnd (lft (loadA T 28 (AV.ip (acells a1)))) fun v0 =>
 bnd (lft (lenA T 28 v0)) fun v1 =>
 bnd (lft (loadA T 61 (AV.ip (acells a2)))) fun v2 =>
 bnd (lft (lenA T 61 v2)) fun v3 =>
 bnd (lft (binA T .neq 3 v1 v3)) fun v4 =>
 bnd (guardM v4 false 1 (bnd (lft (loadA T 61 (AV.ip (acells a2)))) fun v5 =>
 bnd (call 85 [v5,AV.fn (Fn.func 86) [] []]) fun v6 =>
 M.pure [v6])) fun v7 =>
 bnd (lft (pickA v4 (AV.bool true) (nth v7 0))) fun v8 =>
 condM v8 (bnd (lft (buildA T false 71 [])) fun v9 =>
 bnd (cellsNil 4 [] v9) fun v10 =>
 M.pure (AV.tup [AV.agg [nth (acells v10) 0,nth (acells v10) 1,nth (acells v10) 2,nth (acells v10) 3],AV.int .i64 1])) (bnd (lft (buildA T true 141 [(2,AV.int .i64 100000)])) fun v11 =>
 bnd (newH (acells v11)) fun v12 =>
 bnd (cellsM 1 v12) fun v13 =>
 bnd (call 88 [AV.fn (Fn.func 89) [] [AV.ip (acells v13),AV.ip (acells a1),AV.ip (acells a2),AV.ip (acells a0)]]) fun v14 =>
 bnd (lft (extractA v14 0)) fun v15 =>
 bnd (lft (extractA v14 1)) fun v16 =>
 bnd (cellsNil 4 [] v15) fun v17 =>
 M.pure (AV.tup [AV.agg [nth (acells v17) 0,nth (acells v17) 1,nth (acells v17) 2,nth (acells v17) 3],v16]))
theorem E51 (call:CC) (fx:Fix AV) (a0 a1 a2:AV):evBody (pg.cx call Tryz.f51.ntmps ann51) fx Tryz.f51 (own 51) [a0,a1,a2] = S51 call fx a0 a1 a2:=by kernel_rfl
theorem C51 (a0 a1 a2:AV):callW pg 51 [a0,a1,a2] = isoP (S51 (callW pg) fixW (cl noHs a0) (cl noHs a1) (cl noHs a2)):=(callW_iso hOther rfl rfl rfl _).trans (congrArg isoP (E51 _ _ (cl noHs a0) (cl noHs a1) (cl noHs a2)))
noncomputable def L52_0 (_call:CC) (_fx:Fix AV) (v12:List AV→M AV) (v20:List AV→M AV) (v21:List AV):M AV :=
 bnd (lft (binA T .lss 3 (nth v21 5) (nth v21 4))) fun v22 =>
 condM v22 (bnd (lft (indexAddrA T 42 (nth v21 3) (nth v21 5))) fun v23 =>
 bnd (lft (loadA T 37 v23)) fun v24 =>
 bnd (cellsM 2 v24) fun v25 =>
 bnd (lft (loadA T 37 (AV.ip (acells v25)))) fun v26 =>
 bnd (lookH T 108 (nth v21 1) v26 true) fun v27 =>
 bnd (lft (extractA v27 0)) fun v28 =>
 bnd (lft (extractA v27 1)) fun v29 =>
 bnd (cellsM 2 v28) fun _v30 =>
 bnd (lft (unA UnOp.not v29)) fun v31 =>
 condM v31 (bnd (lft (loadA T 37 (AV.ip (acells v25)))) fun v32 =>
 bnd (lft (indexAddrA T 42 (nth v21 2) (AV.int .i64 0))) fun v33 =>
 bnd (lft (loadA T 37 v33)) fun v34 =>
 bnd (putH T 108 (nth v21 1) v32 v34) fun _v35 =>
 bnd (lft (loadA T 37 (AV.ip (acells v25)))) fun v36 =>
 bnd (lft (buildSliceA T 42 1 [(0,v36)])) fun v37 =>
 bnd (lft (appA T 42 (nth v21 2) v37)) fun v38 =>
 bnd (lft (binA T .add 3 (nth v21 5) (AV.int .i64 1))) fun v39 =>
 v20 [nth v21 0,nth v21 1,v38,nth v21 3,nth v21 4,v39]) (bnd (lft (binA T .add 3 (nth v21 5) (AV.int .i64 1))) fun v40 =>
 v20 [nth v21 0,nth v21 1,nth v21 2,nth v21 3,nth v21 4,v40])) (bnd (lft (cutA T 42 (nth v21 2) (some (AV.int .i64 1)))) fun v41 =>
 v12 [nth v21 0,nth v21 1,v41])
noncomputable def L52_1 (call:CC) (fx:Fix AV) (v12:List AV→M AV) (v13:List AV):M AV :=
 bnd (lft (lenA T 42 (nth v13 2))) fun v14 =>
 bnd (lft (binA T .gtr 3 v14 (AV.int .i64 0))) fun v15 =>
 condM v15 (bnd (lft (indexAddrA T 42 (nth v13 2) (AV.int .i64 0))) fun v16 =>
 bnd (lft (loadA T 37 v16)) fun v17 =>
 bnd (call 91 [nth v13 0,v17]) fun v18 =>
 bnd (lft (lenA T 42 v18)) fun v19 =>
 fx (L52_0 call fx v12) [nth v13 0,nth v13 1,nth v13 2,v18,v19,AV.int .i64 0]) (M.pure (nth v13 1))
theorem XL52_0 {call:CC} {v12:List AV→M AV} {v12s:Nat→List AV→M AV} (hv12:LimF v12 fun n=>v12s n):Cont1 (L52_0 call fixW v12) fun n=>L52_0 call fixW (v12s n):=by
 intro v20 v20s hself v21
 unfold L52_0
 exact (lb fun _=>(condM_lim (lb fun _=>(lb fun _=>(lb fun _=>(lb fun _=>(lb fun _=>(lb fun _=>(lb fun _=>(lb fun _=>(lb fun _=>(condM_lim (lb fun _=>(lb fun _=>(lb fun _=>(lb fun _=>(lb fun _=>(lb fun _=>(lb fun _=>(lb fun _=>(hself _))))))))) (lb fun _=>(hself _)))))))))))) (lb fun _=>(hv12 _))))
theorem YL52_0 {call:CC} {v12:List AV→M AV} {v12s:Nat→List AV→M AV} (hv12:LimF v12 fun n=>v12s n):LimF (fixW (L52_0 call fixW v12)) fun n=>fixW (L52_0 call fixW (v12s n)):=fixW_limF (XL52_0 hv12) (XL52_0 (LimF.const _)) fun _=>XL52_0 (LimF.const _)
theorem FL52_0 (call:CC) (v12:List AV→M AV) (vs:List AV):fixW (L52_0 call fixW v12) vs=L52_0 call fixW v12 (fixW (L52_0 call fixW v12)) vs:=fixW_eq (XL52_0 (LimF.const _)) vs
theorem XL52_1 {call:CC}:Cont1 (L52_1 call fixW ) fun _n=>L52_1 call fixW  := by
 intro v12 v12s hself v13
 unfold L52_1
 exact (lb fun _=>(lb fun _=>(condM_lim (lb fun _=>(lb fun _=>(lb fun _=>(lb fun _=>((YL52_0 hself) _))))) (LimM.const _))))
theorem FL52_1 (call:CC) (vs:List AV):fixW (L52_1 call fixW ) vs=L52_1 call fixW  (fixW (L52_1 call fixW )) vs:=fixW_eq (XL52_1 ) vs
noncomputable def S52 (call:CC) (fx:Fix AV) (a0 a1:AV):M AV :=
 bnd (lft (loadA T 37 (AV.ip (acells a1)))) fun v0 =>
 bnd (lookH T 110 a0 v0 true) fun v1 =>
 bnd (lft (extractA v1 0)) fun v2 =>
 bnd (lft (extractA v1 1)) fun v3 =>
 bnd (cellsM 12 v2) fun _v4 =>
 bnd (lft (unA UnOp.not v3)) fun v5 =>
 condM v5 (M.pure AV.nilm) (bnd newMapH fun v6 =>
 bnd (lft (loadA T 37 (AV.ip (acells a1)))) fun v7 =>
 bnd (lft (loadA T 37 (AV.ip (acells a1)))) fun v8 =>
 bnd (putH T 108 v6 v7 v8) fun _v9 =>
 bnd (lft (loadA T 37 (AV.ip (acells a1)))) fun v10 =>
 bnd (lft (buildSliceA T 42 1 [(0,v10)])) fun v11 =>
 fx (L52_1 call fx) [a0,v6,v11])
theorem E52 (call:CC) (fx:Fix AV) (a0 a1:AV):evBody (pg.cx call Tryz.f52.ntmps ann52) fx Tryz.f52 (own 52) [a0,a1] = S52 call fx a0 a1:=by kernel_rfl
theorem C52 (a0 a1:AV):callW pg 52 [a0,a1] = S52 (callW pg) fixW a0 a1:=(callW_heap hOther rfl rfl rfl _).trans (E52 _ _ a0 a1)
noncomputable def S66 (call:CC) (_fx:Fix AV) (a0 a1:AV):M AV :=
 bnd (lft (fieldAddrA T 37 (AV.ip (acells a0)) 0)) fun v0 =>
 bnd (lft (loadA T 9 v0)) fun v1 =>
 bnd (lft (fieldAddrA T 37 (AV.ip (acells a1)) 0)) fun v2 =>
 bnd (lft (loadA T 9 v2)) fun v3 =>
 bnd (noPan (call 106 [v1,v3])) fun v4 =>
 bnd (lft (fieldAddrA T 37 (AV.ip (acells a0)) 1)) fun v5 =>
 bnd (lft (loadA T 9 v5)) fun v6 =>
 bnd (lft (fieldAddrA T 37 (AV.ip (acells a1)) 1)) fun v7 =>
 bnd (lft (loadA T 9 v7)) fun v8 =>
 bnd (noPan (call 106 [v6,v8])) fun v9 =>
 bnd (lft (buildSliceA T 45 2 [(0,v4),(1,v9)])) fun v10 =>
 bnd (noPan (call 105 [v10])) fun v11 =>
 M.pure v11
theorem E66 (call:CC) (fx:Fix AV) (a0 a1:AV):evBody (pg.cx call Tryz.f66.ntmps ann66) fx Tryz.f66 (own 66) [a0,a1] = S66 call fx a0 a1:=by kernel_rfl
theorem C66 (a0 a1:AV):callW pg 66 [a0,a1] = isoP (S66 (callW pg) fixW (cl noHs a0) (cl noHs a1)):=(callW_iso hOther rfl rfl rfl _).trans (congrArg isoP (E66 _ _ (cl noHs a0) (cl noHs a1)))
noncomputable def L67_0 (call:CC) (_fx:Fix AV) (v5:List AV→M AV) (v6:List AV):M AV :=
 bnd (lft (binA T .lss 3 (nth v6 3) (nth v6 2))) fun v7 =>
 condM v7 (bnd (lft (indexAddrA T 29 (nth v6 1) (nth v6 3))) fun v8 =>
 bnd (lft (loadA T 31 v8)) fun v9 =>
 bnd (cellsM 6 v9) fun v10 =>
 bnd (lft (loadA T 31 (AV.ip (acells v10)))) fun v11 =>
 bnd (call 67 [v11,nth v6 0]) fun _v12 =>
 bnd (lft (binA T .add 3 (nth v6 3) (AV.int .i64 1))) fun v13 =>
 v5 [nth v6 0,nth v6 1,nth v6 2,v13]) (M.pure (AV.tup []))
theorem XL67_0 {call:CC}:Cont1 (L67_0 call fixW ) fun _n=>L67_0 call fixW  := by
 intro v5 v5s hself v6
 unfold L67_0
 exact (lb fun _=>(condM_lim (lb fun _=>(lb fun _=>(lb fun _=>(lb fun _=>(lb fun _=>(lb fun _=>(hself _))))))) (LimM.const _)))
theorem FL67_0 (call:CC) (vs:List AV):fixW (L67_0 call fixW ) vs=L67_0 call fixW  (fixW (L67_0 call fixW )) vs:=fixW_eq (XL67_0 ) vs
noncomputable def S67 (call:CC) (fx:Fix AV) (a0 a1:AV):M AV :=
 bnd (lft (loadA T 31 (AV.ip (acells a0)))) fun v0 =>
 bnd (callV call a1 [v0]) fun _v1 =>
 bnd (lft (fieldAddrA T 31 (AV.ip (acells a0)) 5)) fun v2 =>
 bnd (lft (loadA T 29 v2)) fun v3 =>
 bnd (lft (lenA T 29 v3)) fun v4 =>
 fx (L67_0 call fx) [a1,v3,v4,AV.int .i64 0]
theorem E67 (call:CC) (fx:Fix AV) (a0 a1:AV):evBody (pg.cx call Tryz.f67.ntmps ann67) fx Tryz.f67 (own 67) [a0,a1] = S67 call fx a0 a1:=by kernel_rfl
theorem C67 (a0 a1:AV):callW pg 67 [a0,a1] = S67 (callW pg) fixW a0 a1:=(callW_heap hOther rfl rfl rfl _).trans (E67 _ _ a0 a1)
noncomputable def S69 (_call:CC) (_fx:Fix AV) (a0:AV):M AV :=
 bnd (lft (buildA T false 71 [(0,AV.int .i64 0),(1,a0)])) fun v0 =>
 bnd (cellsNil 4 [] v0) fun v1 =>
 M.pure (AV.agg [nth (acells v1) 0,nth (acells v1) 1,nth (acells v1) 2,nth (acells v1) 3])
theorem E69 (call:CC) (fx:Fix AV) (a0:AV):evBody (pg.cx call Tryz.f69.ntmps ann69) fx Tryz.f69 (own 69) [a0] = S69 call fx a0:=by kernel_rfl
theorem C69 (a0:AV):callW pg 69 [a0] = isoP (S69 (callW pg) fixW (cl noHs a0)):=(callW_iso hOther rfl rfl rfl _).trans (congrArg isoP (E69 _ _ (cl noHs a0)))
noncomputable def L70_0 (call:CC) (_fx:Fix AV) (v0:List AV→M AV) (v1:List AV):M AV :=
 bnd (lft (lenA T 50 (nth v1 0))) fun v2 =>
 bnd (lft (binA T .lss 3 (nth v1 1) v2)) fun v3 =>
 bnd (guardM v3 true 1 (bnd (lft (binA T .lss 3 (nth v1 1) (AV.int .i64 9))) fun v4 =>
 M.pure [v4])) fun v5 =>
 bnd (lft (pickA v3 (nth v5 0) (AV.bool false))) fun v6 =>
 condM v6 (bnd (lft (indexAddrA T 50 (nth v1 0) (nth v1 1))) fun v7 =>
 bnd (lft (fieldAddrA T 105 v7 1)) fun v8 =>
 bnd (lft (loadA T 88 v8)) fun v9 =>
 bnd (call 71 [v9,AV.int .i64 20,AV.int .i64 8]) fun v10 =>
 bnd (lft (binA T .gtr 3 v10 (AV.int .i64 20))) fun v11 =>
 condM v11 (M.pure (AV.bool false)) (bnd (lft (binA T .add 3 (nth v1 1) (AV.int .i64 1))) fun v12 =>
 v0 [nth v1 0,v12])) (bnd (lft (lenA T 50 (nth v1 0))) fun v13 =>
 bnd (lft (binA T .leq 3 v13 (AV.int .i64 8))) fun v14 =>
 M.pure v14)
theorem XL70_0 {call:CC}:Cont1 (L70_0 call fixW ) fun _n=>L70_0 call fixW  := by
 intro v0 v0s hself v1
 unfold L70_0
 exact (lb fun _=>(lb fun _=>(lb fun _=>(lb fun _=>(condM_lim (lb fun _=>(lb fun _=>(lb fun _=>(lb fun _=>(lb fun _=>(condM_lim (LimM.const _) (lb fun _=>(hself _)))))))) (LimM.const _))))))
theorem FL70_0 (call:CC) (vs:List AV):fixW (L70_0 call fixW ) vs=L70_0 call fixW  (fixW (L70_0 call fixW )) vs:=fixW_eq (XL70_0 ) vs
noncomputable def S70 (call:CC) (fx:Fix AV) (a0:AV):M AV :=
 fx (L70_0 call fx) [a0,AV.int .i64 0]
theorem E70 (call:CC) (fx:Fix AV) (a0:AV):evBody (pg.cx call Tryz.f70.ntmps ann70) fx Tryz.f70 (own 70) [a0] = S70 call fx a0:=by kernel_rfl
theorem C70 (a0:AV):callW pg 70 [a0] = isoP (S70 (callW pg) fixW (cl noHs a0)):=(callW_iso hOther rfl rfl rfl _).trans (congrArg isoP (E70 _ _ (cl noHs a0)))
noncomputable def L71_0 (call:CC) (_fx:Fix AV) (v2:List AV→M AV) (v3:List AV):M AV :=
 bnd (lft (fieldAddrA T 88 (nth v3 2) 1)) fun v4 =>
 bnd (lft (loadA T 50 v4)) fun v5 =>
 bnd (lft (lenA T 50 v5)) fun v6 =>
 bnd (lft (binA T .lss 3 (nth v3 4) v6)) fun v7 =>
 bnd (guardM v7 true 1 (bnd (lft (binA T .leq 3 (nth v3 3) (nth v3 0))) fun v8 =>
 M.pure [v8])) fun v9 =>
 bnd (lft (pickA v7 (nth v9 0) (AV.bool false))) fun v10 =>
 condM v10 (bnd (lft (fieldAddrA T 88 (nth v3 2) 1)) fun v11 =>
 bnd (lft (loadA T 50 v11)) fun v12 =>
 bnd (lft (indexAddrA T 50 v12 (nth v3 4))) fun v13 =>
 bnd (lft (fieldAddrA T 105 v13 1)) fun v14 =>
 bnd (lft (loadA T 88 v14)) fun v15 =>
 bnd (lft (binA T .sub 3 (nth v3 0) (nth v3 3))) fun v16 =>
 bnd (lft (binA T .sub 3 (nth v3 1) (AV.int .i64 1))) fun v17 =>
 bnd (call 71 [v15,v16,v17]) fun v18 =>
 bnd (lft (binA T .add 3 (nth v3 3) v18)) fun v19 =>
 bnd (lft (binA T .add 3 (nth v3 4) (AV.int .i64 1))) fun v20 =>
 v2 [nth v3 0,nth v3 1,nth v3 2,v19,v20]) (M.pure (nth v3 3))
theorem XL71_0 {call:CC}:Cont1 (L71_0 call fixW ) fun _n=>L71_0 call fixW  := by
 intro v2 v2s hself v3
 unfold L71_0
 exact (lb fun _=>(lb fun _=>(lb fun _=>(lb fun _=>(lb fun _=>(lb fun _=>(condM_lim (lb fun _=>(lb fun _=>(lb fun _=>(lb fun _=>(lb fun _=>(lb fun _=>(lb fun _=>(lb fun _=>(lb fun _=>(lb fun _=>(hself _))))))))))) (LimM.const _))))))))
theorem FL71_0 (call:CC) (vs:List AV):fixW (L71_0 call fixW ) vs=L71_0 call fixW  (fixW (L71_0 call fixW )) vs:=fixW_eq (XL71_0 ) vs
noncomputable def S71 (call:CC) (fx:Fix AV) (a0 a1 a2:AV):M AV :=
 bnd (lft (binA T .lss 3 a2 (AV.int .i64 1))) fun v0 =>
 condM v0 (bnd (lft (binA T .add 3 a1 (AV.int .i64 1))) fun v1 =>
 M.pure v1) (fx (L71_0 call fx) [a1,a2,AV.ip (acells a0),AV.int .i64 1,AV.int .i64 0])
theorem E71 (call:CC) (fx:Fix AV) (a0 a1 a2:AV):evBody (pg.cx call Tryz.f71.ntmps ann71) fx Tryz.f71 (own 71) [a0,a1,a2] = S71 call fx a0 a1 a2:=by kernel_rfl
theorem C71 (a0 a1 a2:AV):callW pg 71 [a0,a1,a2] = isoP (S71 (callW pg) fixW (cl noHs a0) (cl noHs a1) (cl noHs a2)):=(callW_iso hOther rfl rfl rfl _).trans (congrArg isoP (E71 _ _ (cl noHs a0) (cl noHs a1) (cl noHs a2)))
noncomputable def L72_0 (call:CC) (_fx:Fix AV) (v1:List AV→M AV) (v2:List AV):M AV :=
 bnd (lft (binA T .lss 3 (nth v2 3) (nth v2 2))) fun v3 =>
 condM v3 (bnd (lft (indexAddrA T 22 (nth v2 0) (nth v2 3))) fun v4 =>
 bnd (lft (loadA T 55 v4)) fun v5 =>
 bnd (callV call (nth v2 1) [v5]) fun v6 =>
 condM v6 (M.pure (nth v2 3)) (bnd (lft (binA T .add 3 (nth v2 3) (AV.int .i64 1))) fun v7 =>
 v1 [nth v2 0,nth v2 1,nth v2 2,v7])) (M.pure (AV.int .i64 (-1)))
theorem XL72_0 {call:CC}:Cont1 (L72_0 call fixW ) fun _n=>L72_0 call fixW  := by
 intro v1 v1s hself v2
 unfold L72_0
 exact (lb fun _=>(condM_lim (lb fun _=>(lb fun _=>(lb fun _=>(condM_lim (LimM.const _) (lb fun _=>(hself _)))))) (LimM.const _)))
theorem FL72_0 (call:CC) (vs:List AV):fixW (L72_0 call fixW ) vs=L72_0 call fixW  (fixW (L72_0 call fixW )) vs:=fixW_eq (XL72_0 ) vs
noncomputable def S72 (call:CC) (fx:Fix AV) (a0 a1:AV):M AV :=
 bnd (lft (lenA T 22 a0)) fun v0 =>
 fx (L72_0 call fx) [a0,a1,v0,AV.int .i64 0]
theorem E72 (call:CC) (fx:Fix AV) (a0 a1:AV):evBody (pg.cx call Tryz.f72.ntmps ann72) fx Tryz.f72 (own 72) [a0,a1] = S72 call fx a0 a1:=by kernel_rfl
theorem C72 (a0 a1:AV):callW pg 72 [a0,a1] = isoP (S72 (callW pg) fixW (cl noHs a0) (cl noHs a1)):=(callW_iso hOther rfl rfl rfl _).trans (congrArg isoP (E72 _ _ (cl noHs a0) (cl noHs a1)))
noncomputable def S73 (_call:CC) (_fx:Fix AV) (a0 a1:AV):M AV :=
 bnd (lft (fieldAddrA T 55 (AV.ip (acells a0)) 0)) fun v0 =>
 bnd (lft (loadA T 9 v0)) fun v1 =>
 bnd (lft (fieldAddrA T 33 a1 1)) fun v2 =>
 bnd (lft (loadA T 9 v2)) fun v3 =>
 bnd (lft (binA T .eql 9 v1 v3)) fun v4 =>
 M.pure v4
theorem E73 (call:CC) (fx:Fix AV) (a0 a1:AV):evBody (pg.cx call Tryz.f73.ntmps ann73) fx Tryz.f73 (own 73) [a0,a1] = S73 call fx a0 a1:=by kernel_rfl
theorem C73 (a0 a1:AV):callW pg 73 [a0,a1] = isoP (S73 (callW pg) fixW (cl noHs a0) (cl noHs a1)):=(callW_iso hOther rfl rfl rfl _).trans (congrArg isoP (E73 _ _ (cl noHs a0) (cl noHs a1)))
noncomputable def L74_0 (call:CC) (_fx:Fix AV) (v1:List AV→M AV) (v2:List AV):M AV :=
 bnd (lft (binA T .lss 3 (nth v2 3) (nth v2 2))) fun v3 =>
 condM v3 (bnd (lft (indexAddrA T 51 (nth v2 0) (nth v2 3))) fun v4 =>
 bnd (lft (loadA T 90 v4)) fun v5 =>
 bnd (callV call (nth v2 1) [v5]) fun v6 =>
 condM v6 (M.pure (nth v2 3)) (bnd (lft (binA T .add 3 (nth v2 3) (AV.int .i64 1))) fun v7 =>
 v1 [nth v2 0,nth v2 1,nth v2 2,v7])) (M.pure (AV.int .i64 (-1)))
theorem XL74_0 {call:CC}:Cont1 (L74_0 call fixW ) fun _n=>L74_0 call fixW  := by
 intro v1 v1s hself v2
 unfold L74_0
 exact (lb fun _=>(condM_lim (lb fun _=>(lb fun _=>(lb fun _=>(condM_lim (LimM.const _) (lb fun _=>(hself _)))))) (LimM.const _)))
theorem FL74_0 (call:CC) (vs:List AV):fixW (L74_0 call fixW ) vs=L74_0 call fixW  (fixW (L74_0 call fixW )) vs:=fixW_eq (XL74_0 ) vs
noncomputable def S74 (call:CC) (fx:Fix AV) (a0 a1:AV):M AV :=
 bnd (lft (lenA T 51 a0)) fun v0 =>
 fx (L74_0 call fx) [a0,a1,v0,AV.int .i64 0]
theorem E74 (call:CC) (fx:Fix AV) (a0 a1:AV):evBody (pg.cx call Tryz.f74.ntmps ann74) fx Tryz.f74 (own 74) [a0,a1] = S74 call fx a0 a1:=by kernel_rfl
theorem C74 (a0 a1:AV):callW pg 74 [a0,a1] = isoP (S74 (callW pg) fixW (cl noHs a0) (cl noHs a1)):=(callW_iso hOther rfl rfl rfl _).trans (congrArg isoP (E74 _ _ (cl noHs a0) (cl noHs a1)))
noncomputable def S75 (_call:CC) (_fx:Fix AV) (a0 a1:AV):M AV :=
 bnd (lft (fieldAddrA T 90 (AV.ip (acells a0)) 0)) fun v0 =>
 bnd (lft (loadA T 9 v0)) fun v1 =>
 bnd (lft (fieldAddrA T 33 a1 3)) fun v2 =>
 bnd (lft (loadA T 9 v2)) fun v3 =>
 bnd (lft (binA T .eql 9 v1 v3)) fun v4 =>
 M.pure v4
theorem E75 (call:CC) (fx:Fix AV) (a0 a1:AV):evBody (pg.cx call Tryz.f75.ntmps ann75) fx Tryz.f75 (own 75) [a0,a1] = S75 call fx a0 a1:=by kernel_rfl
theorem C75 (a0 a1:AV):callW pg 75 [a0,a1] = isoP (S75 (callW pg) fixW (cl noHs a0) (cl noHs a1)):=(callW_iso hOther rfl rfl rfl _).trans (congrArg isoP (E75 _ _ (cl noHs a0) (cl noHs a1)))
noncomputable def L82_0 (_call:CC) (_fx:Fix AV) (v1:List AV→M AV) (v2:List AV):M AV :=
 bnd (lft (binA T .lss 3 (nth v2 3) (nth v2 2))) fun v3 =>
 condM v3 (bnd (lft (loadA T 37 (nth v2 1))) fun v4 =>
 bnd (lft (indexAddrA T 42 (nth v2 0) (nth v2 3))) fun v5 =>
 bnd (lft (loadA T 37 v5)) fun v6 =>
 bnd (lft (binA T .eql 37 v4 v6)) fun v7 =>
 condM v7 (M.pure (nth v2 3)) (bnd (lft (binA T .add 3 (nth v2 3) (AV.int .i64 1))) fun v8 =>
 v1 [nth v2 0,nth v2 1,nth v2 2,v8])) (M.pure (AV.int .i64 (-1)))
theorem XL82_0 {call:CC}:Cont1 (L82_0 call fixW ) fun _n=>L82_0 call fixW  := by
 intro v1 v1s hself v2
 unfold L82_0
 exact (lb fun _=>(condM_lim (lb fun _=>(lb fun _=>(lb fun _=>(lb fun _=>(condM_lim (LimM.const _) (lb fun _=>(hself _))))))) (LimM.const _)))
theorem FL82_0 (call:CC) (vs:List AV):fixW (L82_0 call fixW ) vs=L82_0 call fixW  (fixW (L82_0 call fixW )) vs:=fixW_eq (XL82_0 ) vs
noncomputable def S82 (call:CC) (fx:Fix AV) (a0 a1:AV):M AV :=
 bnd (lft (lenA T 42 a0)) fun v0 =>
 fx (L82_0 call fx) [a0,AV.ip (acells a1),v0,AV.int .i64 0]
theorem E82 (call:CC) (fx:Fix AV) (a0 a1:AV):evBody (pg.cx call Tryz.f82.ntmps ann82) fx Tryz.f82 (own 82) [a0,a1] = S82 call fx a0 a1:=by kernel_rfl
theorem C82 (a0 a1:AV):callW pg 82 [a0,a1] = isoP (S82 (callW pg) fixW (cl noHs a0) (cl noHs a1)):=(callW_iso hOther rfl rfl rfl _).trans (congrArg isoP (E82 _ _ (cl noHs a0) (cl noHs a1)))
noncomputable def L83_0 (call:CC) (_fx:Fix AV) (v1:List AV→M AV) (v2:List AV):M AV :=
 bnd (lft (binA T .lss 3 (nth v2 3) (nth v2 2))) fun v3 =>
 condM v3 (bnd (lft (indexAddrA T 27 (nth v2 0) (nth v2 3))) fun v4 =>
 bnd (lft (loadA T 99 v4)) fun v5 =>
 bnd (callV call (nth v2 1) [v5]) fun v6 =>
 condM v6 (M.pure (nth v2 3)) (bnd (lft (binA T .add 3 (nth v2 3) (AV.int .i64 1))) fun v7 =>
 v1 [nth v2 0,nth v2 1,nth v2 2,v7])) (M.pure (AV.int .i64 (-1)))
theorem XL83_0 {call:CC}:Cont1 (L83_0 call fixW ) fun _n=>L83_0 call fixW  := by
 intro v1 v1s hself v2
 unfold L83_0
 exact (lb fun _=>(condM_lim (lb fun _=>(lb fun _=>(lb fun _=>(condM_lim (LimM.const _) (lb fun _=>(hself _)))))) (LimM.const _)))
theorem FL83_0 (call:CC) (vs:List AV):fixW (L83_0 call fixW ) vs=L83_0 call fixW  (fixW (L83_0 call fixW )) vs:=fixW_eq (XL83_0 ) vs
noncomputable def S83 (call:CC) (fx:Fix AV) (a0 a1:AV):M AV :=
 bnd (lft (lenA T 27 a0)) fun v0 =>
 fx (L83_0 call fx) [a0,a1,v0,AV.int .i64 0]
theorem E83 (call:CC) (fx:Fix AV) (a0 a1:AV):evBody (pg.cx call Tryz.f83.ntmps ann83) fx Tryz.f83 (own 83) [a0,a1] = S83 call fx a0 a1:=by kernel_rfl
theorem C83 (a0 a1:AV):callW pg 83 [a0,a1] = isoP (S83 (callW pg) fixW (cl noHs a0) (cl noHs a1)):=(callW_iso hOther rfl rfl rfl _).trans (congrArg isoP (E83 _ _ (cl noHs a0) (cl noHs a1)))
noncomputable def S84 (call:CC) (_fx:Fix AV) (a0 a1:AV):M AV :=
 bnd (lft (fieldAddrA T 58 (AV.ip (acells a0)) 0)) fun v0 =>
 bnd (lft (loadA T 3 v0)) fun v1 =>
 bnd (lft (fieldAddrA T 58 (AV.ip (acells a1)) 0)) fun v2 =>
 bnd (lft (loadA T 3 v2)) fun v3 =>
 bnd (noPan (call 114 [v1,v3])) fun v4 =>
 bnd (lft (fieldAddrA T 58 (AV.ip (acells a0)) 1)) fun v5 =>
 bnd (lft (loadA T 3 v5)) fun v6 =>
 bnd (lft (fieldAddrA T 58 (AV.ip (acells a1)) 1)) fun v7 =>
 bnd (lft (loadA T 3 v7)) fun v8 =>
 bnd (noPan (call 114 [v6,v8])) fun v9 =>
 bnd (lft (fieldAddrA T 58 (AV.ip (acells a0)) 2)) fun v10 =>
 bnd (lft (loadA T 3 v10)) fun v11 =>
 bnd (lft (fieldAddrA T 58 (AV.ip (acells a1)) 2)) fun v12 =>
 bnd (lft (loadA T 3 v12)) fun v13 =>
 bnd (noPan (call 114 [v11,v13])) fun v14 =>
 bnd (lft (buildSliceA T 45 3 [(0,v4),(1,v9),(2,v14)])) fun v15 =>
 bnd (noPan (call 105 [v15])) fun v16 =>
 M.pure v16
theorem E84 (call:CC) (fx:Fix AV) (a0 a1:AV):evBody (pg.cx call Tryz.f84.ntmps ann84) fx Tryz.f84 (own 84) [a0,a1] = S84 call fx a0 a1:=by kernel_rfl
theorem C84 (a0 a1:AV):callW pg 84 [a0,a1] = isoP (S84 (callW pg) fixW (cl noHs a0) (cl noHs a1)):=(callW_iso hOther rfl rfl rfl _).trans (congrArg isoP (E84 _ _ (cl noHs a0) (cl noHs a1)))
noncomputable def S85 (call:CC) (_fx:Fix AV) (a0 a1:AV):M AV :=
 bnd (call 115 [a0,a1]) fun v0 =>
 bnd (lft (binA T .geq 3 v0 (AV.int .i64 0))) fun v1 =>
 M.pure v1
theorem E85 (call:CC) (fx:Fix AV) (a0 a1:AV):evBody (pg.cx call Tryz.f85.ntmps ann85) fx Tryz.f85 (own 85) [a0,a1] = S85 call fx a0 a1:=by kernel_rfl
theorem C85 (a0 a1:AV):callW pg 85 [a0,a1] = isoP (S85 (callW pg) fixW (cl noHs a0) (cl noHs a1)):=(callW_iso hOther rfl rfl rfl _).trans (congrArg isoP (E85 _ _ (cl noHs a0) (cl noHs a1)))
noncomputable def S86 (call:CC) (_fx:Fix AV) (a0:AV):M AV :=
 bnd (lft (loadA T 71 (AV.ip (acells a0)))) fun v0 =>
 bnd (call 87 [v0]) fun v1 =>
 bnd (lft (unA UnOp.not v1)) fun v2 =>
 M.pure v2
theorem E86 (call:CC) (fx:Fix AV) (a0:AV):evBody (pg.cx call Tryz.f86.ntmps ann86) fx Tryz.f86 (own 86) [a0] = S86 call fx a0:=by kernel_rfl
theorem C86 (a0:AV):callW pg 86 [a0] = isoP (S86 (callW pg) fixW (cl noHs a0)):=(callW_iso hOther rfl rfl rfl _).trans (congrArg isoP (E86 _ _ (cl noHs a0)))
noncomputable def S87 (call:CC) (_fx:Fix AV) (a0:AV):M AV :=
 bnd (lft (loadA T 71 (AV.ip (acells a0)))) fun v0 =>
 bnd (call 116 [v0,AV.int .i64 4]) fun v1 =>
 M.pure v1
theorem E87 (call:CC) (fx:Fix AV) (a0:AV):evBody (pg.cx call Tryz.f87.ntmps ann87) fx Tryz.f87 (own 87) [a0] = S87 call fx a0:=by kernel_rfl
theorem C87 (a0:AV):callW pg 87 [a0] = isoP (S87 (callW pg) fixW (cl noHs a0)):=(callW_iso hOther rfl rfl rfl _).trans (congrArg isoP (E87 _ _ (cl noHs a0)))
noncomputable def S89 (call:CC) (_fx:Fix AV) (a0 a1 a2 a3:AV):M AV :=
 bnd (lft (loadA T 139 a0)) fun v0 =>
 bnd (lft (loadA T 28 a1)) fun v1 =>
 bnd (lft (loadA T 61 a2)) fun v2 =>
 bnd (lft (buildA T false 145 [(0,AV.int .i64 (-1)),(1,v1),(2,v2)])) fun v3 =>
 bnd (lft (loadA T 31 a3)) fun v4 =>
 bnd (call 90 [v0,v3,v4]) fun v5 =>
 bnd (cellsNil 4 [] v5) fun v6 =>
 M.pure (AV.agg [nth (acells v6) 0,nth (acells v6) 1,nth (acells v6) 2,nth (acells v6) 3])
theorem E89 (call:CC) (fx:Fix AV) (a0 a1 a2 a3:AV):evBody (pg.cx call Tryz.f89.ntmps ann89) fx Tryz.f89 (own 89) [a0,a1,a2,a3] = S89 call fx a0 a1 a2 a3:=by kernel_rfl
theorem C89 (a0 a1 a2 a3:AV):callW pg 89 [a0,a1,a2,a3] = S89 (callW pg) fixW a0 a1 a2 a3:=(callW_heap hOther rfl rfl rfl _).trans (E89 _ _ a0 a1 a2 a3)
noncomputable def K90_0 (call:CC) (_fx:Fix AV) (v27:List AV):M AV :=
 bnd (lft (loadA T 145 (nth v27 1))) fun v28 =>
 bnd (lft (loadA T 31 (nth v27 2))) fun v29 =>
 bnd (call 128 [nth v27 0,v28,v29]) fun v30 =>
 bnd (cellsNil 4 [] v30) fun v31 =>
 M.pure (AV.agg [nth (acells v31) 0,nth (acells v31) 1,nth (acells v31) 2,nth (acells v31) 3])
noncomputable def L90_0 (_call:CC) (_fx:Fix AV) (v32:List AV→M AV) (v60:List AV→M AV) (v61:List AV):M AV :=
 bnd (lft (binA T .geq 3 (nth v61 3) (AV.int .i64 0))) fun v62 =>
 condM v62 (bnd (lft (fieldAddrA T 145 (nth v61 1) 1)) fun v63 =>
 bnd (lft (loadA T 28 v63)) fun v64 =>
 bnd (lft (indexAddrA T 28 v64 (nth v61 3))) fun v65 =>
 bnd (lft (loadA T 9 v65)) fun v66 =>
 bnd (lft (fieldAddrA T 31 (nth v61 2) 2)) fun v67 =>
 bnd (lft (loadA T 9 v67)) fun v68 =>
 bnd (lft (binA T .eql 9 v66 v68)) fun v69 =>
 condM v69 (bnd (lft (fieldAddrA T 145 (nth v61 1) 2)) fun v70 =>
 bnd (lft (loadA T 61 v70)) fun v71 =>
 bnd (lft (indexAddrA T 61 v71 (nth v61 3))) fun v72 =>
 bnd (lft (loadA T 71 v72)) fun v73 =>
 bnd (cellsNil 4 [] v73) fun v74 =>
 M.pure (AV.agg [nth (acells v74) 0,nth (acells v74) 1,nth (acells v74) 2,nth (acells v74) 3])) (bnd (lft (binA T .sub 3 (nth v61 3) (AV.int .i64 1))) fun v75 =>
 v60 [nth v61 0,nth v61 1,nth v61 2,v75,nth v61 4,nth v61 5,nth v61 6,nth v61 7])) (bnd (lft (mkIfaceA T 69 (AV.int .i64 12))) fun v76 =>
 bnd (panM v76) fun _v77 =>
 v32 [nth v61 0,nth v61 1,nth v61 2,nth v61 4,nth v61 5,nth v61 6,nth v61 7])
noncomputable def K90_1 (call:CC) (_fx:Fix AV) (v32:List AV→M AV) (v95:List AV):M AV :=
 condM (nth v95 4) (bnd (lft (loadA T 145 (nth v95 1))) fun v96 =>
 bnd (lft (fieldAddrA T 31 (nth v95 2) 5)) fun v97 =>
 bnd (lft (loadA T 29 v97)) fun v98 =>
 bnd (lft (indexAddrA T 29 v98 (AV.int .i64 0))) fun v99 =>
 bnd (lft (loadA T 31 v99)) fun v100 =>
 bnd (lft (fieldAddrA T 31 (nth v95 2) 0)) fun v101 =>
 bnd (lft (loadA T 3 v101)) fun v102 =>
 bnd (lft (binA T .eql 3 v102 (AV.int .i64 9))) fun v103 =>
 bnd (call 123 [nth v95 0,v96,v100]) fun v104 =>
 bnd (lft (binA T .eql 4 v104 v103)) fun v105 =>
 condM v105 (bnd (lft (fieldAddrA T 31 (nth v95 2) 0)) fun v106 =>
 bnd (lft (loadA T 3 v106)) fun v107 =>
 bnd (lft (binA T .eql 3 v107 (AV.int .i64 9))) fun v108 =>
 bnd (call 121 [v108]) fun v109 =>
 bnd (cellsNil 4 [] v109) fun v110 =>
 M.pure (AV.agg [nth (acells v110) 0,nth (acells v110) 1,nth (acells v110) 2,nth (acells v110) 3])) (bnd (lft (loadA T 145 (nth v95 1))) fun v111 =>
 bnd (lft (fieldAddrA T 31 (nth v95 2) 5)) fun v112 =>
 bnd (lft (loadA T 29 v112)) fun v113 =>
 bnd (lft (indexAddrA T 29 v113 (AV.int .i64 1))) fun v114 =>
 bnd (lft (loadA T 31 v114)) fun v115 =>
 bnd (call 123 [nth v95 0,v111,v115]) fun v116 =>
 bnd (noPan (call 121 [v116])) fun v117 =>
 bnd (cellsNil 4 [] v117) fun v118 =>
 M.pure (AV.agg [nth (acells v118) 0,nth (acells v118) 1,nth (acells v118) 2,nth (acells v118) 3]))) (bnd (lft (binA T .eql 3 (nth v95 3) (AV.int .i64 10))) fun v119 =>
 condM v119 (bnd (lft (loadA T 145 (nth v95 1))) fun v120 =>
 bnd (lft (fieldAddrA T 31 (nth v95 2) 5)) fun v121 =>
 bnd (lft (loadA T 29 v121)) fun v122 =>
 bnd (lft (indexAddrA T 29 v122 (AV.int .i64 0))) fun v123 =>
 bnd (lft (loadA T 31 v123)) fun v124 =>
 bnd (call 123 [nth v95 0,v120,v124]) fun v125 =>
 bnd (lft (unA UnOp.not v125)) fun v126 =>
 bnd (noPan (call 121 [v126])) fun v127 =>
 bnd (cellsNil 4 [] v127) fun v128 =>
 M.pure (AV.agg [nth (acells v128) 0,nth (acells v128) 1,nth (acells v128) 2,nth (acells v128) 3])) (bnd (lft (binA T .eql 3 (nth v95 3) (AV.int .i64 11))) fun v129 =>
 condM v129 (bnd (lft (loadA T 145 (nth v95 1))) fun v130 =>
 bnd (lft (fieldAddrA T 31 (nth v95 2) 5)) fun v131 =>
 bnd (lft (loadA T 29 v131)) fun v132 =>
 bnd (lft (indexAddrA T 29 v132 (AV.int .i64 0))) fun v133 =>
 bnd (lft (loadA T 31 v133)) fun v134 =>
 bnd (call 123 [nth v95 0,v130,v134]) fun v135 =>
 condM v135 (bnd (lft (loadA T 145 (nth v95 1))) fun v136 =>
 bnd (lft (fieldAddrA T 31 (nth v95 2) 5)) fun v137 =>
 bnd (lft (loadA T 29 v137)) fun v138 =>
 bnd (lft (indexAddrA T 29 v138 (AV.int .i64 1))) fun v139 =>
 bnd (lft (loadA T 31 v139)) fun v140 =>
 bnd (call 90 [nth v95 0,v136,v140]) fun v141 =>
 bnd (cellsNil 4 [] v141) fun v142 =>
 M.pure (AV.agg [nth (acells v142) 0,nth (acells v142) 1,nth (acells v142) 2,nth (acells v142) 3])) (bnd (lft (loadA T 145 (nth v95 1))) fun v143 =>
 bnd (lft (fieldAddrA T 31 (nth v95 2) 5)) fun v144 =>
 bnd (lft (loadA T 29 v144)) fun v145 =>
 bnd (lft (indexAddrA T 29 v145 (AV.int .i64 2))) fun v146 =>
 bnd (lft (loadA T 31 v146)) fun v147 =>
 bnd (call 90 [nth v95 0,v143,v147]) fun v148 =>
 bnd (cellsNil 4 [] v148) fun v149 =>
 M.pure (AV.agg [nth (acells v149) 0,nth (acells v149) 1,nth (acells v149) 2,nth (acells v149) 3]))) (bnd (lft (binA T .eql 3 (nth v95 3) (AV.int .i64 12))) fun v150 =>
 condM v150 (bnd (lft (loadA T 145 (nth v95 1))) fun v151 =>
 bnd (lft (fieldAddrA T 31 (nth v95 2) 2)) fun v152 =>
 bnd (lft (loadA T 9 v152)) fun v153 =>
 bnd (lft (loadA T 145 (nth v95 1))) fun v154 =>
 bnd (lft (fieldAddrA T 31 (nth v95 2) 5)) fun v155 =>
 bnd (lft (loadA T 29 v155)) fun v156 =>
 bnd (lft (indexAddrA T 29 v156 (AV.int .i64 0))) fun v157 =>
 bnd (lft (loadA T 31 v157)) fun v158 =>
 bnd (lft (fieldAddrA T 31 (nth v95 2) 5)) fun v159 =>
 bnd (lft (loadA T 29 v159)) fun v160 =>
 bnd (lft (indexAddrA T 29 v160 (AV.int .i64 1))) fun v161 =>
 bnd (lft (loadA T 31 v161)) fun v162 =>
 bnd (call 90 [nth v95 0,v154,v158]) fun v163 =>
 bnd (noPan (call 124 [v151,v153,v163])) fun v164 =>
 bnd (call 90 [nth v95 0,v164,v162]) fun v165 =>
 bnd (cellsNil 4 [] v165) fun v166 =>
 M.pure (AV.agg [nth (acells v166) 0,nth (acells v166) 1,nth (acells v166) 2,nth (acells v166) 3])) (bnd (lft (binA T .eql 3 (nth v95 3) (AV.int .i64 13))) fun v167 =>
 condM v167 (bnd (lft (loadA T 145 (nth v95 1))) fun v168 =>
 bnd (lft (loadA T 31 (nth v95 2))) fun v169 =>
 bnd (call 125 [nth v95 0,v168,v169]) fun v170 =>
 bnd (cellsNil 4 [] v170) fun v171 =>
 M.pure (AV.agg [nth (acells v171) 0,nth (acells v171) 1,nth (acells v171) 2,nth (acells v171) 3])) (bnd (lft (binA T .eql 3 (nth v95 3) (AV.int .i64 14))) fun v172 =>
 condM v172 (bnd (lft (loadA T 145 (nth v95 1))) fun v173 =>
 bnd (lft (fieldAddrA T 31 (nth v95 2) 5)) fun v174 =>
 bnd (lft (loadA T 29 v174)) fun v175 =>
 bnd (lft (indexAddrA T 29 v175 (AV.int .i64 0))) fun v176 =>
 bnd (lft (loadA T 31 v176)) fun v177 =>
 bnd (call 90 [nth v95 0,v173,v177]) fun v178 =>
 bnd (cellsM 4 v178) fun v179 =>
 bnd (lft (fieldAddrA T 71 (AV.ip (acells v179)) 2)) fun v180 =>
 bnd (lft (loadA T 28 v180)) fun v181 =>
 bnd (lft (fieldAddrA T 31 (nth v95 2) 2)) fun v182 =>
 bnd (lft (loadA T 9 v182)) fun v183 =>
 bnd (call 126 [v181,v183]) fun v184 =>
 bnd (lft (fieldAddrA T 71 (AV.ip (acells v179)) 0)) fun v185 =>
 bnd (lft (loadA T 3 v185)) fun v186 =>
 bnd (lft (binA T .eql 3 v186 (AV.int .i64 2))) fun v187 =>
 bnd (guardM v187 true 1 (bnd (lft (binA T .geq 3 v184 (AV.int .i64 0))) fun v188 =>
 M.pure [v188])) fun v189 =>
 bnd (lft (pickA v187 (nth v189 0) (AV.bool false))) fun v190 =>
 bnd (call 118 [v190,AV.int .i64 13]) fun _v191 =>
 bnd (lft (fieldAddrA T 71 (AV.ip (acells v179)) 3)) fun v192 =>
 bnd (lft (loadA T 61 v192)) fun v193 =>
 bnd (lft (indexAddrA T 61 v193 v184)) fun v194 =>
 bnd (lft (loadA T 71 v194)) fun v195 =>
 bnd (cellsNil 4 [] v195) fun v196 =>
 M.pure (AV.agg [nth (acells v196) 0,nth (acells v196) 1,nth (acells v196) 2,nth (acells v196) 3])) (bnd (lft (binA T .eql 3 (nth v95 3) (AV.int .i64 15))) fun v197 =>
 condM v197 (bnd (lft (loadA T 145 (nth v95 1))) fun v198 =>
 bnd (lft (loadA T 31 (nth v95 2))) fun v199 =>
 bnd (call 127 [nth v95 0,v198,v199]) fun v200 =>
 bnd (cellsNil 4 [] v200) fun v201 =>
 M.pure (AV.agg [nth (acells v201) 0,nth (acells v201) 1,nth (acells v201) 2,nth (acells v201) 3])) (v32 [nth v95 0,nth v95 1,nth v95 2,nth v95 5,nth v95 6,nth v95 7,nth v95 8])))))))
noncomputable def K90_2 (call:CC) (fx:Fix AV) (v32:List AV→M AV) (v78:List AV):M AV :=
 condM (nth v78 4) (bnd (lft (fieldAddrA T 31 (nth v78 2) 0)) fun v79 =>
 bnd (lft (loadA T 3 v79)) fun v80 =>
 bnd (lft (loadA T 145 (nth v78 1))) fun v81 =>
 bnd (lft (fieldAddrA T 31 (nth v78 2) 5)) fun v82 =>
 bnd (lft (loadA T 29 v82)) fun v83 =>
 bnd (lft (indexAddrA T 29 v83 (AV.int .i64 0))) fun v84 =>
 bnd (lft (loadA T 31 v84)) fun v85 =>
 bnd (lft (loadA T 145 (nth v78 1))) fun v86 =>
 bnd (lft (fieldAddrA T 31 (nth v78 2) 5)) fun v87 =>
 bnd (lft (loadA T 29 v87)) fun v88 =>
 bnd (lft (indexAddrA T 29 v88 (AV.int .i64 1))) fun v89 =>
 bnd (lft (loadA T 31 v89)) fun v90 =>
 bnd (call 90 [nth v78 0,v81,v85]) fun v91 =>
 bnd (call 90 [nth v78 0,v86,v90]) fun v92 =>
 bnd (call 122 [v80,v91,v92]) fun v93 =>
 bnd (cellsNil 4 [] v93) fun v94 =>
 M.pure (AV.agg [nth (acells v94) 0,nth (acells v94) 1,nth (acells v94) 2,nth (acells v94) 3])) (jn (K90_1 call fx v32) fun v202 =>
 bnd (lft (binA T .eql 3 (nth v78 3) (AV.int .i64 8))) fun v203 =>
 condM v203 (v202 [nth v78 0,nth v78 1,nth v78 2,nth v78 3,v203,nth v78 5,nth v78 6,nth v78 7,nth v78 8]) (bnd (lft (binA T .eql 3 (nth v78 3) (AV.int .i64 9))) fun v204 =>
 v202 [nth v78 0,nth v78 1,nth v78 2,nth v78 3,v204,nth v78 5,nth v78 6,nth v78 7,nth v78 8]))
theorem XL90_0 {call:CC} {v32:List AV→M AV} {v32s:Nat→List AV→M AV} (hv32:LimF v32 fun n=>v32s n):Cont1 (L90_0 call fixW v32) fun n=>L90_0 call fixW (v32s n):=by
 intro v60 v60s hself v61
 unfold L90_0
 exact (lb fun _=>(condM_lim (lb fun _=>(lb fun _=>(lb fun _=>(lb fun _=>(lb fun _=>(lb fun _=>(lb fun _=>(condM_lim (LimM.const _) (lb fun _=>(hself _)))))))))) (lb fun _=>(lb fun _=>(hv32 _)))))
theorem FL90_0 (call:CC) (v32:List AV→M AV) (vs:List AV):fixW (L90_0 call fixW v32) vs=L90_0 call fixW v32 (fixW (L90_0 call fixW v32)) vs:=fixW_eq (XL90_0 (LimF.const _)) vs
noncomputable def S90 (call:CC) (fx:Fix AV) (a0 a1 a2:AV):M AV :=
 bnd (lft (nilChkA a0)) fun v0 =>
 bnd (lft (fieldAddrA T 141 v0 2)) fun v1 =>
 bnd (loadH T 3 v1) fun v2 =>
 bnd (lft (binA T .gtr 3 v2 (AV.int .i64 0))) fun v3 =>
 bnd (call 118 [v3,AV.int .i64 16]) fun _v4 =>
 bnd (lft (nilChkA a0)) fun v5 =>
 bnd (lft (fieldAddrA T 141 v5 2)) fun v6 =>
 bnd (loadH T 3 v6) fun v7 =>
 bnd (lft (binA T .sub 3 v7 (AV.int .i64 1))) fun v8 =>
 bnd (lft (nilChkA a0)) fun v9 =>
 bnd (lft (fieldAddrA T 141 v9 2)) fun v10 =>
 bnd (storeH T 3 v10 v8) fun _v11 =>
 bnd (lft (fieldAddrA T 31 (AV.ip (acells a2)) 0)) fun v12 =>
 bnd (lft (loadA T 3 v12)) fun v13 =>
 bnd (call 119 [v13]) fun v14 =>
 bnd (lft (binA T .neq 3 v14 (AV.int .i64 (-2)))) fun v15 =>
 bnd (guardM v15 true 1 (bnd (lft (binA T .eql 3 v14 (AV.int .i64 (-1)))) fun v16 =>
 M.pure [v16])) fun v17 =>
 bnd (guardM (nth v17 0) false 1 (bnd (lft (fieldAddrA T 31 (AV.ip (acells a2)) 5)) fun v18 =>
 bnd (lft (loadA T 29 v18)) fun v19 =>
 bnd (lft (lenA T 29 v19)) fun v20 =>
 bnd (lft (binA T .eql 3 v14 v20)) fun v21 =>
 M.pure [v21])) fun v22 =>
 bnd (guardM v15 true 1 (bnd (lft (pickA (nth v17 0) (AV.bool true) (nth v22 0))) fun v23 =>
 M.pure [v23])) fun v24 =>
 bnd (lft (pickA v15 (nth v24 0) (AV.bool false))) fun v25 =>
 bnd (call 118 [v25,AV.int .i64 13]) fun _v26 =>
 jn (K90_0 call fx) fun v32 =>
 bnd (lft (fieldAddrA T 31 (AV.ip (acells a2)) 0)) fun v33 =>
 bnd (lft (loadA T 3 v33)) fun v34 =>
 bnd (lft (binA T .eql 3 v34 (AV.int .i64 0))) fun v35 =>
 condM v35 (bnd (lft (fieldAddrA T 31 (AV.ip (acells a2)) 1)) fun v36 =>
 bnd (lft (loadA T 3 v36)) fun v37 =>
 bnd (call 120 [v37]) fun v38 =>
 bnd (cellsNil 4 [] v38) fun v39 =>
 M.pure (AV.agg [nth (acells v39) 0,nth (acells v39) 1,nth (acells v39) 2,nth (acells v39) 3])) (bnd (lft (binA T .eql 3 v34 (AV.int .i64 1))) fun v40 =>
 condM v40 (bnd (lft (fieldAddrA T 31 (AV.ip (acells a2)) 1)) fun v41 =>
 bnd (lft (loadA T 3 v41)) fun v42 =>
 bnd (lft (binA T .eql 3 v42 (AV.int .i64 0))) fun v43 =>
 bnd (guardM v43 false 1 (bnd (lft (fieldAddrA T 31 (AV.ip (acells a2)) 1)) fun v44 =>
 bnd (lft (loadA T 3 v44)) fun v45 =>
 bnd (lft (binA T .eql 3 v45 (AV.int .i64 1))) fun v46 =>
 M.pure [v46])) fun v47 =>
 bnd (lft (pickA v43 (AV.bool true) (nth v47 0))) fun v48 =>
 bnd (call 118 [v48,AV.int .i64 13]) fun _v49 =>
 bnd (lft (fieldAddrA T 31 (AV.ip (acells a2)) 1)) fun v50 =>
 bnd (lft (loadA T 3 v50)) fun v51 =>
 bnd (lft (binA T .eql 3 v51 (AV.int .i64 1))) fun v52 =>
 bnd (call 121 [v52]) fun v53 =>
 bnd (cellsNil 4 [] v53) fun v54 =>
 M.pure (AV.agg [nth (acells v54) 0,nth (acells v54) 1,nth (acells v54) 2,nth (acells v54) 3])) (bnd (lft (binA T .eql 3 v34 (AV.int .i64 2))) fun v55 =>
 condM v55 (bnd (lft (fieldAddrA T 145 (AV.ip (acells a1)) 1)) fun v56 =>
 bnd (lft (loadA T 28 v56)) fun v57 =>
 bnd (lft (lenA T 28 v57)) fun v58 =>
 bnd (lft (binA T .sub 3 v58 (AV.int .i64 1))) fun v59 =>
 fx (L90_0 call fx v32) [a0,AV.ip (acells a1),AV.ip (acells a2),v59,AV.int .i64 0,AV.int .i64 0,AV.sl [],AV.sl []]) (jn (K90_2 call fx v32) fun v205 =>
 bnd (lft (binA T .eql 3 v34 (AV.int .i64 3))) fun v206 =>
 condM v206 (v205 [a0,AV.ip (acells a1),AV.ip (acells a2),v34,v206,AV.int .i64 0,AV.int .i64 0,AV.sl [],AV.sl []]) (bnd (lft (binA T .eql 3 v34 (AV.int .i64 4))) fun v207 =>
 condM v207 (v205 [a0,AV.ip (acells a1),AV.ip (acells a2),v34,v207,AV.int .i64 0,AV.int .i64 0,AV.sl [],AV.sl []]) (bnd (lft (binA T .eql 3 v34 (AV.int .i64 5))) fun v208 =>
 condM v208 (v205 [a0,AV.ip (acells a1),AV.ip (acells a2),v34,v208,AV.int .i64 0,AV.int .i64 0,AV.sl [],AV.sl []]) (bnd (lft (binA T .eql 3 v34 (AV.int .i64 6))) fun v209 =>
 condM v209 (v205 [a0,AV.ip (acells a1),AV.ip (acells a2),v34,v209,AV.int .i64 0,AV.int .i64 0,AV.sl [],AV.sl []]) (bnd (lft (binA T .eql 3 v34 (AV.int .i64 7))) fun v210 =>
 v205 [a0,AV.ip (acells a1),AV.ip (acells a2),v34,v210,AV.int .i64 0,AV.int .i64 0,AV.sl [],AV.sl []])))))))
theorem E90 (call:CC) (fx:Fix AV) (a0 a1 a2:AV):evBody (pg.cx call Tryz.f90.ntmps ann90) fx Tryz.f90 (own 90) [a0,a1,a2] = S90 call fx a0 a1 a2:=by kernel_rfl
theorem C90 (a0 a1 a2:AV):callW pg 90 [a0,a1,a2] = S90 (callW pg) fixW a0 a1 a2:=(callW_heap hOther rfl rfl rfl _).trans (E90 _ _ a0 a1 a2)
noncomputable def S91 (call:CC) (_fx:Fix AV) (a0 a1:AV):M AV :=
 bnd newMapH fun v0 =>
 bnd (cellsM 1 v0) fun v1 =>
 bnd (lft (loadA T 110 (AV.ip (acells a0)))) fun v2 =>
 bnd (lft (loadA T 37 (AV.ip (acells a1)))) fun v3 =>
 bnd (lookH T 110 v2 v3 false) fun v4 =>
 bnd (lft (fieldA T 90 v4 5)) fun v5 =>
 bnd (call 67 [v5,AV.fn (Fn.func 129) [] [AV.ip (acells a1),AV.ip (acells a0),AV.ip (acells v1)]]) fun _v6 =>
 bnd (lft (loadA T 185 (AV.ip (acells v1)))) fun v7 =>
 bnd (call 131 [v7]) fun v8 =>
 bnd (call 64 [v8,AV.fn (Fn.func 66) [] []]) fun v9 =>
 M.pure v9
theorem E91 (call:CC) (fx:Fix AV) (a0 a1:AV):evBody (pg.cx call Tryz.f91.ntmps ann91) fx Tryz.f91 (own 91) [a0,a1] = S91 call fx a0 a1:=by kernel_rfl
theorem C91 (a0 a1:AV):callW pg 91 [a0,a1] = S91 (callW pg) fixW a0 a1:=(callW_heap hOther rfl rfl rfl _).trans (E91 _ _ a0 a1)
noncomputable def S97 (call:CC) (_fx:Fix AV) (a0 a1:AV):M AV :=
 bnd (lft (nilChkA a0)) fun v0 =>
 bnd (lft (fieldAddrA T 141 v0 0)) fun v1 =>
 bnd (loadH T 22 v1) fun v2 =>
 bnd (call 72 [v2,AV.fn (Fn.func 138) [] [AV.ip (acells a1)]]) fun v3 =>
 M.pure v3
theorem E97 (call:CC) (fx:Fix AV) (a0 a1:AV):evBody (pg.cx call Tryz.f97.ntmps ann97) fx Tryz.f97 (own 97) [a0,a1] = S97 call fx a0 a1:=by kernel_rfl
theorem C97 (a0 a1:AV):callW pg 97 [a0,a1] = S97 (callW pg) fixW a0 a1:=(callW_heap hOther rfl rfl rfl _).trans (E97 _ _ a0 a1)
noncomputable def S98 (call:CC) (_fx:Fix AV) (a0 a1 a2:AV):M AV :=
 bnd (lft (binA T .lss 3 a1 (AV.int .i64 0))) fun v0 =>
 condM v0 (bnd (lft (buildA T false 90 [])) fun v1 =>
 bnd (cellsNil 12 [] v1) fun v2 =>
 M.pure (AV.tup [AV.agg [nth (acells v2) 0,nth (acells v2) 1,nth (acells v2) 2,nth (acells v2) 3,nth (acells v2) 4,nth (acells v2) 5,nth (acells v2) 6,nth (acells v2) 7,nth (acells v2) 8,nth (acells v2) 9,nth (acells v2) 10,nth (acells v2) 11],AV.bool false])) (bnd (lft (nilChkA a0)) fun v3 =>
 bnd (lft (fieldAddrA T 141 v3 0)) fun v4 =>
 bnd (loadH T 22 v4) fun v5 =>
 bnd (lft (indexAddrA T 22 v5 a1)) fun v6 =>
 bnd (lft (fieldAddrA T 55 v6 4)) fun v7 =>
 bnd (lft (loadA T 51 v7)) fun v8 =>
 bnd (call 74 [v8,AV.fn (Fn.func 139) [] [AV.ip (acells a2)]]) fun v9 =>
 bnd (lft (binA T .lss 3 v9 (AV.int .i64 0))) fun v10 =>
 condM v10 (bnd (lft (buildA T false 90 [])) fun v11 =>
 bnd (cellsNil 12 [] v11) fun v12 =>
 M.pure (AV.tup [AV.agg [nth (acells v12) 0,nth (acells v12) 1,nth (acells v12) 2,nth (acells v12) 3,nth (acells v12) 4,nth (acells v12) 5,nth (acells v12) 6,nth (acells v12) 7,nth (acells v12) 8,nth (acells v12) 9,nth (acells v12) 10,nth (acells v12) 11],AV.bool false])) (bnd (lft (indexAddrA T 51 v8 v9)) fun v13 =>
 bnd (lft (loadA T 90 v13)) fun v14 =>
 bnd (cellsNil 12 [] v14) fun v15 =>
 M.pure (AV.tup [AV.agg [nth (acells v15) 0,nth (acells v15) 1,nth (acells v15) 2,nth (acells v15) 3,nth (acells v15) 4,nth (acells v15) 5,nth (acells v15) 6,nth (acells v15) 7,nth (acells v15) 8,nth (acells v15) 9,nth (acells v15) 10,nth (acells v15) 11],AV.bool true])))
theorem E98 (call:CC) (fx:Fix AV) (a0 a1 a2:AV):evBody (pg.cx call Tryz.f98.ntmps ann98) fx Tryz.f98 (own 98) [a0,a1,a2] = S98 call fx a0 a1 a2:=by kernel_rfl
theorem C98 (a0 a1 a2:AV):callW pg 98 [a0,a1,a2] = S98 (callW pg) fixW a0 a1 a2:=(callW_heap hOther rfl rfl rfl _).trans (E98 _ _ a0 a1 a2)
noncomputable def L102_0 (call:CC) (_fx:Fix AV) (v11:List AV→M AV) (v12:List AV):M AV :=
 bnd (lft (binA T .lss 3 (nth v12 5) (nth v12 4))) fun v13 =>
 condM v13 (bnd (lft (indexAddrA T 50 (nth v12 3) (nth v12 5))) fun v14 =>
 bnd (lft (loadA T 105 v14)) fun v15 =>
 bnd (cellsM 3 v15) fun v16 =>
 bnd (lft (fieldAddrA T 105 (AV.ip (acells v16)) 0)) fun v17 =>
 bnd (lft (loadA T 9 v17)) fun v18 =>
 bnd (lft (indexAddrA T 61 (nth v12 1) (nth v12 5))) fun v19 =>
 bnd (lft (loadA T 71 v19)) fun v20 =>
 bnd (noPan (call 124 [AV.agg [nth v12 10,nth v12 11,nth v12 12],v18,v20])) fun v21 =>
 bnd (cellsNil 3 [] v21) fun v22 =>
 bnd (lft (binA T .add 3 (nth v12 5) (AV.int .i64 1))) fun v23 =>
 v11 [nth v12 0,nth v12 1,nth v12 2,nth v12 3,nth v12 4,v23,nth v12 6,nth v12 7,nth v12 8,nth v12 9,nth (acells v22) 0,nth (acells v22) 1,nth (acells v22) 2]) (bnd (lft (nilChkA (nth v12 0))) fun v24 =>
 bnd (lft (fieldAddrA T 141 v24 3)) fun v25 =>
 bnd (loadH T 3 v25) fun v26 =>
 bnd (lft (binA T .add 3 v26 (AV.int .i64 1))) fun v27 =>
 bnd (lft (nilChkA (nth v12 0))) fun v28 =>
 bnd (lft (fieldAddrA T 141 v28 3)) fun v29 =>
 bnd (storeH T 3 v29 v27) fun _v30 =>
 bnd (lft (fieldAddrA T 90 (nth v12 2) 5)) fun v31 =>
 bnd (lft (loadA T 31 v31)) fun v32 =>
 bnd (call 90 [nth v12 0,AV.agg [nth v12 10,nth v12 11,nth v12 12],v32]) fun v33 =>
 bnd (cellsM 4 v33) fun v34 =>
 bnd (lft (nilChkA (nth v12 0))) fun v35 =>
 bnd (lft (fieldAddrA T 141 v35 3)) fun v36 =>
 bnd (loadH T 3 v36) fun v37 =>
 bnd (lft (binA T .sub 3 v37 (AV.int .i64 1))) fun v38 =>
 bnd (lft (nilChkA (nth v12 0))) fun v39 =>
 bnd (lft (fieldAddrA T 141 v39 3)) fun v40 =>
 bnd (storeH T 3 v40 v38) fun _v41 =>
 bnd (lft (loadA T 71 (AV.ip (acells v34)))) fun v42 =>
 bnd (cellsNil 4 [] v42) fun v43 =>
 M.pure (AV.agg [nth (acells v43) 0,nth (acells v43) 1,nth (acells v43) 2,nth (acells v43) 3]))
noncomputable def K102_0 (call:CC) (fx:Fix AV) (v5:List AV):M AV :=
 bnd (lft (buildA T false 145 [(0,nth v5 1)])) fun v6 =>
 bnd (cellsNil 3 [] v6) fun v7 =>
 bnd (lft (fieldAddrA T 90 (nth v5 3) 2)) fun v8 =>
 bnd (lft (loadA T 50 v8)) fun v9 =>
 bnd (lft (lenA T 50 v9)) fun v10 =>
 fx (L102_0 call fx) [nth v5 0,nth v5 2,nth v5 3,v9,v10,AV.int .i64 0,nth v5 4,nth v5 5,nth v5 6,nth v5 7,nth (acells v7) 0,nth (acells v7) 1,nth (acells v7) 2]
theorem XL102_0 {call:CC}:Cont1 (L102_0 call fixW ) fun _n=>L102_0 call fixW  := by
 intro v11 v11s hself v12
 unfold L102_0
 exact (lb fun _=>(condM_lim (lb fun _=>(lb fun _=>(lb fun _=>(lb fun _=>(lb fun _=>(lb fun _=>(lb fun _=>(lb fun _=>(lb fun _=>(lb fun _=>(hself _))))))))))) (LimM.const _)))
theorem FL102_0 (call:CC) (vs:List AV):fixW (L102_0 call fixW ) vs=L102_0 call fixW  (fixW (L102_0 call fixW )) vs:=fixW_eq (XL102_0 ) vs
noncomputable def S102 (call:CC) (fx:Fix AV) (a0 a1 a2 a3:AV):M AV :=
 bnd (lft (nilChkA a0)) fun v0 =>
 bnd (lft (fieldAddrA T 141 v0 3)) fun v1 =>
 bnd (loadH T 3 v1) fun v2 =>
 bnd (lft (binA T .lss 3 v2 (AV.int .i64 60))) fun v3 =>
 bnd (call 118 [v3,AV.int .i64 6]) fun _v4 =>
 jn (K102_0 call fx) fun v44 =>
 bnd (lft (fieldAddrA T 90 (AV.ip (acells a2)) 1)) fun v45 =>
 bnd (lft (loadA T 4 v45)) fun v46 =>
 condM v46 (bnd (lft (nilChkA a0)) fun v47 =>
 bnd (lft (fieldAddrA T 141 v47 4)) fun v48 =>
 bnd (lft (fieldAddrA T 75 v48 3)) fun v49 =>
 bnd (loadH T 24 v49) fun v50 =>
 bnd (lft (nilChkA a0)) fun v51 =>
 bnd (lft (fieldAddrA T 141 v51 0)) fun v52 =>
 bnd (loadH T 22 v52) fun v53 =>
 bnd (lft (indexAddrA T 22 v53 a1)) fun v54 =>
 bnd (lft (fieldAddrA T 55 v54 0)) fun v55 =>
 bnd (lft (loadA T 9 v55)) fun v56 =>
 bnd (lft (fieldAddrA T 90 (AV.ip (acells a2)) 0)) fun v57 =>
 bnd (lft (loadA T 9 v57)) fun v58 =>
 bnd (call 100 [a3]) fun v59 =>
 bnd (lft (buildA T false 63 [(0,v56),(1,v58),(2,v59)])) fun v60 =>
 bnd (lft (buildSliceA T 24 1 [(0,v60)])) fun v61 =>
 bnd (appH T 24 false v50 v61) fun v62 =>
 bnd (lft (nilChkA a0)) fun v63 =>
 bnd (lft (fieldAddrA T 141 v63 4)) fun v64 =>
 bnd (lft (fieldAddrA T 75 v64 3)) fun v65 =>
 bnd (storeH T 24 v65 v62) fun _v66 =>
 v44 [a0,a1,a3,AV.ip (acells a2),AV.int .i64 0,AV.int .i64 0,AV.sl [],AV.sl []]) (v44 [a0,a1,a3,AV.ip (acells a2),AV.int .i64 0,AV.int .i64 0,AV.sl [],AV.sl []])
theorem E102 (call:CC) (fx:Fix AV) (a0 a1 a2 a3:AV):evBody (pg.cx call Tryz.f102.ntmps ann102) fx Tryz.f102 (own 102) [a0,a1,a2,a3] = S102 call fx a0 a1 a2 a3:=by kernel_rfl
theorem C102 (a0 a1 a2 a3:AV):callW pg 102 [a0,a1,a2,a3] = S102 (callW pg) fixW a0 a1 a2 a3:=(callW_heap hOther rfl rfl rfl _).trans (E102 _ _ a0 a1 a2 a3)
noncomputable def L105_0 (_call:CC) (_fx:Fix AV) (v1:List AV→M AV) (v2:List AV):M AV :=
 bnd (lft (binA T .lss 3 (nth v2 3) (nth v2 2))) fun v3 =>
 condM v3 (bnd (lft (indexAddrA T 45 (nth v2 1) (nth v2 3))) fun v4 =>
 bnd (lft (loadA T 3 v4)) fun v5 =>
 bnd (lft (binA T .neq 3 v5 (nth v2 0))) fun v6 =>
 condM v6 (M.pure v5) (bnd (lft (binA T .add 3 (nth v2 3) (AV.int .i64 1))) fun v7 =>
 v1 [nth v2 0,nth v2 1,nth v2 2,v7])) (M.pure (nth v2 0))
theorem XL105_0 {call:CC}:Cont1 (L105_0 call fixW ) fun _n=>L105_0 call fixW  := by
 intro v1 v1s hself v2
 unfold L105_0
 exact (lb fun _=>(condM_lim (lb fun _=>(lb fun _=>(lb fun _=>(condM_lim (LimM.const _) (lb fun _=>(hself _)))))) (LimM.const _)))
theorem FL105_0 (call:CC) (vs:List AV):fixW (L105_0 call fixW ) vs=L105_0 call fixW  (fixW (L105_0 call fixW )) vs:=fixW_eq (XL105_0 ) vs
noncomputable def S105 (call:CC) (fx:Fix AV) (a0:AV):M AV :=
 bnd (lft (lenA T 45 a0)) fun v0 =>
 fx (L105_0 call fx) [AV.int .i64 0,a0,v0,AV.int .i64 0]
theorem E105 (call:CC) (fx:Fix AV) (a0:AV):evBody (pg.cx call Tryz.f105.ntmps ann105) fx Tryz.f105 (own 105) [a0] = S105 call fx a0:=by kernel_rfl
theorem C105 (a0:AV):callW pg 105 [a0] = isoP (S105 (callW pg) fixW (cl noHs a0)):=(callW_iso hOther rfl rfl rfl _).trans (congrArg isoP (E105 _ _ (cl noHs a0)))
noncomputable def S106 (call:CC) (_fx:Fix AV) (a0 a1:AV):M AV :=
 bnd (call 141 [a0]) fun v0 =>
 bnd (call 141 [a1]) fun v1 =>
 condM v0 (condM v1 (M.pure (AV.int .i64 0)) (M.pure (AV.int .i64 (-1)))) (condM v1 (M.pure (AV.int .i64 1)) (bnd (lft (binA T .lss 9 a0 a1)) fun v2 =>
 condM v2 (M.pure (AV.int .i64 (-1))) (bnd (lft (binA T .gtr 9 a0 a1)) fun v3 =>
 condM v3 (M.pure (AV.int .i64 1)) (M.pure (AV.int .i64 0)))))
theorem E106 (call:CC) (fx:Fix AV) (a0 a1:AV):evBody (pg.cx call Tryz.f106.ntmps ann106) fx Tryz.f106 (own 106) [a0,a1] = S106 call fx a0 a1:=by kernel_rfl
theorem C106 (a0 a1:AV):callW pg 106 [a0,a1] = isoP (S106 (callW pg) fixW (cl noHs a0) (cl noHs a1)):=(callW_iso hOther rfl rfl rfl _).trans (congrArg isoP (E106 _ _ (cl noHs a0) (cl noHs a1)))
noncomputable def S114 (call:CC) (_fx:Fix AV) (a0 a1:AV):M AV :=
 bnd (call 164 [a0]) fun v0 =>
 bnd (call 164 [a1]) fun v1 =>
 condM v0 (condM v1 (M.pure (AV.int .i64 0)) (M.pure (AV.int .i64 (-1)))) (condM v1 (M.pure (AV.int .i64 1)) (bnd (lft (binA T .lss 3 a0 a1)) fun v2 =>
 condM v2 (M.pure (AV.int .i64 (-1))) (bnd (lft (binA T .gtr 3 a0 a1)) fun v3 =>
 condM v3 (M.pure (AV.int .i64 1)) (M.pure (AV.int .i64 0)))))
theorem E114 (call:CC) (fx:Fix AV) (a0 a1:AV):evBody (pg.cx call Tryz.f114.ntmps ann114) fx Tryz.f114 (own 114) [a0,a1] = S114 call fx a0 a1:=by kernel_rfl
theorem C114 (a0 a1:AV):callW pg 114 [a0,a1] = isoP (S114 (callW pg) fixW (cl noHs a0) (cl noHs a1)):=(callW_iso hOther rfl rfl rfl _).trans (congrArg isoP (E114 _ _ (cl noHs a0) (cl noHs a1)))
noncomputable def L115_0 (call:CC) (_fx:Fix AV) (v1:List AV→M AV) (v2:List AV):M AV :=
 bnd (lft (binA T .lss 3 (nth v2 3) (nth v2 2))) fun v3 =>
 condM v3 (bnd (lft (indexAddrA T 61 (nth v2 0) (nth v2 3))) fun v4 =>
 bnd (lft (loadA T 71 v4)) fun v5 =>
 bnd (callV call (nth v2 1) [v5]) fun v6 =>
 condM v6 (M.pure (nth v2 3)) (bnd (lft (binA T .add 3 (nth v2 3) (AV.int .i64 1))) fun v7 =>
 v1 [nth v2 0,nth v2 1,nth v2 2,v7])) (M.pure (AV.int .i64 (-1)))
theorem XL115_0 {call:CC}:Cont1 (L115_0 call fixW ) fun _n=>L115_0 call fixW  := by
 intro v1 v1s hself v2
 unfold L115_0
 exact (lb fun _=>(condM_lim (lb fun _=>(lb fun _=>(lb fun _=>(condM_lim (LimM.const _) (lb fun _=>(hself _)))))) (LimM.const _)))
theorem FL115_0 (call:CC) (vs:List AV):fixW (L115_0 call fixW ) vs=L115_0 call fixW  (fixW (L115_0 call fixW )) vs:=fixW_eq (XL115_0 ) vs
noncomputable def S115 (call:CC) (fx:Fix AV) (a0 a1:AV):M AV :=
 bnd (lft (lenA T 61 a0)) fun v0 =>
 fx (L115_0 call fx) [a0,a1,v0,AV.int .i64 0]
theorem E115 (call:CC) (fx:Fix AV) (a0 a1:AV):evBody (pg.cx call Tryz.f115.ntmps ann115) fx Tryz.f115 (own 115) [a0,a1] = S115 call fx a0 a1:=by kernel_rfl
theorem C115 (a0 a1:AV):callW pg 115 [a0,a1] = isoP (S115 (callW pg) fixW (cl noHs a0) (cl noHs a1)):=(callW_iso hOther rfl rfl rfl _).trans (congrArg isoP (E115 _ _ (cl noHs a0) (cl noHs a1)))
noncomputable def S116 (call:CC) (_fx:Fix AV) (a0 a1:AV):M AV :=
 bnd (lft (loadA T 3 (AV.ip (acells a1)))) fun v0 =>
 bnd (lft (binA T .eql 3 v0 (AV.int .i64 0))) fun v1 =>
 condM v1 (M.pure (AV.bool false)) (bnd (lft (fieldAddrA T 71 (AV.ip (acells a0)) 0)) fun v2 =>
 bnd (lft (loadA T 3 v2)) fun v3 =>
 bnd (lft (binA T .eql 3 v3 (AV.int .i64 0))) fun v4 =>
 bnd (guardM v4 false 1 (bnd (lft (fieldAddrA T 71 (AV.ip (acells a0)) 0)) fun v5 =>
 bnd (lft (loadA T 3 v5)) fun v6 =>
 bnd (lft (binA T .eql 3 v6 (AV.int .i64 1))) fun v7 =>
 M.pure [v7])) fun v8 =>
 bnd (lft (pickA v4 (AV.bool true) (nth v8 0))) fun v9 =>
 condM v9 (bnd (lft (fieldAddrA T 71 (AV.ip (acells a0)) 2)) fun v10 =>
 bnd (lft (loadA T 28 v10)) fun v11 =>
 bnd (lft (lenA T 28 v11)) fun v12 =>
 bnd (lft (binA T .eql 3 v12 (AV.int .i64 0))) fun v13 =>
 bnd (guardM v13 true 1 (bnd (lft (fieldAddrA T 71 (AV.ip (acells a0)) 3)) fun v14 =>
 bnd (lft (loadA T 61 v14)) fun v15 =>
 bnd (lft (lenA T 61 v15)) fun v16 =>
 bnd (lft (binA T .eql 3 v16 (AV.int .i64 0))) fun v17 =>
 M.pure [v17])) fun v18 =>
 bnd (lft (pickA v13 (nth v18 0) (AV.bool false))) fun v19 =>
 bnd (guardM v19 true 1 (bnd (lft (fieldAddrA T 71 (AV.ip (acells a0)) 0)) fun v20 =>
 bnd (lft (loadA T 3 v20)) fun v21 =>
 bnd (lft (binA T .eql 3 v21 (AV.int .i64 0))) fun v22 =>
 M.pure [v22])) fun v23 =>
 bnd (guardM (nth v23 0) false 1 (bnd (lft (fieldAddrA T 71 (AV.ip (acells a0)) 1)) fun v24 =>
 bnd (lft (loadA T 3 v24)) fun v25 =>
 bnd (lft (binA T .eql 3 v25 (AV.int .i64 0))) fun v26 =>
 M.pure [v26])) fun v27 =>
 bnd (guardM v19 true 1 (bnd (lft (pickA (nth v23 0) (AV.bool true) (nth v27 0))) fun v28 =>
 M.pure [v28])) fun v29 =>
 bnd (guardM (nth v29 0) false 1 (bnd (lft (fieldAddrA T 71 (AV.ip (acells a0)) 1)) fun v30 =>
 bnd (lft (loadA T 3 v30)) fun v31 =>
 bnd (lft (binA T .eql 3 v31 (AV.int .i64 1))) fun v32 =>
 M.pure [v32])) fun v33 =>
 bnd (guardM v19 true 1 (bnd (lft (pickA (nth v29 0) (AV.bool true) (nth v33 0))) fun v34 =>
 M.pure [v34])) fun v35 =>
 bnd (lft (pickA v19 (nth v35 0) (AV.bool false))) fun v36 =>
 M.pure v36) (bnd (lft (fieldAddrA T 71 (AV.ip (acells a0)) 0)) fun v37 =>
 bnd (lft (loadA T 3 v37)) fun v38 =>
 bnd (lft (binA T .neq 3 v38 (AV.int .i64 2))) fun v39 =>
 bnd (guardM v39 false 1 (bnd (lft (fieldAddrA T 71 (AV.ip (acells a0)) 1)) fun v40 =>
 bnd (lft (loadA T 3 v40)) fun v41 =>
 bnd (lft (binA T .neq 3 v41 (AV.int .i64 0))) fun v42 =>
 M.pure [v42])) fun v43 =>
 bnd (lft (pickA v39 (AV.bool true) (nth v43 0))) fun v44 =>
 bnd (guardM v44 false 1 (bnd (lft (fieldAddrA T 71 (AV.ip (acells a0)) 2)) fun v45 =>
 bnd (lft (loadA T 28 v45)) fun v46 =>
 bnd (lft (lenA T 28 v46)) fun v47 =>
 bnd (lft (fieldAddrA T 71 (AV.ip (acells a0)) 3)) fun v48 =>
 bnd (lft (loadA T 61 v48)) fun v49 =>
 bnd (lft (lenA T 61 v49)) fun v50 =>
 bnd (lft (binA T .neq 3 v47 v50)) fun v51 =>
 M.pure [v51])) fun v52 =>
 bnd (lft (pickA v44 (AV.bool true) (nth v52 0))) fun v53 =>
 bnd (guardM v53 false 1 (bnd (lft (fieldAddrA T 71 (AV.ip (acells a0)) 2)) fun v54 =>
 bnd (lft (loadA T 28 v54)) fun v55 =>
 bnd (lft (lenA T 28 v55)) fun v56 =>
 bnd (lft (binA T .gtr 3 v56 (AV.int .i64 8))) fun v57 =>
 M.pure [v57])) fun v58 =>
 bnd (lft (pickA v53 (AV.bool true) (nth v58 0))) fun v59 =>
 bnd (guardM v59 false 1 (bnd (lft (fieldAddrA T 71 (AV.ip (acells a0)) 2)) fun v60 =>
 bnd (lft (loadA T 28 v60)) fun v61 =>
 bnd (call 165 [v61]) fun v62 =>
 bnd (lft (unA UnOp.not v62)) fun v63 =>
 M.pure [v63])) fun v64 =>
 bnd (lft (pickA v59 (AV.bool true) (nth v64 0))) fun v65 =>
 condM v65 (M.pure (AV.bool false)) (bnd (lft (fieldAddrA T 71 (AV.ip (acells a0)) 3)) fun v66 =>
 bnd (lft (loadA T 61 v66)) fun v67 =>
 bnd (call 85 [v67,AV.fn (Fn.func 166) [] [AV.ip (acells a1)]]) fun v68 =>
 bnd (lft (unA UnOp.not v68)) fun v69 =>
 M.pure v69)))
theorem E116 (call:CC) (fx:Fix AV) (a0 a1:AV):evBody (pg.cx call Tryz.f116.ntmps ann116) fx Tryz.f116 (own 116) [a0,a1] = S116 call fx a0 a1:=by kernel_rfl
theorem C116 (a0 a1:AV):callW pg 116 [a0,a1] = isoP (S116 (callW pg) fixW (cl noHs a0) (cl noHs a1)):=(callW_iso hOther rfl rfl rfl _).trans (congrArg isoP (E116 _ _ (cl noHs a0) (cl noHs a1)))
noncomputable def S118 (_call:CC) (_fx:Fix AV) (a0 a1:AV):M AV :=
 bnd (lft (unA UnOp.not a0)) fun v0 =>
 condM v0 (bnd (lft (mkIfaceA T 69 a1)) fun v1 =>
 bnd (panM v1) fun _v2 =>
 M.pure (AV.tup [])) (M.pure (AV.tup []))
theorem E118 (call:CC) (fx:Fix AV) (a0 a1:AV):evBody (pg.cx call Tryz.f118.ntmps ann118) fx Tryz.f118 (own 118) [a0,a1] = S118 call fx a0 a1:=by kernel_rfl
theorem C118 (a0 a1:AV):callW pg 118 [a0,a1] = isoP (S118 (callW pg) fixW (cl noHs a0) (cl noHs a1)):=(callW_iso hOther rfl rfl rfl _).trans (congrArg isoP (E118 _ _ (cl noHs a0) (cl noHs a1)))
noncomputable def K119_0 (_call:CC) (_fx:Fix AV) (v4:List AV):M AV :=
 condM (nth v4 0) (M.pure (AV.int .i64 (-1))) (M.pure (AV.int .i64 (-2)))
noncomputable def K119_1 (call:CC) (fx:Fix AV) (v2:List AV):M AV :=
 condM (nth v2 1) (M.pure (AV.int .i64 2)) (bnd (lft (binA T .eql 3 (nth v2 0) (AV.int .i64 11))) fun v3 =>
 condM v3 (M.pure (AV.int .i64 3)) (jn (K119_0 call fx) fun v5 =>
 bnd (lft (binA T .eql 3 (nth v2 0) (AV.int .i64 13))) fun v6 =>
 condM v6 (v5 [v6]) (bnd (lft (binA T .eql 3 (nth v2 0) (AV.int .i64 15))) fun v7 =>
 v5 [v7])))
noncomputable def K119_2 (call:CC) (fx:Fix AV) (v1:List AV):M AV :=
 condM (nth v1 1) (M.pure (AV.int .i64 1)) (jn (K119_1 call fx) fun v8 =>
 bnd (lft (binA T .eql 3 (nth v1 0) (AV.int .i64 3))) fun v9 =>
 condM v9 (v8 [nth v1 0,v9]) (bnd (lft (binA T .eql 3 (nth v1 0) (AV.int .i64 4))) fun v10 =>
 condM v10 (v8 [nth v1 0,v10]) (bnd (lft (binA T .eql 3 (nth v1 0) (AV.int .i64 5))) fun v11 =>
 condM v11 (v8 [nth v1 0,v11]) (bnd (lft (binA T .eql 3 (nth v1 0) (AV.int .i64 6))) fun v12 =>
 condM v12 (v8 [nth v1 0,v12]) (bnd (lft (binA T .eql 3 (nth v1 0) (AV.int .i64 7))) fun v13 =>
 condM v13 (v8 [nth v1 0,v13]) (bnd (lft (binA T .eql 3 (nth v1 0) (AV.int .i64 8))) fun v14 =>
 condM v14 (v8 [nth v1 0,v14]) (bnd (lft (binA T .eql 3 (nth v1 0) (AV.int .i64 9))) fun v15 =>
 condM v15 (v8 [nth v1 0,v15]) (bnd (lft (binA T .eql 3 (nth v1 0) (AV.int .i64 12))) fun v16 =>
 v8 [nth v1 0,v16]))))))))
noncomputable def K119_3 (call:CC) (fx:Fix AV) (v0:List AV):M AV :=
 condM (nth v0 1) (M.pure (AV.int .i64 0)) (jn (K119_2 call fx) fun v17 =>
 bnd (lft (binA T .eql 3 (nth v0 0) (AV.int .i64 10))) fun v18 =>
 condM v18 (v17 [nth v0 0,v18]) (bnd (lft (binA T .eql 3 (nth v0 0) (AV.int .i64 14))) fun v19 =>
 condM v19 (v17 [nth v0 0,v19]) (bnd (lft (binA T .eql 3 (nth v0 0) (AV.int .i64 16))) fun v20 =>
 condM v20 (v17 [nth v0 0,v20]) (bnd (lft (binA T .eql 3 (nth v0 0) (AV.int .i64 18))) fun v21 =>
 v17 [nth v0 0,v21]))))
noncomputable def S119 (call:CC) (fx:Fix AV) (a0:AV):M AV :=
 jn (K119_3 call fx) fun v22 =>
 bnd (lft (binA T .eql 3 a0 (AV.int .i64 0))) fun v23 =>
 condM v23 (v22 [a0,v23]) (bnd (lft (binA T .eql 3 a0 (AV.int .i64 1))) fun v24 =>
 condM v24 (v22 [a0,v24]) (bnd (lft (binA T .eql 3 a0 (AV.int .i64 2))) fun v25 =>
 condM v25 (v22 [a0,v25]) (bnd (lft (binA T .eql 3 a0 (AV.int .i64 17))) fun v26 =>
 v22 [a0,v26])))
theorem E119 (call:CC) (fx:Fix AV) (a0:AV):evBody (pg.cx call Tryz.f119.ntmps ann119) fx Tryz.f119 (own 119) [a0] = S119 call fx a0:=by kernel_rfl
theorem C119 (a0:AV):callW pg 119 [a0] = isoP (S119 (callW pg) fixW (cl noHs a0)):=(callW_iso hOther rfl rfl rfl _).trans (congrArg isoP (E119 _ _ (cl noHs a0)))
noncomputable def S120 (_call:CC) (_fx:Fix AV) (a0:AV):M AV :=
 bnd (lft (buildA T false 71 [(0,AV.int .i64 0),(1,a0)])) fun v0 =>
 bnd (cellsNil 4 [] v0) fun v1 =>
 M.pure (AV.agg [nth (acells v1) 0,nth (acells v1) 1,nth (acells v1) 2,nth (acells v1) 3])
theorem E120 (call:CC) (fx:Fix AV) (a0:AV):evBody (pg.cx call Tryz.f120.ntmps ann120) fx Tryz.f120 (own 120) [a0] = S120 call fx a0:=by kernel_rfl
theorem C120 (a0:AV):callW pg 120 [a0] = isoP (S120 (callW pg) fixW (cl noHs a0)):=(callW_iso hOther rfl rfl rfl _).trans (congrArg isoP (E120 _ _ (cl noHs a0)))
noncomputable def S121 (_call:CC) (_fx:Fix AV) (a0:AV):M AV :=
 condM a0 (bnd (lft (buildA T false 71 [(0,AV.int .i64 1),(1,AV.int .i64 1)])) fun v0 =>
 bnd (cellsNil 4 [] v0) fun v1 =>
 M.pure (AV.agg [nth (acells v1) 0,nth (acells v1) 1,nth (acells v1) 2,nth (acells v1) 3])) (bnd (lft (buildA T false 71 [(0,AV.int .i64 1)])) fun v2 =>
 bnd (cellsNil 4 [] v2) fun v3 =>
 M.pure (AV.agg [nth (acells v3) 0,nth (acells v3) 1,nth (acells v3) 2,nth (acells v3) 3]))
theorem E121 (call:CC) (fx:Fix AV) (a0:AV):evBody (pg.cx call Tryz.f121.ntmps ann121) fx Tryz.f121 (own 121) [a0] = S121 call fx a0:=by kernel_rfl
theorem C121 (a0:AV):callW pg 121 [a0] = isoP (S121 (callW pg) fixW (cl noHs a0)):=(callW_iso hOther rfl rfl rfl _).trans (congrArg isoP (E121 _ _ (cl noHs a0)))
noncomputable def S122 (call:CC) (_fx:Fix AV) (a0 a1 a2:AV):M AV :=
 bnd (lft (binA T .eql 3 a0 (AV.int .i64 7))) fun v0 =>
 condM v0 (bnd (lft (fieldAddrA T 71 (AV.ip (acells a1)) 0)) fun v1 =>
 bnd (lft (loadA T 3 v1)) fun v2 =>
 bnd (lft (fieldAddrA T 71 (AV.ip (acells a2)) 0)) fun v3 =>
 bnd (lft (loadA T 3 v3)) fun v4 =>
 bnd (lft (binA T .eql 3 v2 v4)) fun v5 =>
 bnd (guardM v5 true 1 (bnd (lft (fieldAddrA T 71 (AV.ip (acells a1)) 0)) fun v6 =>
 bnd (lft (loadA T 3 v6)) fun v7 =>
 bnd (lft (binA T .neq 3 v7 (AV.int .i64 2))) fun v8 =>
 M.pure [v8])) fun v9 =>
 bnd (lft (pickA v5 (nth v9 0) (AV.bool false))) fun v10 =>
 bnd (call 118 [v10,AV.int .i64 13]) fun _v11 =>
 bnd (lft (fieldAddrA T 71 (AV.ip (acells a1)) 1)) fun v12 =>
 bnd (lft (loadA T 3 v12)) fun v13 =>
 bnd (lft (fieldAddrA T 71 (AV.ip (acells a2)) 1)) fun v14 =>
 bnd (lft (loadA T 3 v14)) fun v15 =>
 bnd (lft (binA T .eql 3 v13 v15)) fun v16 =>
 bnd (call 121 [v16]) fun v17 =>
 bnd (cellsNil 4 [] v17) fun v18 =>
 M.pure (AV.agg [nth (acells v18) 0,nth (acells v18) 1,nth (acells v18) 2,nth (acells v18) 3])) (bnd (lft (fieldAddrA T 71 (AV.ip (acells a1)) 0)) fun v19 =>
 bnd (lft (loadA T 3 v19)) fun v20 =>
 bnd (lft (binA T .eql 3 v20 (AV.int .i64 0))) fun v21 =>
 bnd (guardM v21 true 1 (bnd (lft (fieldAddrA T 71 (AV.ip (acells a2)) 0)) fun v22 =>
 bnd (lft (loadA T 3 v22)) fun v23 =>
 bnd (lft (binA T .eql 3 v23 (AV.int .i64 0))) fun v24 =>
 M.pure [v24])) fun v25 =>
 bnd (lft (pickA v21 (nth v25 0) (AV.bool false))) fun v26 =>
 bnd (call 118 [v26,AV.int .i64 13]) fun _v27 =>
 bnd (lft (binA T .eql 3 a0 (AV.int .i64 3))) fun v28 =>
 condM v28 (bnd (lft (fieldAddrA T 71 (AV.ip (acells a1)) 1)) fun v29 =>
 bnd (lft (loadA T 3 v29)) fun v30 =>
 bnd (lft (fieldAddrA T 71 (AV.ip (acells a2)) 1)) fun v31 =>
 bnd (lft (loadA T 3 v31)) fun v32 =>
 bnd (lft (binA T .add 3 v30 v32)) fun v33 =>
 bnd (call 120 [v33]) fun v34 =>
 bnd (cellsNil 4 [] v34) fun v35 =>
 M.pure (AV.agg [nth (acells v35) 0,nth (acells v35) 1,nth (acells v35) 2,nth (acells v35) 3])) (bnd (lft (binA T .eql 3 a0 (AV.int .i64 4))) fun v36 =>
 condM v36 (bnd (lft (fieldAddrA T 71 (AV.ip (acells a1)) 1)) fun v37 =>
 bnd (lft (loadA T 3 v37)) fun v38 =>
 bnd (lft (fieldAddrA T 71 (AV.ip (acells a2)) 1)) fun v39 =>
 bnd (lft (loadA T 3 v39)) fun v40 =>
 bnd (lft (binA T .sub 3 v38 v40)) fun v41 =>
 bnd (call 120 [v41]) fun v42 =>
 bnd (cellsNil 4 [] v42) fun v43 =>
 M.pure (AV.agg [nth (acells v43) 0,nth (acells v43) 1,nth (acells v43) 2,nth (acells v43) 3])) (bnd (lft (binA T .eql 3 a0 (AV.int .i64 5))) fun v44 =>
 condM v44 (bnd (lft (fieldAddrA T 71 (AV.ip (acells a1)) 1)) fun v45 =>
 bnd (lft (loadA T 3 v45)) fun v46 =>
 bnd (lft (fieldAddrA T 71 (AV.ip (acells a2)) 1)) fun v47 =>
 bnd (lft (loadA T 3 v47)) fun v48 =>
 bnd (lft (binA T .mul 3 v46 v48)) fun v49 =>
 bnd (call 120 [v49]) fun v50 =>
 bnd (cellsNil 4 [] v50) fun v51 =>
 M.pure (AV.agg [nth (acells v51) 0,nth (acells v51) 1,nth (acells v51) 2,nth (acells v51) 3])) (bnd (lft (fieldAddrA T 71 (AV.ip (acells a1)) 1)) fun v52 =>
 bnd (lft (loadA T 3 v52)) fun v53 =>
 bnd (lft (fieldAddrA T 71 (AV.ip (acells a2)) 1)) fun v54 =>
 bnd (lft (loadA T 3 v54)) fun v55 =>
 bnd (lft (binA T .lss 3 v53 v55)) fun v56 =>
 bnd (call 121 [v56]) fun v57 =>
 bnd (cellsNil 4 [] v57) fun v58 =>
 M.pure (AV.agg [nth (acells v58) 0,nth (acells v58) 1,nth (acells v58) 2,nth (acells v58) 3])))))
theorem E122 (call:CC) (fx:Fix AV) (a0 a1 a2:AV):evBody (pg.cx call Tryz.f122.ntmps ann122) fx Tryz.f122 (own 122) [a0,a1,a2] = S122 call fx a0 a1 a2:=by kernel_rfl
theorem C122 (a0 a1 a2:AV):callW pg 122 [a0,a1,a2] = S122 (callW pg) fixW a0 a1 a2:=(callW_heap hOther rfl rfl rfl _).trans (E122 _ _ a0 a1 a2)
noncomputable def S123 (call:CC) (_fx:Fix AV) (a0 a1 a2:AV):M AV :=
 bnd (lft (loadA T 145 (AV.ip (acells a1)))) fun v0 =>
 bnd (lft (loadA T 31 (AV.ip (acells a2)))) fun v1 =>
 bnd (call 90 [a0,v0,v1]) fun v2 =>
 bnd (cellsM 4 v2) fun v3 =>
 bnd (lft (fieldAddrA T 71 (AV.ip (acells v3)) 0)) fun v4 =>
 bnd (lft (loadA T 3 v4)) fun v5 =>
 bnd (lft (binA T .eql 3 v5 (AV.int .i64 1))) fun v6 =>
 bnd (call 118 [v6,AV.int .i64 13]) fun _v7 =>
 bnd (lft (fieldAddrA T 71 (AV.ip (acells v3)) 1)) fun v8 =>
 bnd (lft (loadA T 3 v8)) fun v9 =>
 bnd (lft (binA T .eql 3 v9 (AV.int .i64 1))) fun v10 =>
 M.pure v10
theorem E123 (call:CC) (fx:Fix AV) (a0 a1 a2:AV):evBody (pg.cx call Tryz.f123.ntmps ann123) fx Tryz.f123 (own 123) [a0,a1,a2] = S123 call fx a0 a1 a2:=by kernel_rfl
theorem C123 (a0 a1 a2:AV):callW pg 123 [a0,a1,a2] = S123 (callW pg) fixW a0 a1 a2:=(callW_heap hOther rfl rfl rfl _).trans (E123 _ _ a0 a1 a2)
noncomputable def S124 (call:CC) (_fx:Fix AV) (a0 a1 a2:AV):M AV :=
 bnd (lft (fieldAddrA T 145 (AV.ip (acells a0)) 0)) fun v0 =>
 bnd (lft (loadA T 3 v0)) fun v1 =>
 bnd (lft (fieldAddrA T 145 (AV.ip (acells a0)) 1)) fun v2 =>
 bnd (lft (loadA T 28 v2)) fun v3 =>
 bnd (noPan (call 167 [v3])) fun v4 =>
 bnd (lft (buildSliceA T 28 1 [(0,a1)])) fun v5 =>
 bnd (lft (appA T 28 v4 v5)) fun v6 =>
 bnd (lft (fieldAddrA T 145 (AV.ip (acells a0)) 2)) fun v7 =>
 bnd (lft (loadA T 61 v7)) fun v8 =>
 bnd (noPan (call 168 [v8])) fun v9 =>
 bnd (lft (loadA T 71 (AV.ip (acells a2)))) fun v10 =>
 bnd (lft (buildSliceA T 61 1 [(0,v10)])) fun v11 =>
 bnd (lft (appA T 61 v9 v11)) fun v12 =>
 bnd (lft (buildA T false 145 [(0,v1),(1,v6),(2,v12)])) fun v13 =>
 bnd (cellsNil 3 [] v13) fun v14 =>
 M.pure (AV.agg [nth (acells v14) 0,nth (acells v14) 1,nth (acells v14) 2])
theorem E124 (call:CC) (fx:Fix AV) (a0 a1 a2:AV):evBody (pg.cx call Tryz.f124.ntmps ann124) fx Tryz.f124 (own 124) [a0,a1,a2] = S124 call fx a0 a1 a2:=by kernel_rfl
theorem C124 (a0 a1 a2:AV):callW pg 124 [a0,a1,a2] = isoP (S124 (callW pg) fixW (cl noHs a0) (cl noHs a1) (cl noHs a2)):=(callW_iso hOther rfl rfl rfl _).trans (congrArg isoP (E124 _ _ (cl noHs a0) (cl noHs a1) (cl noHs a2)))
noncomputable def L125_0 (call:CC) (_fx:Fix AV) (v26:List AV→M AV) (v27:List AV):M AV :=
 bnd (lft (binA T .lss 3 (nth v27 4) (nth v27 3))) fun v28 =>
 condM v28 (bnd (lft (indexAddrA T 29 (nth v27 2) (nth v27 4))) fun v29 =>
 bnd (lft (loadA T 31 v29)) fun v30 =>
 bnd (cellsM 6 v30) fun v31 =>
 bnd (lft (loadA T 145 (nth v27 1))) fun v32 =>
 bnd (lft (loadA T 31 (AV.ip (acells v31)))) fun v33 =>
 bnd (call 90 [nth v27 0,v32,v33]) fun v34 =>
 bnd (lft (buildSliceA T 61 1 [(0,v34)])) fun v35 =>
 bnd (lft (appA T 61 (nth v27 12) v35)) fun v36 =>
 bnd (cell1M v36) fun _v37 =>
 bnd (lft (binA T .add 3 (nth v27 4) (AV.int .i64 1))) fun v38 =>
 v26 [nth v27 0,nth v27 1,nth v27 2,nth v27 3,v38,nth v27 5,nth v27 6,nth v27 7,nth v27 8,nth v27 9,nth v27 10,nth v27 11,v36]) (bnd (call 170 [AV.agg [nth v27 9,nth v27 10,nth v27 11,nth v27 12]]) fun v39 =>
 bnd (lft (binA T .leq 3 v39 (AV.int .i64 4))) fun v40 =>
 bnd (call 118 [v40,AV.int .i64 6]) fun _v41 =>
 bnd (cellsNil 4 [] (AV.agg [nth v27 9,nth v27 10,nth v27 11,nth v27 12])) fun v42 =>
 M.pure (AV.agg [nth (acells v42) 0,nth (acells v42) 1,nth (acells v42) 2,nth (acells v42) 3]))
theorem XL125_0 {call:CC}:Cont1 (L125_0 call fixW ) fun _n=>L125_0 call fixW  := by
 intro v26 v26s hself v27
 unfold L125_0
 exact (lb fun _=>(condM_lim (lb fun _=>(lb fun _=>(lb fun _=>(lb fun _=>(lb fun _=>(lb fun _=>(lb fun _=>(lb fun _=>(lb fun _=>(lb fun _=>(hself _))))))))))) (LimM.const _)))
theorem FL125_0 (call:CC) (vs:List AV):fixW (L125_0 call fixW ) vs=L125_0 call fixW  (fixW (L125_0 call fixW )) vs:=fixW_eq (XL125_0 ) vs
noncomputable def S125 (call:CC) (fx:Fix AV) (a0 a1 a2:AV):M AV :=
 bnd (lft (fieldAddrA T 31 (AV.ip (acells a2)) 4)) fun v0 =>
 bnd (lft (loadA T 28 v0)) fun v1 =>
 bnd (lft (lenA T 28 v1)) fun v2 =>
 bnd (lft (fieldAddrA T 31 (AV.ip (acells a2)) 5)) fun v3 =>
 bnd (lft (loadA T 29 v3)) fun v4 =>
 bnd (lft (lenA T 29 v4)) fun v5 =>
 bnd (lft (binA T .eql 3 v2 v5)) fun v6 =>
 bnd (guardM v6 true 1 (bnd (lft (fieldAddrA T 31 (AV.ip (acells a2)) 4)) fun v7 =>
 bnd (lft (loadA T 28 v7)) fun v8 =>
 bnd (call 165 [v8]) fun v9 =>
 M.pure [v9])) fun v10 =>
 bnd (lft (pickA v6 (nth v10 0) (AV.bool false))) fun v11 =>
 bnd (call 118 [v11,AV.int .i64 13]) fun _v12 =>
 bnd (lft (fieldAddrA T 31 (AV.ip (acells a2)) 4)) fun v13 =>
 bnd (lft (loadA T 28 v13)) fun v14 =>
 bnd (lft (lenA T 28 v14)) fun v15 =>
 bnd (lft (binA T .leq 3 v15 (AV.int .i64 8))) fun v16 =>
 bnd (call 118 [v16,AV.int .i64 6]) fun _v17 =>
 bnd (lft (fieldAddrA T 31 (AV.ip (acells a2)) 4)) fun v18 =>
 bnd (lft (loadA T 28 v18)) fun v19 =>
 bnd (call 169 [v19]) fun v20 =>
 bnd (lft (buildA T true 71 [(0,AV.int .i64 2),(2,v20)])) fun v21 =>
 bnd (cellsNil 4 [3] v21) fun v22 =>
 bnd (lft (fieldAddrA T 31 (AV.ip (acells a2)) 5)) fun v23 =>
 bnd (lft (loadA T 29 v23)) fun v24 =>
 bnd (lft (lenA T 29 v24)) fun v25 =>
 fx (L125_0 call fx) [a0,AV.ip (acells a1),v24,v25,AV.int .i64 0,AV.int .i64 0,AV.int .i64 0,AV.sl [],AV.sl [],nth (acells v22) 0,nth (acells v22) 1,nth (acells v22) 2,AV.sl []]
theorem E125 (call:CC) (fx:Fix AV) (a0 a1 a2:AV):evBody (pg.cx call Tryz.f125.ntmps ann125) fx Tryz.f125 (own 125) [a0,a1,a2] = S125 call fx a0 a1 a2:=by kernel_rfl
theorem C125 (a0 a1 a2:AV):callW pg 125 [a0,a1,a2] = S125 (callW pg) fixW a0 a1 a2:=(callW_heap hOther rfl rfl rfl _).trans (E125 _ _ a0 a1 a2)
noncomputable def L126_0 (_call:CC) (_fx:Fix AV) (v1:List AV→M AV) (v2:List AV):M AV :=
 bnd (lft (binA T .lss 3 (nth v2 3) (nth v2 2))) fun v3 =>
 condM v3 (bnd (lft (indexAddrA T 28 (nth v2 0) (nth v2 3))) fun v4 =>
 bnd (lft (loadA T 9 v4)) fun v5 =>
 bnd (lft (binA T .eql 9 (nth v2 1) v5)) fun v6 =>
 condM v6 (M.pure (nth v2 3)) (bnd (lft (binA T .add 3 (nth v2 3) (AV.int .i64 1))) fun v7 =>
 v1 [nth v2 0,nth v2 1,nth v2 2,v7])) (M.pure (AV.int .i64 (-1)))
theorem XL126_0 {call:CC}:Cont1 (L126_0 call fixW ) fun _n=>L126_0 call fixW  := by
 intro v1 v1s hself v2
 unfold L126_0
 exact (lb fun _=>(condM_lim (lb fun _=>(lb fun _=>(lb fun _=>(condM_lim (LimM.const _) (lb fun _=>(hself _)))))) (LimM.const _)))
theorem FL126_0 (call:CC) (vs:List AV):fixW (L126_0 call fixW ) vs=L126_0 call fixW  (fixW (L126_0 call fixW )) vs:=fixW_eq (XL126_0 ) vs
noncomputable def S126 (call:CC) (fx:Fix AV) (a0 a1:AV):M AV :=
 bnd (lft (lenA T 28 a0)) fun v0 =>
 fx (L126_0 call fx) [a0,a1,v0,AV.int .i64 0]
theorem E126 (call:CC) (fx:Fix AV) (a0 a1:AV):evBody (pg.cx call Tryz.f126.ntmps ann126) fx Tryz.f126 (own 126) [a0,a1] = S126 call fx a0 a1:=by kernel_rfl
theorem C126 (a0 a1:AV):callW pg 126 [a0,a1] = isoP (S126 (callW pg) fixW (cl noHs a0) (cl noHs a1)):=(callW_iso hOther rfl rfl rfl _).trans (congrArg isoP (E126 _ _ (cl noHs a0) (cl noHs a1)))
noncomputable def L127_0 (call:CC) (_fx:Fix AV) (v31:List AV→M AV) (v32:List AV):M AV :=
 bnd (lft (binA T .lss 3 (nth v32 7) (nth v32 6))) fun v33 =>
 condM v33 (bnd (lft (indexAddrA T 29 (nth v32 5) (nth v32 7))) fun v34 =>
 bnd (lft (loadA T 31 v34)) fun v35 =>
 bnd (cellsM 6 v35) fun v36 =>
 bnd (lft (loadA T 145 (nth v32 1))) fun v37 =>
 bnd (lft (loadA T 31 (AV.ip (acells v36)))) fun v38 =>
 bnd (call 90 [nth v32 0,v37,v38]) fun v39 =>
 bnd (lft (buildSliceA T 61 1 [(0,v39)])) fun v40 =>
 bnd (lft (appA T 61 (nth v32 4) v40)) fun v41 =>
 bnd (lft (binA T .add 3 (nth v32 7) (AV.int .i64 1))) fun v42 =>
 v31 [nth v32 0,nth v32 1,nth v32 2,nth v32 3,v41,nth v32 5,nth v32 6,v42,nth v32 8,nth v32 9,nth v32 10,nth v32 11]) (bnd (lft (loadA T 90 (nth v32 3))) fun v43 =>
 bnd (call 102 [nth v32 0,nth v32 2,v43,nth v32 4]) fun v44 =>
 bnd (cellsNil 4 [] v44) fun v45 =>
 M.pure (AV.agg [nth (acells v45) 0,nth (acells v45) 1,nth (acells v45) 2,nth (acells v45) 3]))
noncomputable def K127_0 (call:CC) (fx:Fix AV) (v2:List AV):M AV :=
 bnd (lft (fieldAddrA T 31 (nth v2 2) 2)) fun v3 =>
 bnd (lft (loadA T 9 v3)) fun v4 =>
 bnd (call 98 [nth v2 0,nth v2 3,v4]) fun v5 =>
 bnd (lft (extractA v5 0)) fun v6 =>
 bnd (lft (extractA v5 1)) fun v7 =>
 bnd (cellsM 12 v6) fun v8 =>
 bnd (guardM v7 true 1 (bnd (lft (fieldAddrA T 31 (nth v2 2) 3)) fun v9 =>
 bnd (lft (loadA T 9 v9)) fun v10 =>
 bnd (lft (binA T .eql 9 v10 (AV.str []))) fun v11 =>
 M.pure [v11])) fun v12 =>
 bnd (guardM (nth v12 0) false 1 (bnd (lft (fieldAddrA T 90 (AV.ip (acells v8)) 1)) fun v13 =>
 bnd (lft (loadA T 4 v13)) fun v14 =>
 M.pure [v14])) fun v15 =>
 bnd (guardM v7 true 1 (bnd (lft (pickA (nth v12 0) (AV.bool true) (nth v15 0))) fun v16 =>
 M.pure [v16])) fun v17 =>
 bnd (lft (pickA v7 (nth v17 0) (AV.bool false))) fun v18 =>
 bnd (call 118 [v18,AV.int .i64 12]) fun _v19 =>
 bnd (lft (fieldAddrA T 31 (nth v2 2) 5)) fun v20 =>
 bnd (lft (loadA T 29 v20)) fun v21 =>
 bnd (lft (lenA T 29 v21)) fun v22 =>
 bnd (lft (fieldAddrA T 90 (AV.ip (acells v8)) 2)) fun v23 =>
 bnd (lft (loadA T 50 v23)) fun v24 =>
 bnd (lft (lenA T 50 v24)) fun v25 =>
 bnd (lft (binA T .eql 3 v22 v25)) fun v26 =>
 bnd (call 118 [v26,AV.int .i64 13]) fun _v27 =>
 bnd (lft (fieldAddrA T 31 (nth v2 2) 5)) fun v28 =>
 bnd (lft (loadA T 29 v28)) fun v29 =>
 bnd (lft (lenA T 29 v29)) fun v30 =>
 fx (L127_0 call fx) [nth v2 0,nth v2 1,nth v2 3,AV.ip (acells v8),AV.sl [],v29,v30,AV.int .i64 0,nth v2 4,nth v2 5,nth v2 6,nth v2 7]
theorem XL127_0 {call:CC}:Cont1 (L127_0 call fixW ) fun _n=>L127_0 call fixW  := by
 intro v31 v31s hself v32
 unfold L127_0
 exact (lb fun _=>(condM_lim (lb fun _=>(lb fun _=>(lb fun _=>(lb fun _=>(lb fun _=>(lb fun _=>(lb fun _=>(lb fun _=>(lb fun _=>(hself _)))))))))) (LimM.const _)))
theorem FL127_0 (call:CC) (vs:List AV):fixW (L127_0 call fixW ) vs=L127_0 call fixW  (fixW (L127_0 call fixW )) vs:=fixW_eq (XL127_0 ) vs
noncomputable def S127 (call:CC) (fx:Fix AV) (a0 a1 a2:AV):M AV :=
 bnd (lft (fieldAddrA T 145 (AV.ip (acells a1)) 0)) fun v0 =>
 bnd (lft (loadA T 3 v0)) fun v1 =>
 jn (K127_0 call fx) fun v46 =>
 bnd (lft (fieldAddrA T 31 (AV.ip (acells a2)) 3)) fun v47 =>
 bnd (lft (loadA T 9 v47)) fun v48 =>
 bnd (lft (binA T .neq 9 v48 (AV.str []))) fun v49 =>
 condM v49 (bnd (lft (fieldAddrA T 31 (AV.ip (acells a2)) 3)) fun v50 =>
 bnd (lft (loadA T 9 v50)) fun v51 =>
 bnd (call 97 [a0,v51]) fun v52 =>
 v46 [a0,AV.ip (acells a1),AV.ip (acells a2),v52,AV.int .i64 0,AV.int .i64 0,AV.sl [],AV.sl []]) (v46 [a0,AV.ip (acells a1),AV.ip (acells a2),v1,AV.int .i64 0,AV.int .i64 0,AV.sl [],AV.sl []])
theorem E127 (call:CC) (fx:Fix AV) (a0 a1 a2:AV):evBody (pg.cx call Tryz.f127.ntmps ann127) fx Tryz.f127 (own 127) [a0,a1,a2] = S127 call fx a0 a1 a2:=by kernel_rfl
theorem C127 (a0 a1 a2:AV):callW pg 127 [a0,a1,a2] = S127 (callW pg) fixW a0 a1 a2:=(callW_heap hOther rfl rfl rfl _).trans (E127 _ _ a0 a1 a2)
noncomputable def K128_0 (call:CC) (_fx:Fix AV) (v33:List AV):M AV :=
 bnd (lft (nilChkA (nth v33 0))) fun v34 =>
 bnd (lft (fieldAddrA T 141 v34 4)) fun v35 =>
 bnd (lft (fieldAddrA T 75 v35 2)) fun v36 =>
 bnd (loadH T 72 v36) fun v37 =>
 bnd (lft (fieldAddrA T 31 (nth v33 1) 1)) fun v38 =>
 bnd (lft (loadA T 3 v38)) fun v39 =>
 bnd (lft (fieldAddrA T 71 (nth v33 2) 1)) fun v40 =>
 bnd (lft (loadA T 3 v40)) fun v41 =>
 bnd (lft (buildA T false 80 [(0,v39),(1,v41),(2,nth v33 3)])) fun v42 =>
 bnd (lft (buildSliceA T 72 1 [(0,v42)])) fun v43 =>
 bnd (appH T 72 false v37 v43) fun v44 =>
 bnd (lft (nilChkA (nth v33 0))) fun v45 =>
 bnd (lft (fieldAddrA T 141 v45 4)) fun v46 =>
 bnd (lft (fieldAddrA T 75 v46 2)) fun v47 =>
 bnd (storeH T 72 v47 v44) fun _v48 =>
 bnd (call 120 [nth v33 3]) fun v49 =>
 bnd (cellsNil 4 [] v49) fun v50 =>
 M.pure (AV.agg [nth (acells v50) 0,nth (acells v50) 1,nth (acells v50) 2,nth (acells v50) 3])
noncomputable def K128_1 (_call:CC) (_fx:Fix AV) (v93:List AV):M AV :=
 bnd (lft (indexAddrA T 61 (nth v93 1) (nth v93 0))) fun v94 =>
 bnd (loadH T 71 v94) fun v95 =>
 bnd (cellsNil 4 [] v95) fun v96 =>
 M.pure (AV.agg [nth (acells v96) 0,nth (acells v96) 1,nth (acells v96) 2,nth (acells v96) 3])
noncomputable def S128 (call:CC) (fx:Fix AV) (a0 a1 a2:AV):M AV :=
 bnd (lft (fieldAddrA T 31 (AV.ip (acells a2)) 0)) fun v0 =>
 bnd (lft (loadA T 3 v0)) fun v1 =>
 bnd (lft (binA T .eql 3 v1 (AV.int .i64 16))) fun v2 =>
 condM v2 (bnd (lft (loadA T 145 (AV.ip (acells a1)))) fun v3 =>
 bnd (lft (fieldAddrA T 31 (AV.ip (acells a2)) 5)) fun v4 =>
 bnd (lft (loadA T 29 v4)) fun v5 =>
 bnd (lft (indexAddrA T 29 v5 (AV.int .i64 0))) fun v6 =>
 bnd (lft (loadA T 31 v6)) fun v7 =>
 bnd (call 90 [a0,v3,v7]) fun v8 =>
 bnd (cellsM 4 v8) fun v9 =>
 bnd (lft (fieldAddrA T 71 (AV.ip (acells v9)) 0)) fun v10 =>
 bnd (lft (loadA T 3 v10)) fun v11 =>
 bnd (lft (binA T .eql 3 v11 (AV.int .i64 0))) fun v12 =>
 bnd (call 118 [v12,AV.int .i64 13]) fun _v13 =>
 bnd (lft (fieldAddrA T 31 (AV.ip (acells a2)) 1)) fun v14 =>
 bnd (lft (loadA T 3 v14)) fun v15 =>
 bnd (lft (binA T .eql 3 v15 (AV.int .i64 1))) fun v16 =>
 bnd (guardM v16 false 1 (bnd (lft (fieldAddrA T 31 (AV.ip (acells a2)) 1)) fun v17 =>
 bnd (lft (loadA T 3 v17)) fun v18 =>
 bnd (lft (binA T .eql 3 v18 (AV.int .i64 2))) fun v19 =>
 M.pure [v19])) fun v20 =>
 bnd (lft (pickA v16 (AV.bool true) (nth v20 0))) fun v21 =>
 bnd (guardM v21 false 1 (bnd (lft (fieldAddrA T 31 (AV.ip (acells a2)) 1)) fun v22 =>
 bnd (lft (loadA T 3 v22)) fun v23 =>
 bnd (lft (binA T .eql 3 v23 (AV.int .i64 4))) fun v24 =>
 M.pure [v24])) fun v25 =>
 bnd (lft (pickA v21 (AV.bool true) (nth v25 0))) fun v26 =>
 bnd (guardM v26 false 1 (bnd (lft (fieldAddrA T 31 (AV.ip (acells a2)) 1)) fun v27 =>
 bnd (lft (loadA T 3 v27)) fun v28 =>
 bnd (lft (binA T .eql 3 v28 (AV.int .i64 8))) fun v29 =>
 M.pure [v29])) fun v30 =>
 bnd (lft (pickA v26 (AV.bool true) (nth v30 0))) fun v31 =>
 bnd (call 118 [v31,AV.int .i64 14]) fun _v32 =>
 jn (K128_0 call fx) fun v51 =>
 bnd (lft (nilChkA a0)) fun v52 =>
 bnd (lft (fieldAddrA T 141 v52 1)) fun v53 =>
 bnd (loadH T 45 v53) fun v54 =>
 bnd (lft (lenA T 45 v54)) fun v55 =>
 bnd (lft (binA T .gtr 3 v55 (AV.int .i64 0))) fun v56 =>
 condM v56 (bnd (lft (nilChkA a0)) fun v57 =>
 bnd (lft (fieldAddrA T 141 v57 1)) fun v58 =>
 bnd (loadH T 45 v58) fun v59 =>
 bnd (lft (indexAddrA T 45 v59 (AV.int .i64 0))) fun v60 =>
 bnd (lft (loadA T 3 v60)) fun v61 =>
 bnd (lft (nilChkA a0)) fun v62 =>
 bnd (lft (fieldAddrA T 141 v62 1)) fun v63 =>
 bnd (loadH T 45 v63) fun v64 =>
 bnd (lft (sliceA T 45 v64 (some (AV.int .i64 1)) none none)) fun v65 =>
 bnd (lft (nilChkA a0)) fun v66 =>
 bnd (lft (fieldAddrA T 141 v66 1)) fun v67 =>
 bnd (storeH T 45 v67 v65) fun _v68 =>
 v51 [a0,AV.ip (acells a2),AV.ip (acells v9),v61,AV.int .i64 0,AV.int .i64 0,AV.sl [],AV.sl []]) (v51 [a0,AV.ip (acells a2),AV.ip (acells v9),AV.int .i64 0,AV.int .i64 0,AV.int .i64 0,AV.sl [],AV.sl []])) (bnd (lft (fieldAddrA T 145 (AV.ip (acells a1)) 0)) fun v69 =>
 bnd (lft (loadA T 3 v69)) fun v70 =>
 bnd (lft (binA T .geq 3 v70 (AV.int .i64 0))) fun v71 =>
 bnd (call 118 [v71,AV.int .i64 12]) fun _v72 =>
 bnd (lft (nilChkA a0)) fun v73 =>
 bnd (lft (fieldAddrA T 141 v73 0)) fun v74 =>
 bnd (loadH T 22 v74) fun v75 =>
 bnd (lft (fieldAddrA T 145 (AV.ip (acells a1)) 0)) fun v76 =>
 bnd (lft (loadA T 3 v76)) fun v77 =>
 bnd (lft (indexAddrA T 22 v75 v77)) fun v78 =>
 bnd (lft (fieldAddrA T 55 v78 2)) fun v79 =>
 bnd (lft (loadA T 50 v79)) fun v80 =>
 bnd (noPan (call 171 [v80,AV.fn (Fn.func 172) [] [AV.ip (acells a2)]])) fun v81 =>
 bnd (lft (binA T .geq 3 v81 (AV.int .i64 0))) fun v82 =>
 bnd (call 118 [v82,AV.int .i64 12]) fun _v83 =>
 bnd (lft (nilChkA a0)) fun v84 =>
 bnd (lft (fieldAddrA T 141 v84 4)) fun v85 =>
 bnd (lft (fieldAddrA T 75 v85 4)) fun v86 =>
 bnd (loadH T 73 v86) fun v87 =>
 bnd (lft (fieldAddrA T 145 (AV.ip (acells a1)) 0)) fun v88 =>
 bnd (lft (loadA T 3 v88)) fun v89 =>
 bnd (lft (indexAddrA T 73 v87 v89)) fun v90 =>
 bnd (lft (fieldAddrA T 155 v90 1)) fun v91 =>
 bnd (loadH T 61 v91) fun v92 =>
 jn (K128_1 call fx) fun v97 =>
 bnd (lft (fieldAddrA T 31 (AV.ip (acells a2)) 0)) fun v98 =>
 bnd (lft (loadA T 3 v98)) fun v99 =>
 bnd (lft (binA T .eql 3 v99 (AV.int .i64 18))) fun v100 =>
 condM v100 (bnd (lft (loadA T 145 (AV.ip (acells a1)))) fun v101 =>
 bnd (lft (fieldAddrA T 31 (AV.ip (acells a2)) 5)) fun v102 =>
 bnd (lft (loadA T 29 v102)) fun v103 =>
 bnd (lft (indexAddrA T 29 v103 (AV.int .i64 0))) fun v104 =>
 bnd (lft (loadA T 31 v104)) fun v105 =>
 bnd (call 90 [a0,v101,v105]) fun v106 =>
 bnd (lft (indexAddrA T 61 v92 v81)) fun v107 =>
 bnd (storeH T 71 v107 v106) fun _v108 =>
 v97 [v81,v92,AV.int .i64 0,AV.int .i64 0,AV.sl [],AV.sl []]) (v97 [v81,v92,AV.int .i64 0,AV.int .i64 0,AV.sl [],AV.sl []]))
theorem E128 (call:CC) (fx:Fix AV) (a0 a1 a2:AV):evBody (pg.cx call Tryz.f128.ntmps ann128) fx Tryz.f128 (own 128) [a0,a1,a2] = S128 call fx a0 a1 a2:=by kernel_rfl
theorem C128 (a0 a1 a2:AV):callW pg 128 [a0,a1,a2] = S128 (callW pg) fixW a0 a1 a2:=(callW_heap hOther rfl rfl rfl _).trans (E128 _ _ a0 a1 a2)
noncomputable def S129 (call:CC) (_fx:Fix AV) (a0 a1 a2 a3:AV):M AV :=
 bnd (lft (fieldAddrA T 31 (AV.ip (acells a0)) 3)) fun v0 =>
 bnd (lft (loadA T 9 v0)) fun v1 =>
 bnd (lft (fieldAddrA T 37 a1 0)) fun v2 =>
 bnd (lft (loadA T 9 v2)) fun v3 =>
 bnd (lft (buildSliceA T 28 2 [(0,v1),(1,v3)])) fun v4 =>
 bnd (noPan (call 130 [v4])) fun v5 =>
 bnd (lft (fieldAddrA T 31 (AV.ip (acells a0)) 2)) fun v6 =>
 bnd (lft (loadA T 9 v6)) fun v7 =>
 bnd (lft (buildA T false 37 [(0,v5),(1,v7)])) fun v8 =>
 bnd (cellsM 2 v8) fun v9 =>
 bnd (lft (loadA T 110 a2)) fun v10 =>
 bnd (lft (loadA T 37 (AV.ip (acells v9)))) fun v11 =>
 bnd (lookH T 110 v10 v11 true) fun v12 =>
 bnd (lft (extractA v12 0)) fun v13 =>
 bnd (lft (extractA v12 1)) fun v14 =>
 bnd (cellsM 12 v13) fun v15 =>
 bnd (lft (fieldAddrA T 31 (AV.ip (acells a0)) 0)) fun v16 =>
 bnd (lft (loadA T 3 v16)) fun v17 =>
 bnd (lft (binA T .eql 3 v17 (AV.int .i64 15))) fun v18 =>
 bnd (guardM v18 true 1 (M.pure [v14])) fun v19 =>
 bnd (lft (pickA v18 (nth v19 0) (AV.bool false))) fun v20 =>
 bnd (guardM v20 true 1 (bnd (lft (fieldAddrA T 31 (AV.ip (acells a0)) 3)) fun v21 =>
 bnd (lft (loadA T 9 v21)) fun v22 =>
 bnd (lft (binA T .eql 9 v22 (AV.str []))) fun v23 =>
 M.pure [v23])) fun v24 =>
 bnd (guardM (nth v24 0) false 1 (bnd (lft (fieldAddrA T 90 (AV.ip (acells v15)) 1)) fun v25 =>
 bnd (lft (loadA T 4 v25)) fun v26 =>
 M.pure [v26])) fun v27 =>
 bnd (guardM v20 true 1 (bnd (lft (pickA (nth v24 0) (AV.bool true) (nth v27 0))) fun v28 =>
 M.pure [v28])) fun v29 =>
 bnd (lft (pickA v20 (nth v29 0) (AV.bool false))) fun v30 =>
 condM v30 (bnd (lft (loadA T 185 a3)) fun v31 =>
 bnd (lft (loadA T 37 (AV.ip (acells v9)))) fun v32 =>
 bnd (putH T 185 v31 v32 (AV.bool true)) fun _v33 =>
 M.pure (AV.tup [])) (M.pure (AV.tup []))
theorem E129 (call:CC) (fx:Fix AV) (a0 a1 a2 a3:AV):evBody (pg.cx call Tryz.f129.ntmps ann129) fx Tryz.f129 (own 129) [a0,a1,a2,a3] = S129 call fx a0 a1 a2 a3:=by kernel_rfl
theorem C129 (a0 a1 a2 a3:AV):callW pg 129 [a0,a1,a2,a3] = S129 (callW pg) fixW a0 a1 a2 a3:=(callW_heap hOther rfl rfl rfl _).trans (E129 _ _ a0 a1 a2 a3)
noncomputable def L130_0 (_call:CC) (_fx:Fix AV) (v1:List AV→M AV) (v2:List AV):M AV :=
 bnd (lft (binA T .lss 3 (nth v2 3) (nth v2 2))) fun v3 =>
 condM v3 (bnd (lft (indexAddrA T 28 (nth v2 1) (nth v2 3))) fun v4 =>
 bnd (lft (loadA T 9 v4)) fun v5 =>
 bnd (lft (binA T .neq 9 v5 (nth v2 0))) fun v6 =>
 condM v6 (M.pure v5) (bnd (lft (binA T .add 3 (nth v2 3) (AV.int .i64 1))) fun v7 =>
 v1 [nth v2 0,nth v2 1,nth v2 2,v7])) (M.pure (nth v2 0))
theorem XL130_0 {call:CC}:Cont1 (L130_0 call fixW ) fun _n=>L130_0 call fixW  := by
 intro v1 v1s hself v2
 unfold L130_0
 exact (lb fun _=>(condM_lim (lb fun _=>(lb fun _=>(lb fun _=>(condM_lim (LimM.const _) (lb fun _=>(hself _)))))) (LimM.const _)))
theorem FL130_0 (call:CC) (vs:List AV):fixW (L130_0 call fixW ) vs=L130_0 call fixW  (fixW (L130_0 call fixW )) vs:=fixW_eq (XL130_0 ) vs
noncomputable def S130 (call:CC) (fx:Fix AV) (a0:AV):M AV :=
 bnd (lft (lenA T 28 a0)) fun v0 =>
 fx (L130_0 call fx) [AV.str [],a0,v0,AV.int .i64 0]
theorem E130 (call:CC) (fx:Fix AV) (a0:AV):evBody (pg.cx call Tryz.f130.ntmps ann130) fx Tryz.f130 (own 130) [a0] = S130 call fx a0:=by kernel_rfl
theorem C130 (a0:AV):callW pg 130 [a0] = isoP (S130 (callW pg) fixW (cl noHs a0)):=(callW_iso hOther rfl rfl rfl _).trans (congrArg isoP (E130 _ _ (cl noHs a0)))
noncomputable def S131 (_call:CC) (_fx:Fix AV) (a0:AV):M AV :=
 M.pure (AV.fn (Fn.func 173) [] [AV.ip (acells a0)])
theorem E131 (call:CC) (fx:Fix AV) (a0:AV):evBody (pg.cx call Tryz.f131.ntmps ann131) fx Tryz.f131 (own 131) [a0] = S131 call fx a0:=by kernel_rfl
theorem C131 (a0:AV):callW pg 131 [a0] = S131 (callW pg) fixW a0:=(callW_heap hOther rfl rfl rfl _).trans (E131 _ _ a0)
noncomputable def S138 (_call:CC) (_fx:Fix AV) (a0 a1:AV):M AV :=
 bnd (lft (fieldAddrA T 55 (AV.ip (acells a0)) 0)) fun v0 =>
 bnd (lft (loadA T 9 v0)) fun v1 =>
 bnd (lft (loadA T 9 a1)) fun v2 =>
 bnd (lft (binA T .eql 9 v1 v2)) fun v3 =>
 M.pure v3
theorem E138 (call:CC) (fx:Fix AV) (a0 a1:AV):evBody (pg.cx call Tryz.f138.ntmps ann138) fx Tryz.f138 (own 138) [a0,a1] = S138 call fx a0 a1:=by kernel_rfl
theorem C138 (a0 a1:AV):callW pg 138 [a0,a1] = isoP (S138 (callW pg) fixW (cl noHs a0) (cl noHs a1)):=(callW_iso hOther rfl rfl rfl _).trans (congrArg isoP (E138 _ _ (cl noHs a0) (cl noHs a1)))
noncomputable def S139 (_call:CC) (_fx:Fix AV) (a0 a1:AV):M AV :=
 bnd (lft (fieldAddrA T 90 (AV.ip (acells a0)) 0)) fun v0 =>
 bnd (lft (loadA T 9 v0)) fun v1 =>
 bnd (lft (loadA T 9 a1)) fun v2 =>
 bnd (lft (binA T .eql 9 v1 v2)) fun v3 =>
 M.pure v3
theorem E139 (call:CC) (fx:Fix AV) (a0 a1:AV):evBody (pg.cx call Tryz.f139.ntmps ann139) fx Tryz.f139 (own 139) [a0,a1] = S139 call fx a0 a1:=by kernel_rfl
theorem C139 (a0 a1:AV):callW pg 139 [a0,a1] = isoP (S139 (callW pg) fixW (cl noHs a0) (cl noHs a1)):=(callW_iso hOther rfl rfl rfl _).trans (congrArg isoP (E139 _ _ (cl noHs a0) (cl noHs a1)))
noncomputable def S141 (_call:CC) (_fx:Fix AV) (a0:AV):M AV :=
 bnd (lft (binA T .neq 9 a0 a0)) fun v0 =>
 M.pure v0
theorem E141 (call:CC) (fx:Fix AV) (a0:AV):evBody (pg.cx call Tryz.f141.ntmps ann141) fx Tryz.f141 (own 141) [a0] = S141 call fx a0:=by kernel_rfl
theorem C141 (a0:AV):callW pg 141 [a0] = isoP (S141 (callW pg) fixW (cl noHs a0)):=(callW_iso hOther rfl rfl rfl _).trans (congrArg isoP (E141 _ _ (cl noHs a0)))
noncomputable def S164 (_call:CC) (_fx:Fix AV) (a0:AV):M AV :=
 bnd (lft (binA T .neq 3 a0 a0)) fun v0 =>
 M.pure v0
theorem E164 (call:CC) (fx:Fix AV) (a0:AV):evBody (pg.cx call Tryz.f164.ntmps ann164) fx Tryz.f164 (own 164) [a0] = S164 call fx a0:=by kernel_rfl
theorem C164 (a0:AV):callW pg 164 [a0] = isoP (S164 (callW pg) fixW (cl noHs a0)):=(callW_iso hOther rfl rfl rfl _).trans (congrArg isoP (E164 _ _ (cl noHs a0)))
noncomputable def L165_0 (_call:CC) (_fx:Fix AV) (v0:List AV→M AV) (v1:List AV):M AV :=
 bnd (lft (lenA T 28 (nth v1 0))) fun v2 =>
 bnd (lft (binA T .lss 3 (nth v1 1) v2)) fun v3 =>
 condM v3 (bnd (lft (binA T .sub 3 (nth v1 1) (AV.int .i64 1))) fun v4 =>
 bnd (lft (indexAddrA T 28 (nth v1 0) v4)) fun v5 =>
 bnd (lft (loadA T 9 v5)) fun v6 =>
 bnd (lft (indexAddrA T 28 (nth v1 0) (nth v1 1))) fun v7 =>
 bnd (lft (loadA T 9 v7)) fun v8 =>
 bnd (lft (binA T .geq 9 v6 v8)) fun v9 =>
 condM v9 (M.pure (AV.bool false)) (bnd (lft (binA T .add 3 (nth v1 1) (AV.int .i64 1))) fun v10 =>
 v0 [nth v1 0,v10])) (M.pure (AV.bool true))
theorem XL165_0 {call:CC}:Cont1 (L165_0 call fixW ) fun _n=>L165_0 call fixW  := by
 intro v0 v0s hself v1
 unfold L165_0
 exact (lb fun _=>(lb fun _=>(condM_lim (lb fun _=>(lb fun _=>(lb fun _=>(lb fun _=>(lb fun _=>(lb fun _=>(condM_lim (LimM.const _) (lb fun _=>(hself _))))))))) (LimM.const _))))
theorem FL165_0 (call:CC) (vs:List AV):fixW (L165_0 call fixW ) vs=L165_0 call fixW  (fixW (L165_0 call fixW )) vs:=fixW_eq (XL165_0 ) vs
noncomputable def S165 (call:CC) (fx:Fix AV) (a0:AV):M AV :=
 fx (L165_0 call fx) [a0,AV.int .i64 1]
theorem E165 (call:CC) (fx:Fix AV) (a0:AV):evBody (pg.cx call Tryz.f165.ntmps ann165) fx Tryz.f165 (own 165) [a0] = S165 call fx a0:=by kernel_rfl
theorem C165 (a0:AV):callW pg 165 [a0] = isoP (S165 (callW pg) fixW (cl noHs a0)):=(callW_iso hOther rfl rfl rfl _).trans (congrArg isoP (E165 _ _ (cl noHs a0)))
noncomputable def S166 (call:CC) (_fx:Fix AV) (a0 a1:AV):M AV :=
 bnd (lft (loadA T 71 (AV.ip (acells a0)))) fun v0 =>
 bnd (lft (loadA T 3 a1)) fun v1 =>
 bnd (lft (binA T .sub 3 v1 (AV.int .i64 1))) fun v2 =>
 bnd (call 116 [v0,v2]) fun v3 =>
 bnd (lft (unA UnOp.not v3)) fun v4 =>
 M.pure v4
theorem E166 (call:CC) (fx:Fix AV) (a0 a1:AV):evBody (pg.cx call Tryz.f166.ntmps ann166) fx Tryz.f166 (own 166) [a0,a1] = S166 call fx a0 a1:=by kernel_rfl
theorem C166 (a0 a1:AV):callW pg 166 [a0,a1] = isoP (S166 (callW pg) fixW (cl noHs a0) (cl noHs a1)):=(callW_iso hOther rfl rfl rfl _).trans (congrArg isoP (E166 _ _ (cl noHs a0) (cl noHs a1)))
noncomputable def S167 (_call:CC) (_fx:Fix AV) (a0:AV):M AV :=
 bnd (lft (lenA T 28 a0)) fun v0 =>
 bnd (lft (lenA T 28 a0)) fun v1 =>
 bnd (lft (sliceA T 28 a0 none (some v0) (some v1))) fun v2 =>
 M.pure v2
theorem E167 (call:CC) (fx:Fix AV) (a0:AV):evBody (pg.cx call Tryz.f167.ntmps ann167) fx Tryz.f167 (own 167) [a0] = S167 call fx a0:=by kernel_rfl
theorem C167 (a0:AV):callW pg 167 [a0] = isoP (S167 (callW pg) fixW (cl noHs a0)):=(callW_iso hOther rfl rfl rfl _).trans (congrArg isoP (E167 _ _ (cl noHs a0)))
noncomputable def S168 (_call:CC) (_fx:Fix AV) (a0:AV):M AV :=
 bnd (lft (lenA T 61 a0)) fun v0 =>
 bnd (lft (lenA T 61 a0)) fun v1 =>
 bnd (lft (sliceA T 61 a0 none (some v0) (some v1))) fun v2 =>
 M.pure v2
theorem E168 (call:CC) (fx:Fix AV) (a0:AV):evBody (pg.cx call Tryz.f168.ntmps ann168) fx Tryz.f168 (own 168) [a0] = S168 call fx a0:=by kernel_rfl
theorem C168 (a0:AV):callW pg 168 [a0] = isoP (S168 (callW pg) fixW (cl noHs a0)):=(callW_iso hOther rfl rfl rfl _).trans (congrArg isoP (E168 _ _ (cl noHs a0)))
noncomputable def L170_0 (call:CC) (_fx:Fix AV) (v3:List AV→M AV) (v4:List AV):M AV :=
 bnd (lft (binA T .lss 3 (nth v4 3) (nth v4 2))) fun v5 =>
 condM v5 (bnd (lft (indexAddrA T 61 (nth v4 1) (nth v4 3))) fun v6 =>
 bnd (lft (loadA T 71 v6)) fun v7 =>
 bnd (cellsM 4 v7) fun v8 =>
 bnd (lft (loadA T 71 (AV.ip (acells v8)))) fun v9 =>
 bnd (call 170 [v9]) fun v10 =>
 bnd (lft (minsA true [nth v4 0,v10])) fun v11 =>
 bnd (lft (binA T .add 3 (nth v4 3) (AV.int .i64 1))) fun v12 =>
 v3 [v11,nth v4 1,nth v4 2,v12]) (bnd (lft (binA T .add 3 (nth v4 0) (AV.int .i64 1))) fun v13 =>
 M.pure v13)
theorem XL170_0 {call:CC}:Cont1 (L170_0 call fixW ) fun _n=>L170_0 call fixW  := by
 intro v3 v3s hself v4
 unfold L170_0
 exact (lb fun _=>(condM_lim (lb fun _=>(lb fun _=>(lb fun _=>(lb fun _=>(lb fun _=>(lb fun _=>(lb fun _=>(hself _)))))))) (LimM.const _)))
theorem FL170_0 (call:CC) (vs:List AV):fixW (L170_0 call fixW ) vs=L170_0 call fixW  (fixW (L170_0 call fixW )) vs:=fixW_eq (XL170_0 ) vs
noncomputable def S170 (call:CC) (fx:Fix AV) (a0:AV):M AV :=
 bnd (lft (fieldAddrA T 71 (AV.ip (acells a0)) 3)) fun v0 =>
 bnd (lft (loadA T 61 v0)) fun v1 =>
 bnd (lft (lenA T 61 v1)) fun v2 =>
 fx (L170_0 call fx) [AV.int .i64 0,v1,v2,AV.int .i64 0]
theorem E170 (call:CC) (fx:Fix AV) (a0:AV):evBody (pg.cx call Tryz.f170.ntmps ann170) fx Tryz.f170 (own 170) [a0] = S170 call fx a0:=by kernel_rfl
theorem C170 (a0:AV):callW pg 170 [a0] = isoP (S170 (callW pg) fixW (cl noHs a0)):=(callW_iso hOther rfl rfl rfl _).trans (congrArg isoP (E170 _ _ (cl noHs a0)))
noncomputable def L171_0 (call:CC) (_fx:Fix AV) (v1:List AV→M AV) (v2:List AV):M AV :=
 bnd (lft (binA T .lss 3 (nth v2 3) (nth v2 2))) fun v3 =>
 condM v3 (bnd (lft (indexAddrA T 50 (nth v2 0) (nth v2 3))) fun v4 =>
 bnd (lft (loadA T 105 v4)) fun v5 =>
 bnd (callV call (nth v2 1) [v5]) fun v6 =>
 condM v6 (M.pure (nth v2 3)) (bnd (lft (binA T .add 3 (nth v2 3) (AV.int .i64 1))) fun v7 =>
 v1 [nth v2 0,nth v2 1,nth v2 2,v7])) (M.pure (AV.int .i64 (-1)))
theorem XL171_0 {call:CC}:Cont1 (L171_0 call fixW ) fun _n=>L171_0 call fixW  := by
 intro v1 v1s hself v2
 unfold L171_0
 exact (lb fun _=>(condM_lim (lb fun _=>(lb fun _=>(lb fun _=>(condM_lim (LimM.const _) (lb fun _=>(hself _)))))) (LimM.const _)))
theorem FL171_0 (call:CC) (vs:List AV):fixW (L171_0 call fixW ) vs=L171_0 call fixW  (fixW (L171_0 call fixW )) vs:=fixW_eq (XL171_0 ) vs
noncomputable def S171 (call:CC) (fx:Fix AV) (a0 a1:AV):M AV :=
 bnd (lft (lenA T 50 a0)) fun v0 =>
 fx (L171_0 call fx) [a0,a1,v0,AV.int .i64 0]
theorem E171 (call:CC) (fx:Fix AV) (a0 a1:AV):evBody (pg.cx call Tryz.f171.ntmps ann171) fx Tryz.f171 (own 171) [a0,a1] = S171 call fx a0 a1:=by kernel_rfl
theorem C171 (a0 a1:AV):callW pg 171 [a0,a1] = isoP (S171 (callW pg) fixW (cl noHs a0) (cl noHs a1)):=(callW_iso hOther rfl rfl rfl _).trans (congrArg isoP (E171 _ _ (cl noHs a0) (cl noHs a1)))
noncomputable def S172 (_call:CC) (_fx:Fix AV) (a0 a1:AV):M AV :=
 bnd (lft (fieldAddrA T 105 (AV.ip (acells a0)) 0)) fun v0 =>
 bnd (lft (loadA T 9 v0)) fun v1 =>
 bnd (lft (fieldAddrA T 31 a1 2)) fun v2 =>
 bnd (lft (loadA T 9 v2)) fun v3 =>
 bnd (lft (binA T .eql 9 v1 v3)) fun v4 =>
 M.pure v4
theorem E172 (call:CC) (fx:Fix AV) (a0 a1:AV):evBody (pg.cx call Tryz.f172.ntmps ann172) fx Tryz.f172 (own 172) [a0,a1] = S172 call fx a0 a1:=by kernel_rfl
theorem C172 (a0 a1:AV):callW pg 172 [a0,a1] = isoP (S172 (callW pg) fixW (cl noHs a0) (cl noHs a1)):=(callW_iso hOther rfl rfl rfl _).trans (congrArg isoP (E172 _ _ (cl noHs a0) (cl noHs a1)))
end Go.Proofs.YtnipfhmghjdnmaaGreat

namespace Go.Proofs
open Go.Shelf
def Tryz.laysSort_ren:Go.Shelf.Ren:=⟨fun | 6=>77 | 15=>109 | 14=>108 | 28=>151 | 29=>152 | 20=>143 | 21=>144 | 22=>145 | 23=>146 | 24=>147 | 25=>148 | 26=>149 | 27=>150 | 46=>174 | 47=>175 | 48=>176 | 49=>177 | 50=>178 | 57=>184 | n=>n,fun | 22=>42 | 24=>37 | 25=>124 | 3=>3 | 39=>167 | 0=>0 | 53=>203 | 55=>205 | 4=>4 | 46=>196 | 45=>195 | 50=>200 | 5=>5 | 9=>9 | 66=>215 | 70=>219 | 76=>221 | 77=>222 | n=>n,fun | n=>n⟩
theorem Tryz.laysSort:Go.Proofs.SlLaysF0.n6 Tryz.prog Tryz.laysSort_ren:={
 mixed:=by kernel_rfl
 f6:=⟨Tryz.f77.name,by decide,Tryz.func77.trans (congrArg some (by kernel_rfl))⟩
 f14:=⟨Tryz.f108.name,by decide,Tryz.func108.trans (congrArg some (by kernel_rfl))⟩
 f15:=Tryz.func109.trans (congrArg some (by kernel_rfl))
 f20:=⟨Tryz.f143.name,by decide,Tryz.func143.trans (congrArg some (by kernel_rfl))⟩
 f21:=⟨Tryz.f144.name,by decide,Tryz.func144.trans (congrArg some (by kernel_rfl))⟩
 f22:=⟨Tryz.f145.name,by decide,Tryz.func145.trans (congrArg some (by kernel_rfl))⟩
 f23:=⟨Tryz.f146.name,by decide,Tryz.func146.trans (congrArg some (by kernel_rfl))⟩
 f24:=⟨Tryz.f147.name,by decide,Tryz.func147.trans (congrArg some (by kernel_rfl))⟩
 f25:=⟨Tryz.f148.name,by decide,Tryz.func148.trans (congrArg some (by kernel_rfl))⟩
 f26:=⟨Tryz.f149.name,by decide,Tryz.func149.trans (congrArg some (by kernel_rfl))⟩
 f27:=⟨Tryz.f150.name,by decide,Tryz.func150.trans (congrArg some (by kernel_rfl))⟩
 f28:=Tryz.func151.trans (congrArg some (by kernel_rfl))
 f29:=Tryz.func152.trans (congrArg some (by kernel_rfl))
 f46:=⟨Tryz.f174.name,by decide,Tryz.func174.trans (congrArg some (by kernel_rfl))⟩
 f47:=Tryz.func175.trans (congrArg some (by kernel_rfl))
 f48:=Tryz.func176.trans (congrArg some (by kernel_rfl))
 f49:=⟨Tryz.f177.name,by decide,Tryz.func177.trans (congrArg some (by kernel_rfl))⟩
 f50:=⟨Tryz.f178.name,by decide,Tryz.func178.trans (congrArg some (by kernel_rfl))⟩
 f57:=⟨Tryz.f184.name,by decide,Tryz.func184.trans (congrArg some (by kernel_rfl))⟩
 t0:=Tryz.underlying0
 a0:=Tryz.isAgg0
 z0:=Tryz.sizeOf0
 v0:=Tryz.zeroValue0
 t3:=Tryz.underlying3
 a3:=Tryz.isAgg3
 z3:=Tryz.sizeOf3
 v3:=Tryz.zeroValue3
 t4:=Tryz.underlying4
 a4:=Tryz.isAgg4
 z4:=Tryz.sizeOf4
 v4:=Tryz.zeroValue4
 t5:=Tryz.underlying5
 a5:=Tryz.isAgg5
 z5:=Tryz.sizeOf5
 v5:=Tryz.zeroValue5
 t9:=Tryz.underlying9
 a9:=Tryz.isAgg9
 z9:=Tryz.sizeOf9
 v9:=Tryz.zeroValue9
 t22:=Tryz.underlying42
 a22:=Tryz.isAgg42
 z22:=Tryz.sizeOf42
 v22:=Tryz.zeroValue42
 t25:=Tryz.underlying124
 a25:=Tryz.isAgg124
 z25:=Tryz.sizeOf124
 v25:=Tryz.zeroValue124
 t39:=Tryz.underlying167
 a39:=Tryz.isAgg167
 z39:=Tryz.sizeOf167
 v39:=Tryz.zeroValue167
 t45:=Tryz.underlying195
 a45:=Tryz.isAgg195
 z45:=Tryz.sizeOf195
 v45:=Tryz.zeroValue195
 t46:=Tryz.underlying196
 a46:=Tryz.isAgg196
 z46:=Tryz.sizeOf196
 v46:=Tryz.zeroValue196
 t50:=Tryz.underlying200
 a50:=Tryz.isAgg200
 z50:=Tryz.sizeOf200
 v50:=Tryz.zeroValue200
 t53:=Tryz.underlying203
 a53:=Tryz.isAgg203
 z53:=Tryz.sizeOf203
 v53:=Tryz.zeroValue203
 t55:=Tryz.underlying205
 a55:=Tryz.isAgg205
 z55:=Tryz.sizeOf205
 v55:=Tryz.zeroValue205
 t66:=Tryz.underlying215
 a66:=Tryz.isAgg215
 z66:=Tryz.sizeOf215
 v66:=Tryz.zeroValue215
 t70:=Tryz.underlying219
 a70:=Tryz.isAgg219
 z70:=Tryz.sizeOf219
 v70:=Tryz.zeroValue219
 t76:=Tryz.underlying221
 a76:=Tryz.isAgg221
 z76:=Tryz.sizeOf221
 v76:=Tryz.zeroValue221
 t77:=Tryz.underlying222
 a77:=Tryz.isAgg222
 z77:=Tryz.sizeOf222
 v77:=Tryz.zeroValue222 }
end Go.Proofs

namespace Go.Proofs.YtnipfhmghjdnmaaGreat.C
open Go Go.Av Go.Av.Ap
set_option maxRecDepth 100000
noncomputable def pg:Pg:={ T:=T,funcs:=findF tabF,own:=own,other:=fun _=>none }
theorem hOther:OtherLim pg:=fun f E h=>by cases h
theorem E141 (call:FuncId→List AV→M AV) (fx:Fix AV) (a0:AV):evBody (pg.cx call Tryz.f141.ntmps ann141) fx Tryz.f141 (own 141) [a0] = S141 call fx a0:=by kernel_rfl
theorem C141 (a0:AV):callW pg 141 [a0] = isoP (S141 (callW pg) fixW (cl noHs a0)):=(callW_iso hOther rfl rfl rfl _).trans (congrArg isoP (E141 _ _ (cl noHs a0)))
theorem E106 (call:FuncId→List AV→M AV) (fx:Fix AV) (a0 a1:AV):evBody (pg.cx call Tryz.f106.ntmps ann106) fx Tryz.f106 (own 106) [a0,a1] = S106 call fx a0 a1:=by kernel_rfl
theorem C106 (a0 a1:AV):callW pg 106 [a0,a1] = isoP (S106 (callW pg) fixW (cl noHs a0) (cl noHs a1)):=(callW_iso hOther rfl rfl rfl _).trans (congrArg isoP (E106 _ _ (cl noHs a0) (cl noHs a1)))
theorem E105 (call:FuncId→List AV→M AV) (fx:Fix AV) (a0:AV):evBody (pg.cx call Tryz.f105.ntmps ann105) fx Tryz.f105 (own 105) [a0] = S105 call fx a0:=by kernel_rfl
theorem C105 (a0:AV):callW pg 105 [a0] = isoP (S105 (callW pg) fixW (cl noHs a0)):=(callW_iso hOther rfl rfl rfl _).trans (congrArg isoP (E105 _ _ (cl noHs a0)))
theorem E66 (call:FuncId→List AV→M AV) (fx:Fix AV) (a0 a1:AV):evBody (pg.cx call Tryz.f66.ntmps ann66) fx Tryz.f66 (own 66) [a0,a1] = S66 call fx a0 a1:=by kernel_rfl
theorem C66 (a0 a1:AV):callW pg 66 [a0,a1] = isoP (S66 (callW pg) fixW (cl noHs a0) (cl noHs a1)):=(callW_iso hOther rfl rfl rfl _).trans (congrArg isoP (E66 _ _ (cl noHs a0) (cl noHs a1)))
theorem str_gtr (t:Nat) (a b:Str):binA T .gtr t (.str a) (.str b)=some (.bool !(strLess a b||a == b)):=rfl
def cmpS (x y:Str):Int:=if strLess x y=true then -1 else if strLess y x=true then 1 else 0
theorem t141 (s:Str):callW pg 141 [.str s] = M.pure (.bool false):=by
 rw [C141]
 have e:binA T .neq 9 (.str s) (.str s)=some (.bool !(s == s)):=rfl
 simp [S141,e]
theorem t106 (a b:Str):callW pg 106 [.str a,.str b] = M.pure (.int .i64 (cmpS a b)):=by
 rw [C106]
 unfold cmpS
 cases h1:strLess a b with
 | true=>simp [S106,t141,h1]
 | false =>
  by_cases h2:a=b
  ·subst h2
   simp [S106,t141,strLess_irr,str_gtr]
  ·have h3:=strLess_tot a b h1 h2
   have h4:(a == b)=false:=beq_eq_false_iff_ne.2 h2
   simp [S106,t141,h1,h3,h2,str_gtr]
theorem loop105 (l:List Int) (hb:l.length≤1099511627776):∀ (n:Nat) (i:Int),l.length - i.toNat=n→0≤i→i≤l.length →
  fixW (L105_0 (callW pg) fixW) [.int .i64 0,ints l,.int .i64 l.length,.int .i64 i] = M.pure (.int .i64 (((l.drop i.toNat).find? fun x=>!(x == 0)).getD 0)):=by
 intro n
 induction n with
 | zero =>
  intro i hn hi hl
  rw [FL105_0]
  simp only [L105_0]
  have h1:¬ (i < (l.length:Int)):=by omega
  have h2:l.drop i.toNat = []:=List.drop_eq_nil_of_le (by omega)
  simp [h1,h2]
 | succ n ih =>
  intro i hn hi hl
  have h1:i < (l.length:Int):=by omega
  have hlt:i.toNat < l.length:=by omega
  have h4:=ih (i + 1) (by omega) (by omega) (by omega)
  rw [show (i + 1).toNat=i.toNat + 1 by omega] at h4
  rw [FL105_0,List.drop_eq_getElem_cons hlt]
  simp only [L105_0,List.find?_cons]
  by_cases h0:l[i.toNat] = 0
  ·simp (disch:=omega) [h1,wrap_in,IX45,h4,h0]
  ·have h0':(l[i.toNat] == 0)=false:=beq_eq_false_iff_ne.2 h0
   simp (disch:=omega) [h1,wrap_in,IX45,h0,h0']
theorem t105 (l:List Int) (hb:l.length≤1099511627776):callW pg 105 [ints l] = M.pure (.int .i64 ((l.find? fun x=>!(x == 0)).getD 0)):=by
 rw [C105]
 simp [S105,loop105 l hb l.length 0 rfl (by omega) (by omega)]
theorem t66 (a b:Ref):callW pg 66 [refA a,refA b] = M.pure (.int .i64 (cmpR a b)):=by
 rw [C66]
 have hB:∀ x y:Int,buildSliceA T 45 2 [(0,.int .i64 x),(1,.int .i64 y)] = some (ints [x,y]):=fun x y=>rfl
 have hc:(([cmpS a.1 b.1,cmpS a.2 b.2].find? fun x=>!(x == 0)).getD 0)=cmpR a b:=by
  unfold cmpR cmpS ltR
  have e1:=strLess_irr a.1
  have e2:=strLess_irr a.2
  cases h1:strLess a.1 b.1 with
  | true=>simp
  | false =>
   cases h2:strLess b.1 a.1 with
   | true =>
    have:a.1≠b.1:=fun e=>by rw [e,strLess_irr] at h2; cases h2
    have h3:(a.1 == b.1)=false:=beq_eq_false_iff_ne.2 this
    simp [h3]
   | false =>
    have:a.1=b.1:=by
     by_cases e:a.1=b.1
     ·exact e
     ·have:=strLess_tot _ _ h1 e; rw [this] at h2; cases h2
    have h3:(a.1 == b.1)=true:=beq_iff_eq.2 this
    have h4:(b.1 == a.1)=true:=beq_iff_eq.2 this.symm
    cases h5:strLess a.2 b.2 with
    | true=>simp [h3]
    | false =>
     cases h6:strLess b.2 a.2 <;> simp [h3,h4]
 simp [S66,t106,hB,t105,noPan_pure,hc]
theorem good:@GoodPg ⟨True⟩ Tryz.prog pg:=by
 letI:Dr:=⟨True⟩
 exact ⟨tok,funcs_ok,(fun f E h=>by cases h),(fun f h=>by cases h)⟩
end Go.Proofs.YtnipfhmghjdnmaaGreat.C
namespace Go.Proofs.YtnipfhmghjdnmaaGreat
open Go Go.Av Go.Av.Ap Go.RowKit Go.Sort
set_option maxRecDepth 1000000
theorem gok_sort {w:World} (hg:GOKw w) {blk off n:Nat} {d:Array Ref} {os:Array Obj} (hb:gN≤blk):GOKw (sortWorldK evRef 2 w blk off n d os) :=
 hg.mono fun b hlt=>sort_other evRef 2 off n d os (Nat.lt_of_lt_of_le hlt hg.lt) (by omega)
theorem enters66:∀ args w,(callFunc 66 args).run Tryz.prog w = .ok (.enter 66 args) w:=enters_of Tryz.func66 (by kernel_rfl) rfl
theorem vr_ref (S:Stab) (β:List Blk) (x:Ref):VR S β (refA x) (.agg (evRef x).toArray):=by
 simp only [refA,VR]
 exact ⟨evRef x,rfl,elsRef_ok.vr S β x⟩
theorem cmp66 (x y:Ref) (W:World) (hg:GOKw W):Calls Tryz.prog 66 #[.agg (evRef x).toArray,.agg (evRef y).toArray] W fun e w'=>e = .returned (.int .i64 (cmpR x y))∧∃ q os',w'=grow (W.drewN q) os':=by
 letI:Dr:=⟨True⟩
 have hv:VRs (allS W) [] [refA x,refA y] [.agg (evRef x).toArray,.agg (evRef y).toArray]:=by
  simp only [VRs]
  exact ⟨_,_,rfl,vr_ref _ _ x,_,_,rfl,vr_ref _ _ y,rfl⟩
 have h:=(callW_sound C.good C.hOther 66 [refA x,refA y] [] (allS W) [] W _ (by rw [C.t66]; simp [M.pure]) ⟨hg,fun b _ ho=>by obtain ⟨l,_,_,h1,_⟩:=ho; simp at h1⟩ (fun _ _ _ h=>h) ⟨rfl,fun _=>.no,fun l cs hl=>by simp at hl⟩ hv).1
 rw [C.t66] at h
 refine h.mono fun e w' hp=>?_
 obtain ⟨S',β',v,rfl,hv,L,_⟩:=hp
 simp only [VR] at hv
 subst hv
 exact ⟨rfl,L.grew trivial⟩
theorem agg37:∀ w,(isAgg 37).run Tryz.prog w = .ok true w:=fun w=>by kernel_rfl
theorem size37:∀ w,(Go.sizeOf 37).run Tryz.prog w = .ok 2 w:=fun w=>by kernel_rfl
theorem sort_calls (w:World) (blk off cap:Nat) (d:Array Ref) (hg:GOKw w) (hb:gN≤blk) (hH:HoldsK elsRef.ev elsRef.k w blk off d) (hlt:blk < w.heap.size) (hsz:d.size < 4611686018427387904) :
  Calls Tryz.prog 77 #[.slice (some ⟨blk,off,none⟩) d.size cap,.func (.func 66) #[] #[]] w fun e w'=>e = .returned (.tuple #[])∧∃ n os,w'=sortWorldK elsRef.ev elsRef.k w blk off n (srtRef d.toList).toArray os:=by
 have:=AnyQ.slices_SortFunc_eq Tryz.laysSort 2 agg37 size37 evRef (fun _=>rfl) elsRef_ok.one cmpR swoR 66 #[] blk off cap d w enters66
  (fun m os dk _ x y=>cmp66 x y _ (gok_sort hg hb)) hH hlt hsz
 refine this.mono ?_
 rintro e w' ⟨he,n,os,hw⟩
 refine ⟨he,n,os,?_⟩
 rw [hw]
 unfold srtRef
 simp only [elsRef]
theorem oth77 (call:FuncId→List AV→M AV) (args:List AV) (h:Hp) (S:Stab) (β:List Blk) (w:World) (vs:List Value) (hr:sortRefE 66 call args h ≠ .fail) (hg:GOK β h w) (hw:Wf S w) (hh:HeapX S β w h) (hv:VRs S β args vs) :
  Calls Tryz.prog 77 vs.toArray w (CPost none S β h w (sortRefE 66 call args h)):=by
 by_cases hf:∃ o',args = [.hn,.fn (.func o') [] []]
 ·obtain ⟨o',rfl⟩:=hf
  have e:sortRefE 66 call [.hn,.fn (.func o') [] []] h=(bif Nat.beq o' 66 then R.ok (.tup []) h else R.fail):=rfl
  rw [e] at hr ⊢
  cases hb:Nat.beq o' 66 with
  | false=>rw [hb] at hr; exact absurd rfl hr
  | true =>
   simp only [VRs,VR] at hv
   obtain ⟨_,_,rfl,rfl,v,_,rfl,_,rfl⟩:=hv
   refine (AnyF.slices_SortFunc_none Tryz.laysSort none 0 v w).mono ?_
   rintro e' w' ⟨rfl,rfl⟩
   exact cpost_below hw hh (Below.refl _ _) noDr (by simp only [VR,VRs]; exact ⟨[],rfl,rfl⟩)
 ·have e:sortRefE 66 call args h=sortE elsRef 66 srtRef call args h:=by
   unfold sortRefE
   split
   ·rename_i o'; exact absurd ⟨o',rfl⟩ hf
   ·rfl
  rw [e] at hr ⊢
  have h0:=hr
  unfold sortE at h0
  split at h0
  ·rename_i g'
   cases hb:Nat.beq g' 66 with
   | false=>rw [hb] at h0; exact absurd rfl h0
   | true =>
    have e:sortE elsRef 66 srtRef call [.sl [],.fn (.func g') [] []] h = .ok (.tup []) h:=by simp only [sortE,hb,cond_true]
    rw [e]
    simp only [VRs,VR,List.length_nil] at hv
    obtain ⟨_,_,rfl,⟨a,cap,rfl,_⟩,v,_,rfl,_,rfl⟩:=hv
    refine (AnyF.slices_SortFunc_none Tryz.laysSort a cap v w).mono ?_
    rintro e' w' ⟨rfl,rfl⟩
    exact cpost_below hw hh (Below.refl _ _) noDr (by simp only [VR,VRs]; exact ⟨[],rfl,rfl⟩)
  ·exact sort_hs elsRef_ok call (fun w blk off cap d hg hb hH hlt hsz=>sort_calls w blk off cap d hg hb hH hlt hsz) hr hg hw hh hv
  ·exact absurd rfl h0
end Go.Proofs.YtnipfhmghjdnmaaGreat

namespace Go.Proofs.YtnipfhmghjdnmaaGreat
open Go Go.Av Go.Av.Ap Go.RowKit Go.Shelf Go.Sort
attribute [local go_sem] Oper.semAt_some
set_option maxRecDepth 100000
theorem col_in (F:Fence) (n:Nat) (h2:F.fn 103) (h3:F.fn 140) (hro:F.round=none) (hn:4≤n) (g:Nat) (lb:Array Value) (hFg:F.fn g) (eg:∀ args w,(callFunc g args).run Tryz.prog w = .ok (.enter g args) w) (S Sp:List Row2→Prop) (N:Nat) (hN:N≤1000000) (w:World)
  (hseq:SeqStopsK F (n - 1 - 1) Tryz.prog g lb (fun x:Row2=>#[row2 x]) KeepsWalks S Sp N w) :
  CallsIn F n Tryz.prog 103 #[.func (.func g) #[] lb] w fun e w'=>∃ v ss,e = .returned v∧S ss∧w'.ownsRow w.heap.size 37 2 v ss.length (ss.flatMap cells2)∧(v = .slice none 0 0 ↔ ss = [])∧Below w.heap.size w w':=by
 have h1:1≤n:=by omega
 refine callsIn_of_wp Tryz.func103 rfl h2 ?_ hro
 simp only [Tryz.ntmps103,List.size_toArray,List.length_cons,List.length_nil,Nat.reduceAdd,Nat.reduceSub,Array.replicate_succ,Array.replicate_zero,List.push_toArray,List.append_toArray,List.nil_append,List.cons_append]
 gi_wp2_with (gi_at_call 140; refine (app_in F (n - 1) h3 hro (by omega) g lb hFg eg S Sp N hN _ hseq).mono ?_; rintro e w' ⟨v,ss,rfl,hS,hrow,hnil,hb⟩)
 go_ret
 exact ⟨v,ss,rfl,hS,hrow,hnil,hb⟩
def refOf (x:Row2):Ref:=(x.1.data.toList,x.2.data.toList)
theorem evRef_of (x:Row2):evRef (refOf x)=cells2 x:=by
 simp only [evRef,refOf,cells2,str_eq (rfl:x.1.data.toList=_),str_eq (rfl:x.2.data.toList=_)]
theorem flat_of (ss:List Row2):((ss.map refOf).map evRef).flatten=ss.flatMap cells2:=by
 rw [List.map_map,List.flatMap_def]
 exact congrArg List.flatten (List.map_congr_left fun x _=>evRef_of x)
theorem sort_below {w:World} {b n₀:Nat} (enc:Ref→List Value) (k off n:Nat) (d:Array Ref) (os:Array Obj) (hb:n₀≤b) (hn:n₀≤w.heap.size):Below n₀ w (sortWorldK enc k w b off n d os):=by
 have hg:=sort_gro (w:=w) (b:=b) enc k off n d os
 exact ⟨hg.os,hg.tape,hg.out,hg.size,fun i hi=>sort_other enc k off n d os (by omega) (by omega)⟩
theorem owns_holds {W:World} {base n:Nat} {v:Value} {ss:List Row2} (h:W.ownsRow base 37 2 v n (ss.flatMap cells2)) (hn:n=ss.length) (hne:ss≠[]) :
  ∃ b cap cur,v = .slice (some ⟨b,0,none⟩) n cap∧base≤b∧W.heap[b]? = some (.cells cur 37 (0,0))∧n≤cap∧cur.size=cap * 2∧HoldsK evRef 2 W b 0 (ss.map refOf).toArray:=by
 rcases h.2 with ⟨_,h0⟩ | ⟨b,cap,cur,hv,hb,hc,h1,_,h2,h3⟩
 ·exact absurd (List.length_eq_zero_iff.1 (hn ▸ h0)) hne
 ·refine ⟨b,cap,cur,hv,hb,hc,h1,h2,fun j hj=>?_⟩
  have hfl:=flatK_list evRef 2 (fun _=>rfl) (by decide) (ss.map refOf).toArray
  have hsz:(flatK evRef 2 (ss.map refOf).toArray).size=ss.length * 2:=by rw [size_flatK]; simp
  rw [hsz] at hj
  have hjc:j < cur.size:=by rw [h2]; omega
  have e1:(flatK evRef 2 (ss.map refOf).toArray)[j]! = cur[j]:=by
   have g1:(flatK evRef 2 (ss.map refOf).toArray).toList[j]? = cur.toList[j]?:=by
    rw [hfl,show (ss.map refOf).toArray.toList=ss.map refOf from rfl,flat_of,← h3,List.getElem?_take,if_pos (by omega)]
   rw [Array.getElem?_toList,Array.getElem?_toList,Array.getElem?_eq_getElem (by omega),Array.getElem?_eq_getElem hjc] at g1
   rw [getElem!_pos _ j (by omega)]
   exact Option.some.inj g1
  rw [e1,Nat.zero_add]
  exact ⟨by simp [World.cell?,hc,hjc],by simp [World.frozen?,hc]⟩
set_option maxHeartbeats 1000000 in
theorem sorted_calls (g:Nat) (lb:Array Value) (eg:∀ args w,(callFunc g args).run Tryz.prog w = .ok (.enter g args) w) (S Sp:List Row2→Prop) (N:Nat) (hN:N≤1000000) (hS1:∀ ss,S ss→ss.length=N) (w:World) (hgok:GOKw w)
  (hseq:∀ n,5≤n→SeqStopsK Fence.wide n Tryz.prog g lb (fun x:Row2=>#[row2 x]) KeepsWalks S Sp N w) :
  Calls Tryz.prog 64 #[.func (.func g) #[] lb,.func (.func 66) #[] #[]] w fun e w'=>∃ v ss,e = .returned v∧S ss∧Below w.heap.size w w' ∧
   ((ss = []∧v = .slice none 0 0)∨∃ b cap x,v = .slice (some ⟨b,0,none⟩) ss.length cap∧ss.length≤cap∧w.heap.size≤b∧Row w' b x∧x.size=cap * 2∧x.toList.take (ss.length * 2)=((sortR (ss.map refOf)).map evRef).flatten):=by
 rw [← callsIn_wide (n:=20)]
 have h1:1≤20:=by decide
 have f1:Fence.wide.fn 103:=trivial
 have f2:Fence.wide.fn 77:=trivial
 have hcol:=col_in Fence.wide 19 trivial trivial rfl (by decide) g lb trivial eg S Sp N hN w (hseq _ (by decide))
 refine callsIn_of_wp Tryz.func64 rfl trivial ?_ rfl
 simp only [Tryz.ntmps64,List.size_toArray,List.length_cons,List.length_nil,Nat.reduceAdd,Nat.reduceSub,Array.replicate_succ,Array.replicate_zero,List.push_toArray,List.append_toArray,List.nil_append,List.cons_append]
 gi_wp2_with (gi_at_call 103; refine hcol.mono ?_; rintro e w1 ⟨v,ss,rfl,hS,hrow,hnil,hb⟩)
 by_cases hss:ss = []
 ·have hv:=hnil.2 hss
  subst hv hss
  have hsrt:CallsIn Fence.wide 19 Tryz.prog 77 #[.slice none 0 0,.func (.func 66) #[] #[]] w1 _:=callsIn_wide.2 (AnyF.slices_SortFunc_none Tryz.laysSort none 0 (.func (.func 66) #[] #[]) w1)
  gi_wp2_with (gi_at_call 77; refine hsrt.mono ?_; rintro e w2 ⟨rfl,rfl⟩)
  go_ret
  exact ⟨_,[],rfl,hS,hb,.inl ⟨rfl,rfl⟩⟩
 ·obtain ⟨b,cap,cur,rfl,hbb,hcur,hcap,hcs,hH⟩:=owns_holds hrow rfl hss
  have hbl:b < w1.heap.size:=(Array.getElem?_eq_some_iff.1 hcur).1
  have hsl:ss.length < 4611686018427387904:=by rw [hS1 ss hS]; omega
  have hg1:GOKw w1:=hgok.mono fun k hk=>hb.block k (Nat.lt_of_lt_of_le hk hgok.lt)
  have hsrt0:=sort_calls w1 b 0 cap (ss.map refOf).toArray hg1 (Nat.le_trans hgok.lt hbb) hH hbl (by simpa using hsl)
  rw [show (ss.map refOf).toArray.size=ss.length by simp] at hsrt0
  have hsrt:CallsIn Fence.wide 19 Tryz.prog 77 #[.slice (some ⟨b,0,none⟩) ss.length cap,.func (.func 66) #[] #[]] w1 _:=callsIn_wide.2 hsrt0
  gi_wp2_with (gi_at_call 77; refine hsrt.mono ?_; rintro e w2 ⟨rfl,m,os,rfl⟩)
  go_ret
  have hrow1:Row w1 b cur:=⟨_,hcur⟩
  rw [srtRef_eq]
  have hlen:(sortR (ss.map refOf)).length=ss.length:=by rw [sortR_len]; simp
  have hfl:=flatK_list evRef 2 (fun _=>rfl) (by decide) (sortR (ss.map refOf)).toArray
  have hfs:(flatK evRef 2 (sortR (ss.map refOf)).toArray).size=ss.length * 2:=by rw [size_flatK]; simp [hlen]
  have hr2:=sort_row hrow1 evRef 2 0 m (sortR (ss.map refOf)).toArray os (by rw [hcs]; simp [hlen]; omega)
  refine ⟨_,ss,rfl,hS,hb.trans (sort_below evRef 2 0 m _ os hbb hb.size),.inr ⟨b,cap,_,rfl,hcap,hbb,hr2,?_,?_⟩⟩
  ·simp only [List.take_zero,List.nil_append,Nat.zero_add,List.size_toArray,List.length_append,Array.length_toList,List.length_drop,hfs,hcs]
   omega
  ·have hll:(flatK evRef 2 (sortR (ss.map refOf)).toArray).toList.length=ss.length * 2:=by rw [Array.length_toList]; exact hfs
   show List.take (ss.length * 2) (List.take 0 _++_++_)=_
   rw [List.take_zero,List.nil_append]
   refine (List.take_append_of_le_length (Nat.le_of_eq hll.symm)).trans ?_
   refine (List.take_of_length_le (Nat.le_of_eq hll)).trans hfl
theorem keyR_vr {S:Stab} {β:List Blk}:{es:List AV} → {ents:List MapEntry} → {ks:List Ref} → EntsR S β es ents→es.mapM keyR=some ks→∃ rs:List Row2,rs.map refOf=ks∧ents.map (·.key)=rs.map row2:=by
 intro es
 induction es with
 | nil =>
  intro ents ks h hk
  have hl:=h.1
  simp at hl hk
  subst hk
  cases ents with
  | nil=>exact ⟨[],rfl,rfl⟩
  | cons x r=>simp at hl
 | cons e es ih =>
  intro ents ks h hk
  cases ents with
  | nil=>have:=h.1; simp at this
  | cons x ents =>
   rw [List.mapM_cons] at hk
   cases h1:keyR e with
   | none=>rw [h1] at hk; cases hk
   | some k =>
    cases h2:es.mapM keyR with
    | none=>rw [h1,h2] at hk; cases hk
    | some ks' =>
     rw [h1,h2] at hk
     simp only [Option.pure_def,Option.bind_eq_bind,Option.bind_some,Option.some.injEq] at hk
     subst hk
     obtain ⟨rs,hr1,hr2⟩:=ih (ents:=ents) ⟨by have:=h.1; simpa using this,fun i a y ha hy=>h.2 (i + 1) a y (by simpa using ha) (by simpa using hy)⟩ h2
     obtain ⟨kk,vv,rfl,hkk,_⟩:=h.2 0 e x rfl rfl
     unfold keyR at h1
     split at h1
     ·rename_i a b v he
      simp only [AV.tup.injEq,List.cons.injEq,and_true] at he
      obtain ⟨rfl,rfl⟩:=he
      simp only [Option.some.injEq] at h1
      subst h1
      simp only [VR,VRs] at hkk
      obtain ⟨_,hx,_,_,rfl,⟨y1,rfl,hy1⟩,_,_,rfl,⟨y2,rfl,hy2⟩,rfl⟩:=hkk
      refine ⟨(y1,y2) :: rs,?_,?_⟩
      ·simp only [List.map_cons,refOf,hy1,hy2,hr1]
      ·simp only [List.map_cons,hr2,hx,row2]
     ·cases h1
theorem vr_refs {S:Stab} {β:List Blk} {b cap:Nat} {x:Array Value} {l:List Ref} (hl:l.length≤cap) (hx:x.size=cap * 2) (ht:x.toList.take (l.length * 2)=(l.map evRef).flatten) :
  VR (S.withRowTo b x.size x) β (refsA l) (.slice (some ⟨b,0,none⟩) l.length cap):=by
 simp only [refsA,VR,List.length_map]
 refine ⟨some ⟨b,0,none⟩,cap,rfl,hl,(fun h=>by cases h),fun q hq=>?_⟩
 simp only [Option.some.injEq] at hq
 subst hq
 refine ⟨fun _=>rfl,2,.of_get fun i e he=>?_⟩
 rw [List.getElem?_map] at he
 cases hi:l[i]? with
 | none=>rw [hi] at he; cases he
 | some r =>
  rw [hi] at he
  simp only [Option.map_some,Option.some.injEq] at he
  subst he
  have hil:=lt_of_get hi
  refine ⟨.agg (evRef r).toArray,vr_ref _ _ r,rfl,fun j v hj=>?_⟩
  have hj2:j < 2:=by
   have:=lt_of_get hj
   simpa [Value.cells,evRef] using this
  have hg:(l.map evRef).flatten[i * 2 + j]? = some v:=by
   rw [flatten_get evRef 2 (fun _=>rfl) (by decide),show (i * 2 + j) / 2=i by omega,show (i * 2 + j) % 2=j by omega,hi]
   simpa [Value.cells] using hj
  rw [← ht,List.getElem?_take,if_pos (by omega),Array.getElem?_toList] at hg
  unfold Stab.withRowTo
  dsimp only
  rw [if_pos rfl,if_pos (by omega),Nat.zero_add]
  exact hg
theorem oth64 (call:FuncId→List AV→M AV) (args:List AV) (h:Hp) (S:Stab) (β:List Blk) (w:World) (vs:List Value) (hr:sortedE [104,173] 66 call args h ≠ .fail) (hg:GOK β h w) (hw:Wf S w) (hh:HeapX S β w h) (hv:VRs S β args vs) :
  Calls Tryz.prog 64 vs.toArray w (CPost none S β h w (sortedE [104,173] 66 call args h)):=by
 unfold sortedE at hr ⊢
 split at hr
 ·rename_i g x o'
  cases hb:memN [104,173] g&&Nat.beq 66 o' with
  | false=>rw [hb] at hr; exact absurd rfl hr
  | true =>
   rw [hb] at hr
   simp only [cond_true] at hr ⊢
   cases hes:entsA h x with
   | none=>rw [hes] at hr; exact absurd rfl hr
   | some es =>
    rw [hes] at hr
    simp only at hr ⊢
    cases hks:es.mapM keyR with
    | none=>rw [hks] at hr; exact absurd rfl hr
    | some ks =>
     rw [hks] at hr
     simp only at hr ⊢
     by_cases hlen:ks.length≤1000000
     ·rw [if_pos hlen] at hr ⊢
      simp only [Bool.and_eq_true] at hb
      have ho:o'=66:=(Nat.eq_of_beq_eq_true hb.2).symm
      subst ho
      simp only [VRs,VR] at hv
      obtain ⟨_,_,rfl,⟨_,_,rfl,rfl,_,_,rfl,⟨Bm,Bo,cs,rfl,⟨xv,_,rfl,hxv,rfl⟩,hcell⟩,rfl⟩,_,_,rfl,⟨_,_,rfl,rfl,rfl⟩,rfl⟩:=hv
      have hBs:S Bm Bo=some xv:=hcell 0 xv rfl
      have hBc:=hw _ _ _ hBs
      have hBl:=hw.lt hBs
      have hh0:=hh
      obtain ⟨_,ω,hH⟩:=hh
      have hkeys:∃ rs:List Row2,rs.map refOf=ks∧((w.cell? ⟨Bm,Bo,none⟩=some (.map none)∧rs = [])∨∃ b es clock,w.cell? ⟨Bm,Bo,none⟩=some (.map (some b))∧w.heap[b]? = some (.map es clock)∧Stamps es.toList clock∧es.toList.map (·.key)=rs.map row2):=by
       unfold entsA at hes
       split at hes
       ·rename_i l
        split at hes
        ·rename_i es' hl
         simp only [Option.some.injEq] at hes
         subst hes
         simp only [VR] at hxv
         obtain ⟨⟨b,z⟩,hbl,h0,rfl⟩:=hxv
         simp only at h0
         subst h0
         obtain ⟨ents,clock,g1,g2,g3,_⟩:=hH.mapRow hl hbl
         obtain ⟨rs,r1,r2⟩:=keyR_vr g2 hks
         exact ⟨rs,r1,.inr ⟨b,ents,clock,hBc,g1,g3,r2⟩⟩
        ·cases hes
       ·simp only [Option.some.injEq] at hes
        subst hes
        simp only [VR] at hxv
        subst hxv
        simp at hks
        subst hks
        exact ⟨[],rfl,.inl ⟨hBc,rfl⟩⟩
       ·cases hes
      obtain ⟨rs,hrs,hc⟩:=hkeys
      have hgen:∀ g',(∀ args w,(callFunc g' args).run Tryz.prog w = .ok (.enter g' args) w) →
        (∀ n,5≤n→SeqStopsK Fence.wide n Tryz.prog g' #[.pointer (some ⟨Bm,Bo,none⟩)] (fun x:Row2=>#[row2 x]) KeepsWalks (fun ss=>ss.Perm rs) (fun _=>True) rs.length w) →
        Calls Tryz.prog 64 #[.func (.func g') #[] #[.pointer (some ⟨Bm,Bo,none⟩)],.func (.func 66) #[] #[]] w (CPost none S β h w (.ok (refsA (sortR ks)) h)):=by
       intro g' eg hseq
       refine (sorted_calls g' _ eg _ _ rs.length (by rw [← hrs] at hlen; simpa using hlen) (fun ss hs=>hs.length_eq) w hg.1 hseq).mono ?_
       rintro e w' ⟨v,ss,rfl,hS,hB,hres⟩
       have hso:sortR ks=sortR (ss.map refOf):=by rw [← hrs]; exact sortR_of_perm (hS.map refOf).symm
       rcases hres with ⟨rfl,rfl⟩ | ⟨b,cap,y,rfl,h1,h2,h3,h4,h5⟩
       ·refine cpost_below hw hh0 hB noDr ?_
        rw [hso]
        simp only [List.map_nil,sortR,refsA,VR,List.length_nil]
        exact ⟨none,0,rfl,Nat.le_refl _,fun _=>rfl,fun q hq=>by cases hq⟩
       ·have hl2:(sortR (ss.map refOf)).length=ss.length:=by rw [sortR_len]; simp
        refine cpost_row hw hh0 hB noDr h3 h2 ?_
        rw [hso]
        have:=vr_refs (S:=S) (β:=β) (b:=b) (cap:=cap) (x:=y) (l:=sortR (ss.map refOf)) (by omega) h4 (by rw [hl2]; exact h5)
        rw [hl2] at this
        exact this
      have hg2:g=104∨g=173:=by
       have:=hb.1
       simp only [memN] at this
       cases h1:Nat.beq 104 g with
       | true=>exact .inl (Nat.eq_of_beq_eq_true h1).symm
       | false =>
        rw [h1] at this
        cases h2:Nat.beq 173 g with
        | true=>exact .inr (Nat.eq_of_beq_eq_true h2).symm
        | false=>rw [h2] at this; cases this
      rcases hg2 with rfl | rfl
      ·exact hgen 104 (enters_of Tryz.func104 (by kernel_rfl) rfl) fun n hn=>keys104_stops Fence.wide n trivial rfl (by omega) Bm Bo rs w hBl hc
      ·exact hgen 173 (enters_of Tryz.func173 (by kernel_rfl) rfl) fun n hn=>keys173_stops Fence.wide n trivial rfl (by omega) Bm Bo rs w hBl hc
     ·rw [if_neg hlen] at hr; exact absurd rfl hr
 ·exact absurd rfl hr
end Go.Proofs.YtnipfhmghjdnmaaGreat

namespace Go.Proofs.YtnipfhmghjdnmaaGreat
open Go Go.Av
set_option maxRecDepth 100000
noncomputable def cx0 (n:Nat) (a:Ann):Cx:={ T:=T,call:=fun _ _=>M.fail,own:=own,iso:=fun _=>false,nw:=fun _=>false,nt:=n,ann:=a }
theorem cx0_calls (n:Nat) (a:Ann):CallsOK Tryz.prog (cx0 n a).own (cx0 n a).call:=fun _f _args _h _S _β _w _vs hr=>absurd rfl hr
theorem cx0_iso (n:Nat) (a:Ann):IsoCall (cx0 n a):=⟨fun _f _args h=>Bool.noConfusion h,fun _f _args h=>Bool.noConfusion h⟩
theorem e100a (e:AV) (es:List AV):evBody (cx0 Tryz.f100.ntmps ann100) (fixM 0) Tryz.f100 none [.sl (e :: es)] = bnd (appH T 61 true (.sl []) (.sl (e :: es))) fun v=>bnd (lft (some v)) M.pure:=by kernel_rfl
theorem e100b:evBody (cx0 Tryz.f100.ntmps ann100) (fixM 0) Tryz.f100 none [.hn] = bnd (lft (some (.sl []))) M.pure:=by kernel_rfl
theorem e100c (l off:Nat):evBody (cx0 Tryz.f100.ntmps ann100) (fixM 0) Tryz.f100 none [.hs l off 0 1 false] = bnd (appH T 61 true (.sl []) (.hs l off 0 1 false)) fun v=>bnd (lft (some v)) M.pure:=by kernel_rfl
theorem e169a (e:AV) (es:List AV):evBody (cx0 Tryz.f169.ntmps ann169) (fixM 0) Tryz.f169 none [.sl (e :: es)] = bnd (lft (appA T 28 (.sl []) (.sl (e :: es)))) fun v=>bnd (lft (some v)) M.pure:=by kernel_rfl
theorem e169b:evBody (cx0 Tryz.f169.ntmps ann169) (fixM 0) Tryz.f169 none [.hn] = bnd (lft (some (.sl []))) M.pure:=by kernel_rfl
theorem e169c (l off:Nat):evBody (cx0 Tryz.f169.ntmps ann169) (fixM 0) Tryz.f169 none [.hs l off 0 1 false] = bnd (lft (appA T 28 (.sl []) (.hs l off 0 1 false))) fun v=>bnd (lft (some v)) M.pure:=by kernel_rfl
theorem e169d (l off:Nat):appA T 28 (.sl []) (.hs l off 0 1 false)=some (.sl []):=by rfl
theorem oth100 (call:FuncId→List AV→M AV) (args:List AV) (h:Hp) (S:Stab) (β:List Blk) (w:World) (vs:List Value) (hr:cloneH T 61 call args h ≠ .fail) (hg:GOK β h w) (hw:Wf S w) (hh:HeapX S β w h) (hv:VRs S β args vs) :
  Calls Tryz.prog 100 vs.toArray w (CPost none S β h w (cloneH T 61 call args h)):=by
 have key:∀ es,args = [.sl es]→Calls Tryz.prog 100 vs.toArray w (CPost none S β h w (cloneH T 61 call args h)):=by
  rintro es rfl
  exact (clone_sound (cx:=cx0 Tryz.f100.ntmps ann100) (E:=fun es h=>cloneH T 61 call [.sl es] h) tok (cx0_calls _ _) (cx0_iso _ _) Tryz.func100 rfl (fun h=>by rfl) (fun e es h=>by rw [e100a]; exact congrFun (bnd_id _) h) (fun h=>by rw [e100b]; rfl) (fun l off h=>by rw [e100c]; rfl) hr hg hw hh hv).1
 unfold cloneH at hr
 split at hr
 ·exact key _ rfl
 ·exact absurd rfl hr
theorem oth169 (call:FuncId→List AV→M AV) (args:List AV) (h:Hp) (S:Stab) (β:List Blk) (w:World) (vs:List Value) (hr:cloneV T 28 call args h ≠ .fail) (hg:GOK β h w) (hw:Wf S w) (hh:HeapX S β w h) (hv:VRs S β args vs) :
  Calls Tryz.prog 169 vs.toArray w (CPost none S β h w (cloneV T 28 call args h)):=by
 have key:∀ es,args = [.sl es]→Calls Tryz.prog 169 vs.toArray w (CPost none S β h w (cloneV T 28 call args h)):=by
  rintro es rfl
  exact (clone_sound (cx:=cx0 Tryz.f169.ntmps ann169) (E:=fun es h=>cloneV T 28 call [.sl es] h) tok (cx0_calls _ _) (cx0_iso _ _) Tryz.func169 rfl (fun h=>by rfl) (fun e es h=>by rw [e169a]; exact congrFun (bnd_id _) h) (fun h=>by rw [e169b]; rfl) (fun l off h=>by rw [e169c,e169d]; rfl) hr hg hw hh hv).1
 unfold cloneV at hr
 split at hr
 ·exact key _ rfl
 ·exact absurd rfl hr
end Go.Proofs.YtnipfhmghjdnmaaGreat

namespace Go.Proofs.YtnipfhmghjdnmaaGreat
open Go Go.Av
set_option maxRecDepth 100000
def TryOK:Prop:=∀ call,CallsOK Tryz.prog own call→∀ (args:List AV) (h:Hp) (S:Stab) (β:List Blk) (w:World) (vs:List Value),tryE 69 .i64 (.agg [.int .i64 0,.int .i64 0,.sl [],.sl []]) call args h ≠ .fail→GOK β h w→Wf S w→HeapX S β w h→VRs S β args vs →
 Calls Tryz.prog 88 vs.toArray w (CPost none S β h w (tryE 69 .i64 (.agg [.int .i64 0,.int .i64 0,.sl [],.sl []]) call args h))
end Go.Proofs.YtnipfhmghjdnmaaGreat

namespace Go.Proofs.YtnipfhmghjdnmaaGreat
open Go Go.Av
theorem catch_idle (p q:Addr) (w:World):CallsD Tryz.prog 117 #[.pointer (some p),.pointer (some q)] .returning w fun e u' w'=>e = .returned (.tuple #[])∧u' = .returning∧w'=w:=by
 refine callsD_of_wpS Tryz.func117 rfl fun c₀ cs hu=>?_
 apply wpS_seq
 apply wpS_region
 simp [wpOpsS,go_sem,recoverD,hu,Tryz.ntmps117,Exit.thenS]
 refine wpS_of_wp ?_
 go_wp2
 cases c₀
 simp_all [bodyPostS,results,Tryz.results117]
theorem assert33 (n:Int) (w:World):(Instr.typeAssert (.iface 69 (.int .i64 n)) 20 69 true).run Tryz.prog w = .ok (.tuple #[.int .i64 n,.bool true]) w:=by kernel_rfl
theorem buildV (w:World):(Instr.build 71 #[]).run Tryz.prog w = .ok (.agg #[.int .i64 0,.int .i64 0,.slice none 0 0,.slice none 0 0]) w:=by
 obtain ⟨v,h1,h2⟩:=build_ok (P:=Tryz.prog) (T:=T) (w:=w) (S:=fun _ _=>none) (β:=[]) (told:=true) (t:=71) (parts:=[]) (r:=.agg [.int .i64 0,.int .i64 0,.hn,.hn]) (qs:=#[]) tok rfl rfl
 rw [h1]
 simp only [VR,VRs] at h2
 obtain ⟨vs,rfl,a,_,rfl,rfl,b,_,rfl,rfl,c,_,rfl,rfl,d,_,rfl,rfl,rfl⟩:=h2
 rfl
set_option maxHeartbeats 4000000 in
set_option maxRecDepth 100000 in
theorem catch_pan (b c:Nat) (x0 x1 x2 x3 y0:Value) (n:Int) (w:World) (c0:w.cell? ⟨b,0,none⟩=some x0) (c1:w.cell? ⟨b,1,none⟩=some x1) (c2:w.cell? ⟨b,2,none⟩=some x2) (c3:w.cell? ⟨b,3,none⟩=some x3)
  (d0:w.cell? ⟨c,0,none⟩=some y0) (f0:w.frozen? ⟨b,0,none⟩=false) (f1:w.frozen? ⟨b,1,none⟩=false) (f2:w.frozen? ⟨b,2,none⟩=false) (f3:w.frozen? ⟨b,3,none⟩=false) (g0:w.frozen? ⟨c,0,none⟩=false) (_hne:¬ b=c) (hne':¬ c=b) :
  CallsD Tryz.prog 117 #[.pointer (some ⟨b,0,none⟩),.pointer (some ⟨c,0,none⟩)] (.panicking [{ v:=.iface 69 (.int .i64 n),recovered:=false }]) w fun e u' w' =>
   e = .returned (.tuple #[])∧u' = .panicking [{ v:=.iface 69 (.int .i64 n),recovered:=true }]∧w'=((((w.setCell ⟨b,0,none⟩ (.int .i64 0)).setCell ⟨b,1,none⟩ (.int .i64 0)).setCell ⟨b,2,none⟩ (.slice none 0 0)).setCell ⟨b,3,none⟩ (.slice none 0 0)).setCell ⟨c,0,none⟩ (.int .i64 n):=by
 refine callsD_of_wpS Tryz.func117 rfl fun c₀ cs hu=>?_
 apply wpS_seq
 apply wpS_region
 simp [wpOpsS,go_sem,recoverD,hu,Tryz.ntmps117,Exit.thenS]
 refine wpS_of_wp ?_
 have h1:=assert33 n
 have h2:=buildV
 go_wp2
 cases c₀
 simp_all [bodyPostS,results,Tryz.results117]
end Go.Proofs.YtnipfhmghjdnmaaGreat

namespace Go.Proofs.YtnipfhmghjdnmaaGreat
open Go Go.Av
set_option maxRecDepth 100000
def tryW (w:World):World:=(w.alloc (Obj.cells #[Value.int IntKind.i64 0,Value.int IntKind.i64 0,Value.slice none 0 0,Value.slice none 0 0] 71)).alloc (Obj.cells #[Value.int IntKind.i64 0] 69)
def tryS (w w':World) (u0 u1 u2 u3 e:Value):World:=((((w'.setCell ⟨w.heap.size,0,none⟩ u0).setCell ⟨w.heap.size,1,none⟩ u1).setCell ⟨w.heap.size,2,none⟩ u2).setCell ⟨w.heap.size,3,none⟩ u3).setCell ⟨w.heap.size + 1,0,none⟩ e
def tryR (w:World) (R:Ending→World→Prop):Ending→World→Prop:=fun e w' =>
 w'.heap[w.heap.size]? = (tryW w).heap[w.heap.size]? ∧ w'.heap[w.heap.size + 1]? = (tryW w).heap[w.heap.size + 1]? ∧
 ((∃ u0 u1 u2 u3:Value,u0.oneCell'=true∧u1.oneCell'=true∧u2.oneCell'=true∧u3.oneCell'=true∧e = .returned (.agg #[u0,u1,u2,u3])∧R (.returned (.tuple #[.agg #[u0,u1,u2,u3],.int .i64 0])) (tryS w w' u0 u1 u2 u3 (.int .i64 0))) ∨
  ∃ n,e = .panicked [{ v:=.iface 69 (.int .i64 n),recovered:=false }]∧R (.returned (.tuple #[.agg #[.int .i64 0,.int .i64 0,.slice none 0 0,.slice none 0 0],.int .i64 n])) (tryS w w' (.int .i64 0) (.int .i64 0) (.slice none 0 0) (.slice none 0 0) (.int .i64 n)))
set_option maxHeartbeats 4000000 in
theorem try_walk (g:FuncId) (x y:Array Value) (w:World) (R:Ending→World→Prop) (hfn:(Tryz.prog.funcs[g]?).any (fun fn=>fn.body.isSome && !(fn.name == "runtime.NumGoroutine"))=true)
  (hc:Calls Tryz.prog g (x++y) (tryW w) (tryR w R)):Calls Tryz.prog 88 #[.func (.func g) x y] w R:=by
 have hmf:∀ (fn:Fn) (first cap:Array Value) (w:World),(Instr.makeFunc fn first cap).run Tryz.prog w = .ok (.func fn first cap) w:=fun _ _ _ _=>rfl
 go_enter_defers Tryz.func88,Tryz.ntmps88
 go_wp2
 rw [callFunc_run hfn,Oper.upon_enter]
 refine hc.mono fun e w' h=>?_
 obtain ⟨k0,k1,h⟩:=h
 have r0:w'.heap[w.heap.size]? = some (.cells #[Value.int IntKind.i64 0,Value.int IntKind.i64 0,Value.slice none 0 0,Value.slice none 0 0] 71):=by rw [k0]; exact (Go.Av.alloc_old _ _ (by simp)).trans (heap_alloc_new w _)
 have r1:w'.heap[w.heap.size + 1]? = some (.cells #[Value.int IntKind.i64 0] 69):=by rw [k1]; have:=heap_alloc_new (w.alloc (Obj.cells #[Value.int IntKind.i64 0,Value.int IntKind.i64 0,Value.slice none 0 0,Value.slice none 0 0] 71)) (Obj.cells #[Value.int IntKind.i64 0] 69); rwa [World.size_alloc] at this
 have c0:w'.cell? ⟨w.heap.size,0,none⟩=some (.int .i64 0):=by simp [World.cell?,r0]
 have c1:w'.cell? ⟨w.heap.size,1,none⟩=some (.int .i64 0):=by simp [World.cell?,r0]
 have c2:w'.cell? ⟨w.heap.size,2,none⟩=some (.slice none 0 0):=by simp [World.cell?,r0]
 have c3:w'.cell? ⟨w.heap.size,3,none⟩=some (.slice none 0 0):=by simp [World.cell?,r0]
 have d0:w'.cell? ⟨w.heap.size + 1,0,none⟩=some (.int .i64 0):=by simp [World.cell?,r1]
 have f0:w'.frozen? ⟨w.heap.size,0,none⟩=false:=by simp [World.frozen?,r0]
 have f1:w'.frozen? ⟨w.heap.size,1,none⟩=false:=by simp [World.frozen?,r0]
 have f2:w'.frozen? ⟨w.heap.size,2,none⟩=false:=by simp [World.frozen?,r0]
 have f3:w'.frozen? ⟨w.heap.size,3,none⟩=false:=by simp [World.frozen?,r0]
 have g0:w'.frozen? ⟨w.heap.size + 1,0,none⟩=false:=by simp [World.frozen?,r1]
 clear k0 k1 r0 r1 hc hmf
 rcases h with ⟨u0,u1,u2,u3,o0,o1,o2,o3,rfl,hR⟩ | ⟨n,rfl,hR⟩
 ·simp only
  rename_i K1 hK1 K hK
  apply hK
  clear hK
  have hK1':=hK1
  clear hK1
  have s0:∀ a m (w:World),(store a u0 m).run Tryz.prog w=stored Tryz.prog w a u0 m:=fun a m w=>run_store _ w a u0 m o0
  have s1:∀ a m (w:World),(store a u1 m).run Tryz.prog w=stored Tryz.prog w a u1 m:=fun a m w=>run_store _ w a u1 m o1
  have s2:∀ a m (w:World),(store a u2 m).run Tryz.prog w=stored Tryz.prog w a u2 m:=fun a m w=>run_store _ w a u2 m o2
  have s3:∀ a m (w:World),(store a u3 m).run Tryz.prog w=stored Tryz.prog w a u3 m:=fun a m w=>run_store _ w a u3 m o3
  go_wp2
  change Leaves _ _ _ _ _ _ _
  refine leaves_cons (f:=117) (args:=#[.pointer (some ⟨w.heap.size,0,none⟩),.pointer (some ⟨w.heap.size + 1,0,none⟩)]) (by simp) (by simp [go_sem]) ?_
  refine (catch_idle ⟨w.heap.size,0,none⟩ ⟨w.heap.size + 1,0,none⟩ _).mono ?_
  rintro e u' w'' ⟨rfl,rfl,rfl⟩
  simp only [Leaves,settle]
  refine ⟨_,?_,hR⟩
  simp [results,Tryz.results88,go_sem,World.cell?_setCell_same,c0,c1,c2,c3,d0]
 ·change Leaves _ _ _ _ _ _ _
  refine leaves_cons (f:=117) (args:=#[.pointer (some ⟨w.heap.size,0,none⟩),.pointer (some ⟨w.heap.size + 1,0,none⟩)]) (by simp) (by simp [go_sem]) ?_
  refine (catch_pan w.heap.size (w.heap.size + 1) _ _ _ _ _ n w' c0 c1 c2 c3 d0 f0 f1 f2 f3 g0 (by omega) (by omega)).mono ?_
  rintro e u' w'' ⟨rfl,rfl,rfl⟩
  simp only [settle]
  refine ⟨_,?_,hR⟩
  simp [results,Tryz.results88,go_sem,World.cell?_setCell_same,c0,c1,c2,c3,d0]
end Go.Proofs.YtnipfhmghjdnmaaGreat

namespace Go.Proofs.YtnipfhmghjdnmaaGreat
open Go Go.Av
set_option maxRecDepth 100000
theorem tryW_size (w:World):(tryW w).heap.size=w.heap.size + 2:=by simp [tryW]
theorem tryW_old (w:World) (b:Nat) (hb:b < w.heap.size):(tryW w).heap[b]? = w.heap[b]?:=by
 unfold tryW
 rw [Go.Av.alloc_old _ _ (by simp; omega),Go.Av.alloc_old _ _ hb]
theorem tryW_gro (w:World):Gro w (tryW w):=(Gro.alloc w _ _).trans (Gro.alloc _ _ _)
theorem tryS_gro (w w':World) (u0 u1 u2 u3 e:Value):Gro w' (tryS w w' u0 u1 u2 u3 e) :=
 ((((Gro.setCell _ _ _).trans (Gro.setCell _ _ _)).trans (Gro.setCell _ _ _)).trans (Gro.setCell _ _ _)).trans (Gro.setCell _ _ _)
theorem tryS_same (w w':World) (u0 u1 u2 u3 e:Value) (b:Nat) (hb:¬ (w.heap.size≤b∧b < (tryW w).heap.size)):(tryS w w' u0 u1 u2 u3 e).heap[b]? = w'.heap[b]?:=by
 rw [tryW_size] at hb
 unfold tryS
 rw [setCell_heap (by simp; omega),setCell_heap (by simp; omega),setCell_heap (by simp; omega),setCell_heap (by simp; omega),setCell_heap (by simp; omega)]
theorem callV_inv {call:FuncId→List AV→M AV} {f:AV} {xs:List AV} {h:Hp} (hr:callV call f xs h ≠ .fail):∃ g a c,f = .fn (.func g) a c:=by
 unfold callV at hr
 split at hr
 ·exact ⟨_,_,_,rfl⟩
 ·exact absurd rfl hr
theorem try_ok:TryOK:=by
 intro call hC args h S β w vs hr hg hw hh hv
 have key:∀ f,args = [f]→Calls Tryz.prog 88 vs.toArray w (CPost none S β h w (tryE 69 .i64 (.agg [.int .i64 0,.int .i64 0,.sl [],.sl []]) call args h)):=by
  rintro f rfl
  have ht:tryE 69 .i64 (.agg [.int .i64 0,.int .i64 0,.sl [],.sl []]) call [f] h=tryP 69 .i64 (.agg [.int .i64 0,.int .i64 0,.sl [],.sl []]) (callV call f [] h):=rfl
  rw [ht] at hr ⊢
  clear ht
  simp only [VRs] at hv
  obtain ⟨fv,_,rfl,hv,rfl⟩:=hv
  have hne:callV call f [] h ≠ .fail:=fun e=>by rw [e] at hr; exact hr rfl
  obtain ⟨g,a,c,rfl⟩:=callV_inv hne
  ·have hcv:callV call (.fn (.func g) a c) [] h=call g (a++[]++c) h:=rfl
   rw [hcv] at hr hne ⊢
   simp only [VR] at hv
   obtain ⟨x,y,rfl,hx,hy⟩:=hv
   have hold:=tryW_old w
   have hv2:VRs S β (a++[]++c) (x++y):=by simpa using hx.append hy
   obtain ⟨hcall,hfn⟩:=hC g (a++[]++c) h S β (tryW w) (x++y) hne ⟨hg.1.mono fun b hb=>hold b (Nat.lt_of_lt_of_le hb hg.1.lt),hg.2⟩ (hw.grow hold) (hh.grow hold) hv2
   refine try_walk g x.toArray y.toArray w _ hfn ?_
   have e:(x++y).toArray=x.toArray++y.toArray:=by simp
   rw [← e]
   refine hcall.mono fun en w' hp=>?_
   have kk:∀ S' β' h',Go.Av.Left (HOwn β h) S β (tryW w) S' β' w' h'→w'.heap[w.heap.size]? = (tryW w).heap[w.heap.size]? ∧ w'.heap[w.heap.size + 1]? = (tryW w).heap[w.heap.size + 1]?:=fun S' β' h' L =>
    ⟨(L.keep _ (by rw [tryW_size]; omega) fun ho=>by have:=hh.low ho; omega).1,(L.keep _ (by rw [tryW_size]; omega) fun ho=>by have:=hh.low ho; omega).1⟩
   generalize call g (a++[]++c) h=r at hr hne hp ⊢
   cases r with
   | fail=>exact absurd rfl hne
   | ok v h' =>
    obtain ⟨S',β',u,rfl,hu,L,_⟩:=hp
    refine ⟨(kk _ _ _ L).1,(kk _ _ _ L).2,.inl ?_⟩
    simp only [tryP] at hr ⊢
    cases hok:okEl 4 v with
    | false=>rw [hok] at hr; exact absurd rfl hr
    | true =>
     obtain ⟨g1,g2,g3⟩:=okEl_ok hok hu
     have hcs:∃ cs,v = .agg cs:=by
      simp only [okEl,Bool.and_eq_true] at hok
      have h1:=hok.1
      cases v <;> simp [sizeA] at h1
      exact ⟨_,rfl⟩
     obtain ⟨cs,rfl⟩:=hcs
     simp only [VR] at hu
     obtain ⟨us,rfl,hus⟩:=hu
     simp only [Value.cells] at g1 g3
     match us,g1 with
     | [u0,u1,u2,u3],_ =>
      refine ⟨u0,u1,u2,u3,g3 u0 (by simp),g3 u1 (by simp),g3 u2 (by simp),g3 u3 (by simp),rfl,S',β',_,rfl,?_,left_wrap (tryW_gro w) hold L (tryS_gro ..) (fun b hb=>tryS_same w w' _ _ _ _ _ b hb) hw hh,fun sz hsz=>by cases hsz⟩
      simp only [VR,VRs]
      exact ⟨[.agg #[u0,u1,u2,u3],.int .i64 0],rfl,_,_,rfl,⟨[u0,u1,u2,u3],rfl,hus⟩,_,_,rfl,rfl,rfl⟩
   | pan v h' =>
    obtain ⟨S',β',u,rfl,hu,L⟩:=hp
    refine ⟨(kk _ _ _ L).1,(kk _ _ _ L).2,.inr ?_⟩
    unfold tryP at hr ⊢
    split at hr
    ·rename_i heq; cases heq
    ·rename_i t' k' n h'' heq
     cases heq
     cases hb:(Nat.beq t' 69&&decide (k'=IntKind.i64)) with
     | false=>rw [hb] at hr; exact absurd rfl hr
     | true =>
      simp only [Bool.and_eq_true,decide_eq_true_eq] at hb
      obtain ⟨hb1,rfl⟩:=hb
      have:=Nat.eq_of_beq_eq_true hb1
      subst this
      simp only [VR] at hu
      obtain ⟨u',rfl,rfl⟩:=hu
      refine ⟨n,rfl,S',β',_,rfl,?_,left_wrap (tryW_gro w) hold L (tryS_gro ..) (fun b hb=>tryS_same w w' _ _ _ _ _ b hb) hw hh,fun sz hsz=>by cases hsz⟩
      simp only [VR,VRs]
      refine ⟨[.agg #[.int .i64 0,.int .i64 0,.slice none 0 0,.slice none 0 0],.int .i64 n],rfl,_,_,rfl,⟨[.int .i64 0,.int .i64 0,.slice none 0 0,.slice none 0 0],rfl,_,_,rfl,rfl,_,_,rfl,rfl,_,_,rfl,?_,_,_,rfl,?_,rfl⟩,_,_,rfl,rfl,rfl⟩
      ·exact ⟨none,0,rfl,Nat.le_refl _,fun _=>rfl,fun q hq=>by cases hq⟩
      ·exact ⟨none,0,rfl,Nat.le_refl _,fun _=>rfl,fun q hq=>by cases hq⟩
    ·exact absurd rfl hr
 rcases args with _ | ⟨f,_ | ⟨f2,r⟩⟩
 ·exact absurd rfl hr
 ·exact key _ rfl
 ·exact absurd rfl hr
end Go.Proofs.YtnipfhmghjdnmaaGreat

namespace Go.Proofs.YtnipfhmghjdnmaaGreat
open Go Go.Av Go.Av.Ap Go.RowKit
set_option maxRecDepth 100000
theorem funP_inv {e:AV} {y:Str×AV} (h:funP e=some y):∃ s0 b1 l2 n3 l4 n5 n6 n7 s8 s9 l10 l11,e = .agg [.str s0,.bool b1,.sl l2,.int .i64 n3,.sl l4,.int .i64 n5,.int .i64 n6,.int .i64 n7,.str s8,.str s9,.sl l10,.sl l11]∧y=(s0,.agg [.str s0,.bool b1,.sl l2,.int .i64 n3,.sl l4,.int .i64 n5,.int .i64 n6,.int .i64 n7,.str s8,.str s9,.sl l10,.sl l11]):=by
 unfold funP at h
 split at h
 ·cases h; exact ⟨_,_,_,_,_,_,_,_,_,_,_,_,rfl,rfl⟩
 ·cases h
theorem modP_inv {e:AV} {m:Str×List (Str×AV)} (h:modP e=some m):∃ s0 l1 l2 l3 l4 b5 l6 l7 l8,e = .agg [.str s0,.sl l1,.sl l2,.sl l3,.sl l4,.bool b5,.sl l6,.sl l7,.sl l8]∧∃ l,l4.mapM funP=some l∧m=(s0,l):=by
 unfold modP at h
 split at h
 ·rename_i s _ _ _ fs _ _ _ _
  cases hl:fs.mapM funP with
  | none=>rw [hl] at h; cases h
  | some l=>rw [hl] at h; simp only [Option.map_some,Option.some.injEq] at h; exact ⟨_,_,_,_,_,_,_,_,_,rfl,l,hl,h.symm⟩
 ·cases h
theorem mapM_cons_inv {α γ:Type} {f:α→Option γ} {x:α} {xs:List α} {l:List γ} (h:(x :: xs).mapM f=some l):∃ y ys,f x=some y∧xs.mapM f=some ys∧l=y :: ys:=by
 rw [List.mapM_cons] at h
 cases h1:f x with
 | none=>rw [h1] at h; cases h
 | some y =>
  cases h2:xs.mapM f with
  | none=>rw [h1,h2] at h; cases h
  | some ys =>
   rw [h1,h2] at h
   simp only [Option.pure_def,Option.bind_eq_bind,Option.bind_some,Option.some.injEq] at h
   exact ⟨y,ys,rfl,rfl,h.symm⟩
theorem funs_of {S:Stab} {β:List Blk} {b sz:Nat}:(es:List AV)→(off:Nat)→(l:List (Str×AV))→ElsAt S β es b off sz→es.mapM funP=some l →
  ∃ zs:List F12,FunsR S β l zs∧zs.length=es.length∧∀ j,j < zs.length→S b (off + j * 12)=some (.string (zs[j]?.getD default).n)∧S b (off + j * 12 + 1)=some (zs[j]?.getD default).a1∧S b (off + j * 12 + 2)=some (zs[j]?.getD default).a2∧S b (off + j * 12 + 3)=some (zs[j]?.getD default).a3∧S b (off + j * 12 + 4)=some (zs[j]?.getD default).a4∧S b (off + j * 12 + 5)=some (zs[j]?.getD default).a5∧S b (off + j * 12 + 6)=some (zs[j]?.getD default).a6∧S b (off + j * 12 + 7)=some (zs[j]?.getD default).a7∧S b (off + j * 12 + 8)=some (zs[j]?.getD default).a8∧S b (off + j * 12 + 9)=some (zs[j]?.getD default).a9∧S b (off + j * 12 + 10)=some (zs[j]?.getD default).a10∧S b (off + j * 12 + 11)=some (zs[j]?.getD default).a11
 | [],off,l,_,h=>by
  simp at h
  subst h
  exact ⟨[],rfl,rfl,fun j hj=>by simp at hj⟩
 | e :: es,off,l,he,h=>by
  obtain ⟨y,l',h1,h2,rfl⟩:=mapM_cons_inv h
  simp only [ElsAt] at he
  obtain ⟨⟨v,hv,hs,hc⟩,he⟩:=he
  obtain ⟨s0,b1,l2,n3,l4,n5,n6,n7,s8,s9,l10,l11,rfl,rfl⟩:=funP_inv h1
  have hv0:=hv
  simp only [VR,VRs] at hv
  obtain ⟨vs,rfl,_,_,rfl,⟨x0,rfl,hx0⟩,_,_,rfl,rfl,_,_,rfl,⟨p2,c2,rfl,hp2⟩,_,_,rfl,rfl,_,_,rfl,⟨p4,c4,rfl,hp4⟩,_,_,rfl,rfl,_,_,rfl,rfl,_,_,rfl,rfl,_,_,rfl,⟨x8,rfl,hx8⟩,_,_,rfl,⟨x9,rfl,hx9⟩,_,_,rfl,⟨p10,c10,rfl,hp10⟩,_,_,rfl,⟨p11,c11,rfl,hp11⟩,rfl⟩:=hv
  have hsz:sz=12:=by rw [← hs]; rfl
  subst hsz
  obtain ⟨zs,hR,hl,hZ⟩:=funs_of es (off + 12) l' he h2
  refine ⟨⟨x0,.bool b1,.slice p2 l2.length c2,.int .i64 n3,.slice p4 l4.length c4,.int .i64 n5,.int .i64 n6,.int .i64 n7,.string x8,.string x9,.slice p10 l10.length c10,.slice p11 l11.length c11⟩ :: zs,⟨_,_,rfl,⟨hx0,hv0,⟨_,rfl⟩,⟨_,_,_,rfl⟩,⟨_,rfl⟩,⟨_,_,_,rfl⟩,⟨_,rfl⟩,⟨_,rfl⟩,⟨_,rfl⟩,⟨_,rfl⟩,⟨_,rfl⟩,⟨_,_,_,rfl⟩,⟨_,_,_,rfl⟩⟩,hR⟩,by simp [hl],fun j hj=>?_⟩
  cases j with
  | zero=>exact ⟨by simpa using hc 0 _ rfl,by simpa using hc 1 _ rfl,by simpa using hc 2 _ rfl,by simpa using hc 3 _ rfl,by simpa using hc 4 _ rfl,by simpa using hc 5 _ rfl,by simpa using hc 6 _ rfl,by simpa using hc 7 _ rfl,by simpa using hc 8 _ rfl,by simpa using hc 9 _ rfl,by simpa using hc 10 _ rfl,by simpa using hc 11 _ rfl⟩
  | succ j =>
   have:=hZ j (by simpa using hj)
   rw [show off + 12 + j * 12=off + (j + 1) * 12 by omega] at this
   simpa using this
theorem mods_of {S:Stab} {β:List Blk} {w:World} (hw:Wf S w) {b sz:Nat}:(es:List AV)→(off:Nat)→(l:List (Str×List (Str×AV)))→ElsAt S β es b off sz→es.mapM modP=some l →
  ∃ zs:List M9,ModsR S β w l zs∧zs.length=es.length∧∀ j,j < zs.length→S b (off + j * 9)=some (.string (zs[j]?.getD default).n)∧S b (off + j * 9 + 1)=some (zs[j]?.getD default).a1∧S b (off + j * 9 + 2)=some (zs[j]?.getD default).a2∧S b (off + j * 9 + 3)=some (zs[j]?.getD default).a3∧S b (off + j * 9 + 4)=some (zs[j]?.getD default).a4∧S b (off + j * 9 + 5)=some (zs[j]?.getD default).a5∧S b (off + j * 9 + 6)=some (zs[j]?.getD default).a6∧S b (off + j * 9 + 7)=some (zs[j]?.getD default).a7∧S b (off + j * 9 + 8)=some (zs[j]?.getD default).a8
 | [],off,l,_,h=>by
  simp at h
  subst h
  exact ⟨[],rfl,rfl,fun j hj=>by simp at hj⟩
 | e :: es,off,l,he,h=>by
  obtain ⟨y,l',h1,h2,rfl⟩:=mapM_cons_inv h
  simp only [ElsAt] at he
  obtain ⟨⟨v,hv,hs,hc⟩,he⟩:=he
  obtain ⟨s0,l1,l2,l3,l4,b5,l6,l7,l8,rfl,fl,hfl,rfl⟩:=modP_inv h1
  simp only [VR,VRs] at hv
  obtain ⟨vs,rfl,_,_,rfl,⟨x0,rfl,hx0⟩,_,_,rfl,⟨p1,c1,rfl,hp1⟩,_,_,rfl,⟨p2,c2,rfl,hp2⟩,_,_,rfl,⟨p3,c3,rfl,hp3⟩,_,_,rfl,⟨p4,c4,rfl,hp4⟩,_,_,rfl,rfl,_,_,rfl,⟨p6,c6,rfl,hp6⟩,_,_,rfl,⟨p7,c7,rfl,hp7⟩,_,_,rfl,⟨p8,c8,rfl,hp8⟩,rfl⟩:=hv
  have hsz:sz=9:=by rw [← hs]; rfl
  subst hsz
  obtain ⟨zs,hR,hl,hZ⟩:=mods_of hw es (off + 9) l' he h2
  have hf:∃ fz,FunsR S β fl fz∧Funs12 w.heap.size w.heap.size w (.slice p4 l4.length c4) fz:=by
   cases hl4:l4 with
   | nil =>
    subst hl4
    simp at hfl
    subst hfl
    exact ⟨[],rfl,.inl ⟨rfl,_,_,rfl⟩⟩
   | cons f fs =>
    rw [hl4] at hp4 hfl
    obtain ⟨q1,q2,q3⟩:=hp4
    cases p4 with
    | none=>have:=q2 rfl; rw [this] at q1; simp at q1
    | some q =>
     obtain ⟨g1,sz,g2⟩:=q3 q rfl
     obtain ⟨qb,qo,qp⟩:=q
     have hqp:qp=none:=g1 (by simp at q1; omega)
     subst hqp
     obtain ⟨fz,r1,r2,r3⟩:=funs_of (f :: fs) qo fl g2 hfl
     refine ⟨fz,r1,.inr ⟨qb,qo,c4,by rw [r2],?_,?_,fun j hj=>?_⟩⟩
     ·exact hw.lt (r3 0 (by rw [r2]; simp)).1
     ·exact Nat.ne_of_lt (hw.lt (r3 0 (by rw [r2]; simp)).1)
     ·obtain ⟨d0,d1,d2,d3,d4,d5,d6,d7,d8,d9,d10,d11⟩:=r3 j hj
      exact ⟨hw _ _ _ d0,hw _ _ _ d1,hw _ _ _ d2,hw _ _ _ d3,hw _ _ _ d4,hw _ _ _ d5,hw _ _ _ d6,hw _ _ _ d7,hw _ _ _ d8,hw _ _ _ d9,hw _ _ _ d10,hw _ _ _ d11⟩
  obtain ⟨fz,hf1,hf2⟩:=hf
  refine ⟨⟨x0,.slice p1 l1.length c1,.slice p2 l2.length c2,.slice p3 l3.length c3,.slice p4 l4.length c4,.bool b5,.slice p6 l6.length c6,.slice p7 l7.length c7,.slice p8 l8.length c8⟩ :: zs,⟨_,_,rfl,⟨hx0,fz,hf1,hf2,⟨_,_,_,rfl⟩,⟨_,_,_,rfl⟩,⟨_,_,_,rfl⟩,⟨_,_,_,rfl⟩,⟨_,rfl⟩,⟨_,_,_,rfl⟩,⟨_,_,_,rfl⟩,⟨_,_,_,rfl⟩⟩,hR⟩,by simp [hl],fun j hj=>?_⟩
  cases j with
  | zero=>exact ⟨by simpa using hc 0 _ rfl,by simpa using hc 1 _ rfl,by simpa using hc 2 _ rfl,by simpa using hc 3 _ rfl,by simpa using hc 4 _ rfl,by simpa using hc 5 _ rfl,by simpa using hc 6 _ rfl,by simpa using hc 7 _ rfl,by simpa using hc 8 _ rfl⟩
  | succ j =>
   have:=hZ j (by simpa using hj)
   rw [show off + 9 + j * 9=off + (j + 1) * 9 by omega] at this
   simpa using this
theorem oth53 (call:FuncId→List AV→M AV) (args:List AV) (h:Hp) (S:Stab) (β:List Blk) (w:World) (vs:List Value) (hr:indexE call args h ≠ .fail) (_hg:GOK β h w) (hw:Wf S w) (hh:HeapX S β w h) (hv:VRs S β args vs) :
  Calls Tryz.prog 53 vs.toArray w (CPost none S β h w (indexE call args h)):=by
 unfold indexE at hr ⊢
 split at hr
 ·rename_i ms
  cases hm:ms.mapM modP with
  | none=>rw [hm] at hr; exact absurd rfl hr
  | some l =>
   rw [hm] at hr
   simp only at hr ⊢
   by_cases hc:l.length≤1000000∧∀ m∈l,m.2.length≤1000000
   ·rw [if_pos hc]
    simp only [VRs,VR] at hv
    obtain ⟨_,_,rfl,⟨a,cap,rfl,hle,hnil,hq⟩,rfl⟩:=hv
    have hzs:∃ zs:List M9,ModsR S β w l zs∧ms.length=zs.length∧(zs = []∨∃ b off,a=some ⟨b,off,none⟩∧b < w.heap.size∧Cells9 w b off zs):=by
     cases hms:ms with
     | nil =>
      subst hms
      simp at hm
      subst hm
      exact ⟨[],rfl,rfl,.inl rfl⟩
     | cons e es =>
      rw [hms] at hm hle hq
      cases a with
      | none=>have:=hnil rfl; simp at hle; omega
      | some q =>
       obtain ⟨g1,sz,g2⟩:=hq q rfl
       obtain ⟨qb,qo,qp⟩:=q
       have hqp:qp=none:=g1 (by simp at hle; omega)
       subst hqp
       obtain ⟨zs,r1,r2,r3⟩:=mods_of hw (e :: es) qo l g2 hm
       refine ⟨zs,r1,r2.symm,.inr ⟨qb,qo,rfl,?_,fun j hj=>?_⟩⟩
       ·exact hw.lt (r3 0 (by rw [r2]; simp)).1
       ·obtain ⟨d0,d1,d2,d3,d4,d5,d6,d7,d8⟩:=r3 j hj
        exact ⟨hw _ _ _ d0,hw _ _ _ d1,hw _ _ _ d2,hw _ _ _ d3,hw _ _ _ d4,hw _ _ _ d5,hw _ _ _ d6,hw _ _ _ d7,hw _ _ _ d8⟩
    obtain ⟨zs,hR,hlen,hcl⟩:=hzs
    have:=idx_in Fence.wide 20 trivial trivial trivial rfl (by decide) S β a ms.length cap zs l w hR hlen hc hcl
    rw [callsIn_wide] at this
    refine this.mono ?_
    rintro e w' ⟨bo,rfl,hbo,hmap,hB⟩
    exact cpost_map hw hh hB noDr hbo hmap
   ·rw [if_neg hc] at hr; exact absurd rfl hr
 ·exact absurd rfl hr
theorem bifc {α:Type} {f k:Nat} {x:α} {o:Option α} {y:α} (h:(bif Nat.beq f k then some x else o)=some y):(f=k∧x=y)∨o=some y:=by
 cases hb:Nat.beq f k with
 | true=>rw [hb] at h; exact .inl ⟨Nat.eq_of_beq_eq_true hb,by simpa using h⟩
 | false=>rw [hb] at h; exact .inr h
theorem good:GoodPg Tryz.prog pg where
 tok:=tok
 funcs:=funcs_ok
 other:=by
  intro f E hE call hC args h S β w vs hr hg hw hh hv
  have h0:other f=some E:=hE
  unfold other at h0
  rcases bifc h0 with ⟨rfl,rfl⟩ | h0
  ·first
    | exact ⟨oth53 call args h S β w vs hr hg hw hh hv,by kernel_rfl⟩
    | exact ⟨oth64 call args h S β w vs hr hg hw hh hv,by kernel_rfl⟩
    | exact ⟨oth77 call args h S β w vs hr hg hw hh hv,by kernel_rfl⟩
    | exact ⟨try_ok call hC args h S β w vs hr hg hw hh hv,by kernel_rfl⟩
    | exact ⟨oth100 call args h S β w vs hr hg hw hh hv,by kernel_rfl⟩
    | exact ⟨oth169 call args h S β w vs hr hg hw hh hv,by kernel_rfl⟩
  rcases bifc h0 with ⟨rfl,rfl⟩ | h0
  ·first
    | exact ⟨oth53 call args h S β w vs hr hg hw hh hv,by kernel_rfl⟩
    | exact ⟨oth64 call args h S β w vs hr hg hw hh hv,by kernel_rfl⟩
    | exact ⟨oth77 call args h S β w vs hr hg hw hh hv,by kernel_rfl⟩
    | exact ⟨try_ok call hC args h S β w vs hr hg hw hh hv,by kernel_rfl⟩
    | exact ⟨oth100 call args h S β w vs hr hg hw hh hv,by kernel_rfl⟩
    | exact ⟨oth169 call args h S β w vs hr hg hw hh hv,by kernel_rfl⟩
  rcases bifc h0 with ⟨rfl,rfl⟩ | h0
  ·first
    | exact ⟨oth53 call args h S β w vs hr hg hw hh hv,by kernel_rfl⟩
    | exact ⟨oth64 call args h S β w vs hr hg hw hh hv,by kernel_rfl⟩
    | exact ⟨oth77 call args h S β w vs hr hg hw hh hv,by kernel_rfl⟩
    | exact ⟨try_ok call hC args h S β w vs hr hg hw hh hv,by kernel_rfl⟩
    | exact ⟨oth100 call args h S β w vs hr hg hw hh hv,by kernel_rfl⟩
    | exact ⟨oth169 call args h S β w vs hr hg hw hh hv,by kernel_rfl⟩
  rcases bifc h0 with ⟨rfl,rfl⟩ | h0
  ·first
    | exact ⟨oth53 call args h S β w vs hr hg hw hh hv,by kernel_rfl⟩
    | exact ⟨oth64 call args h S β w vs hr hg hw hh hv,by kernel_rfl⟩
    | exact ⟨oth77 call args h S β w vs hr hg hw hh hv,by kernel_rfl⟩
    | exact ⟨try_ok call hC args h S β w vs hr hg hw hh hv,by kernel_rfl⟩
    | exact ⟨oth100 call args h S β w vs hr hg hw hh hv,by kernel_rfl⟩
    | exact ⟨oth169 call args h S β w vs hr hg hw hh hv,by kernel_rfl⟩
  rcases bifc h0 with ⟨rfl,rfl⟩ | h0
  ·first
    | exact ⟨oth53 call args h S β w vs hr hg hw hh hv,by kernel_rfl⟩
    | exact ⟨oth64 call args h S β w vs hr hg hw hh hv,by kernel_rfl⟩
    | exact ⟨oth77 call args h S β w vs hr hg hw hh hv,by kernel_rfl⟩
    | exact ⟨try_ok call hC args h S β w vs hr hg hw hh hv,by kernel_rfl⟩
    | exact ⟨oth100 call args h S β w vs hr hg hw hh hv,by kernel_rfl⟩
    | exact ⟨oth169 call args h S β w vs hr hg hw hh hv,by kernel_rfl⟩
  rcases bifc h0 with ⟨rfl,rfl⟩ | h0
  ·first
    | exact ⟨oth53 call args h S β w vs hr hg hw hh hv,by kernel_rfl⟩
    | exact ⟨oth64 call args h S β w vs hr hg hw hh hv,by kernel_rfl⟩
    | exact ⟨oth77 call args h S β w vs hr hg hw hh hv,by kernel_rfl⟩
    | exact ⟨try_ok call hC args h S β w vs hr hg hw hh hv,by kernel_rfl⟩
    | exact ⟨oth100 call args h S β w vs hr hg hw hh hv,by kernel_rfl⟩
    | exact ⟨oth169 call args h S β w vs hr hg hw hh hv,by kernel_rfl⟩
  cases h0
 nw := by
  intro f hf
  have h0:(bif Nat.beq f 100 then true else false)=true:=hf
  cases hb:Nat.beq f 100 with
  | true =>
   have:=Nat.eq_of_beq_eq_true hb
   subst this
   exact ⟨_,rfl,fun call args=>cloneH_nw _ _ _ _⟩
  | false=>rw [hb] at h0; cases h0
end Go.Proofs.YtnipfhmghjdnmaaGreat

namespace Go.Proofs.YtnipfhmghjdnmaaGreat
open Go Go.Av Go.Av.Ap Go.RowKit
set_option maxRecDepth 1000000
section
variable {H:Type} {enc:TypeId×Value→H} {W:World}
theorem reach_eq:reachBytes=140737488351232:=rfl
theorem rd_strs (N:Nat):Rd enc Tryz.prog W N 28 (fun l:List Str=>[strs l]) (fun l=>l.length≤8796093022208) :=
 (rd_slice (rd_str Tryz.underlying9) Tryz.underlying28 (by kernel_rfl:_=1) (by decide) (by kernel_rfl:_=16) (elOf_one fun _=>rfl)).map id (fun _=>rfl) (fun l h=>by have:=h.1; rw [reach_eq] at this; simp only [id]; omega)
theorem Val.lim_mk {k n:Int} {ns:List Str} {vs:List Val} (h1:ns.length≤140737488355328) (h2:vs.length≤140737488355328) (h3:∀ v∈vs,v.Lim):(Val.mk k n ns vs).Lim:=fun j=>match j with
 | 0=>trivial
 | j + 1=>⟨h1,h2,fun x hx=>h3 x hx j⟩
theorem Exp.lim_mk {o n:Int} {s m:Str} {ns:List Str} {es:List Exp} (h1:ns.length≤8796093022208) (h2:es.length≤140737488355328) (h3:∀ v∈es,v.Lim):(Exp.mk o n s m ns es).Lim:=fun j=>match j with
 | 0=>trivial
 | j + 1=>⟨h1,h2,fun x hx=>h3 x hx j⟩
theorem Ty.lim_mk {k:Int} {fs:List Fld} (h2:fs.length≤140737488355328) (h3:∀ v∈fs,v.2.Lim):(Ty.mk k fs).Lim:=fun j=>match j with
 | 0=>trivial
 | j + 1=>⟨h2,fun x hx=>h3 x hx j⟩
theorem rd_vals_of {N:Nat} (h:Rd enc Tryz.prog W N 71 (fun v:Val=>acells v.av) Val.Lim):Rd enc Tryz.prog W N 61 (fun l:List Val=>[vals l]) (fun l=>l.length≤140737488355328∧∀ v∈l,v.Lim) :=
 (rd_slice h Tryz.underlying61 (by kernel_rfl:_=4) (by decide) (by kernel_rfl:_=64) (ev:=Val.av) (elOf_agg' fun v=>by rw [v.av_eq]; rfl)).map id (fun l=>by simp [vals,valsAv_map]) (fun l h=>⟨by have:=h.1; rw [reach_eq] at this; simp only [id]; omega,h.2⟩)
theorem rd_val:∀ N,Rd enc Tryz.prog W N 71 (fun v:Val=>acells v.av) Val.Lim
 | 0=>.zero
 | N + 1=>(rd_struct Tryz.underlying71 (by kernel_rfl) (rdFs_cons (rd_int Tryz.underlying3) rfl (by kernel_rfl:_=1) (rdFs_cons (rd_int Tryz.underlying3) rfl (by kernel_rfl:_=1) (rdFs_cons (rd_strs N) rfl (by kernel_rfl:_=1)
   (rdFs_cons (rd_vals_of (rd_val N)) rfl (by kernel_rfl:_=1) rdFs_nil))))).map (fun x=>Val.mk x.1 x.2.1 x.2.2.1 x.2.2.2.1) (fun x=>by simp [Val.av_eq,acells]) (fun x h=>Val.lim_mk (by have:=h.2.2.1; omega) h.2.2.2.1.1 h.2.2.2.1.2)
theorem rd_vals (N:Nat):Rd enc Tryz.prog W N 61 (fun l:List Val=>[vals l]) (fun l=>l.length≤140737488355328∧∀ v∈l,v.Lim):=rd_vals_of (rd_val N)
theorem rd_exps_of {N:Nat} (h:Rd enc Tryz.prog W N 31 (fun v:Exp=>v.cells) Exp.Lim):Rd enc Tryz.prog W N 29 (fun l:List Exp=>[exps l]) (fun l=>l.length≤140737488355328∧∀ v∈l,v.Lim) :=
 (rd_slice h Tryz.underlying29 (by kernel_rfl:_=6) (by decide) (by kernel_rfl:_=96) (ev:=Exp.av) (elOf_agg' fun v=>rfl)).map id (fun l=>by simp [exps,expsAv_map]) (fun l h=>⟨by have:=h.1; rw [reach_eq] at this; simp only [id]; omega,h.2⟩)
theorem rd_exp:∀ N,Rd enc Tryz.prog W N 31 (fun v:Exp=>v.cells) Exp.Lim
 | 0=>.zero
 | N + 1=>(rd_struct Tryz.underlying31 (by kernel_rfl) (rdFs_cons (rd_int Tryz.underlying3) rfl (by kernel_rfl:_=1) (rdFs_cons (rd_int Tryz.underlying3) rfl (by kernel_rfl:_=1) (rdFs_cons (rd_str Tryz.underlying9) rfl (by kernel_rfl:_=1) (rdFs_cons (rd_str Tryz.underlying9) rfl (by kernel_rfl:_=1)
   (rdFs_cons (rd_strs N) rfl (by kernel_rfl:_=1) (rdFs_cons (rd_exps_of (rd_exp N)) rfl (by kernel_rfl:_=1) rdFs_nil))))))).map (fun x=>Exp.mk x.1 x.2.1 x.2.2.1 x.2.2.2.1 x.2.2.2.2.1 x.2.2.2.2.2.1) (fun x=>by simp [Exp.cells_eq,Exp.op,Exp.n,Exp.s,Exp.m,Exp.names,Exp.args]) (fun x h=>Exp.lim_mk h.2.2.2.2.1 h.2.2.2.2.2.1.1 h.2.2.2.2.2.1.2)
theorem rd_exps (N:Nat):Rd enc Tryz.prog W N 29 (fun l:List Exp=>[exps l]) (fun l=>l.length≤140737488355328∧∀ v∈l,v.Lim):=rd_exps_of (rd_exp N)
theorem rd_flds_of {N:Nat} (h:Rd enc Tryz.prog W N 88 (fun v:Ty=>v.cells) Ty.Lim):Rd enc Tryz.prog W (N + 1) 50 (fun l:List Fld=>[flds l]) (fun l=>l.length≤140737488355328∧∀ v∈l,v.2.Lim) :=
 (rd_slice ((rd_struct Tryz.underlying105 (by kernel_rfl) (rdFs_cons (rd_str Tryz.underlying9) rfl (by kernel_rfl:_=1) (rdFs_cons h rfl (by kernel_rfl:_=2) rdFs_nil))).map (fun x=>((x.1,x.2.1):Fld)) (cells':=fun f=>acells (fldAv f)) (Ok':=fun f=>f.2.Lim) (fun x=>by simp [Ty.cells_eq]) (fun x h=>h.2.1))
  Tryz.underlying50 (by kernel_rfl:_=3) (by decide) (by kernel_rfl:_=48) (ev:=fldAv) (elOf_agg' fun v=>by rw [fldAv_eq]; rfl)).map id (fun l=>by simp [flds,fldsAv_map]) (fun l h=>⟨by have:=h.1; rw [reach_eq] at this; simp only [id]; omega,h.2⟩)
theorem rd_ty:∀ N,Rd enc Tryz.prog W N 88 (fun v:Ty=>v.cells) Ty.Lim
 | 0=>.zero
 | N + 1=>(rd_struct Tryz.underlying88 (by kernel_rfl) (rdFs_cons (rd_int Tryz.underlying3) rfl (by kernel_rfl:_=1) (rdFs_cons ((rd_flds_of (rd_ty N)).le (Nat.le_succ N)) rfl (by kernel_rfl:_=1) rdFs_nil))).map (fun x=>Ty.mk x.1 x.2.1)
   (fun x=>by simp [Ty.cells_eq,Ty.kind,Ty.fields]) (fun x h=>Ty.lim_mk h.2.1.1 h.2.1.2)
theorem rd_flds (N:Nat):Rd enc Tryz.prog W N 50 (fun l:List Fld=>[flds l]) (fun l=>l.length≤140737488355328∧∀ v∈l,v.2.Lim):=(rd_flds_of (rd_ty N)).le (Nat.le_succ N)
theorem rd_fun (N:Nat):Rd enc Tryz.prog W (N + 1) 90 (fun f:Fun=>acells f.av) Fun.Lim :=
 (rd_struct Tryz.underlying90 (by kernel_rfl) (rdFs_cons (rd_str Tryz.underlying9) rfl (by kernel_rfl:_=1) (rdFs_cons (rd_bool Tryz.underlying4) rfl (by kernel_rfl:_=1) (rdFs_cons (rd_flds N) rfl (by kernel_rfl:_=1) (rdFs_cons (rd_ty N) rfl (by kernel_rfl:_=2)
  (rdFs_cons (rd_int Tryz.underlying3) rfl (by kernel_rfl:_=1) (rdFs_cons (rd_exp N) rfl (by kernel_rfl:_=6) rdFs_nil))))))).map (fun x=>(⟨x.1,x.2.1,x.2.2.1,x.2.2.2.1,x.2.2.2.2.1,x.2.2.2.2.2.1⟩:Fun))
  (fun x=>by simp [Ty.cells_eq,Exp.cells_eq]) (fun x h=>⟨h.2.2.1.1,h.2.2.1.2,h.2.2.2.1,h.2.2.2.2.2.1⟩)
theorem rd_funs (N:Nat):Rd enc Tryz.prog W N 51 (fun l:List Fun=>[funs l]) (fun l=>l.length≤140737488355328∧∀ v∈l,v.Lim) :=
 ((rd_slice (rd_fun N) Tryz.underlying51 (by kernel_rfl:_=12) (by decide) (by kernel_rfl:_=184) (ev:=Fun.av) (elOf_agg' fun v=>rfl)).map id (fun l=>by simp [funs]) (fun l h=>⟨by have:=h.1; rw [reach_eq] at this; simp only [id]; omega,h.2⟩)).le (Nat.le_succ N)
theorem rd_mod (N:Nat):Rd enc Tryz.prog W (N + 1) 55 (fun m:Mod=>acells m.av) Mod.Lim :=
 (rd_struct Tryz.underlying55 (by kernel_rfl) (rdFs_cons (rd_str Tryz.underlying9) rfl (by kernel_rfl:_=1) (rdFs_cons (rd_strs N) rfl (by kernel_rfl:_=1) (rdFs_cons (rd_flds N) rfl (by kernel_rfl:_=1) (rdFs_cons (rd_exps N) rfl (by kernel_rfl:_=1)
  (rdFs_cons (rd_funs N) rfl (by kernel_rfl:_=1) (rdFs_cons (rd_bool Tryz.underlying4) rfl (by kernel_rfl:_=1)
  (rdFs_cons ((rd_struct Tryz.underlying53 (by kernel_rfl) (rdFs_cons (rd_flds N) rfl (by kernel_rfl:_=1) (rdFs_cons (rd_exps N) rfl (by kernel_rfl:_=1) (rdFs_cons (rd_exps N) rfl (by kernel_rfl:_=1) rdFs_nil)))).le (Nat.le_succ N)) rfl (by kernel_rfl:_=3) rdFs_nil)))))))).map
  (fun x=>(⟨x.1,x.2.1,x.2.2.1,x.2.2.2.1,x.2.2.2.2.1,x.2.2.2.2.2.1,x.2.2.2.2.2.2.1.1,x.2.2.2.2.2.2.1.2.1,x.2.2.2.2.2.2.1.2.2.1⟩:Mod))
  (fun x=>by simp) (fun x h=>⟨by have:=h.2.1; simp only; omega,h.2.2.1.1,h.2.2.1.2,h.2.2.2.1.1,h.2.2.2.1.2,h.2.2.2.2.1.1,h.2.2.2.2.1.2,h.2.2.2.2.2.2.1.1.1,h.2.2.2.2.2.2.1.1.2,h.2.2.2.2.2.2.1.2.1.1,h.2.2.2.2.2.2.1.2.1.2,h.2.2.2.2.2.2.1.2.2.1.1,h.2.2.2.2.2.2.1.2.2.1.2⟩)
theorem rd_mods (N:Nat):Rd enc Tryz.prog W N 22 (fun l:List Mod=>[mods l]) (fun l=>l.length≤140737488355328∧∀ v∈l,v.Lim) :=
 ((rd_slice (rd_mod N) Tryz.underlying22 (by kernel_rfl:_=9) (by decide) (by kernel_rfl:_=192) (ev:=Mod.av) (elOf_agg' fun v=>rfl)).map id (fun l=>by simp [mods]) (fun l h=>⟨by have:=h.1; rw [reach_eq] at this; simp only [id]; omega,h.2⟩)).le (Nat.le_succ N)
theorem rd_ver:∀ N,Rd enc Tryz.prog W N 58 (fun v:Ver=>acells v.av) (fun _=>True)
 | 0=>.zero
 | _ + 1=>(rd_struct Tryz.underlying58 (by kernel_rfl) (rdFs_cons (rd_int Tryz.underlying3) rfl (by kernel_rfl:_=1) (rdFs_cons (rd_int Tryz.underlying3) rfl (by kernel_rfl:_=1) (rdFs_cons (rd_int Tryz.underlying3) rfl (by kernel_rfl:_=1) rdFs_nil)))).map (fun x=>(⟨x.1,x.2.1,x.2.2.1⟩:Ver)) (fun x=>rfl) (fun x h=>trivial)
theorem rd_vers (N:Nat):Rd enc Tryz.prog W N 23 (fun l:List Ver=>[vers l]) (fun l=>l.length≤140737488355328) :=
 (rd_slice (rd_ver N) Tryz.underlying23 (by kernel_rfl:_=3) (by decide) (by kernel_rfl:_=24) (ev:=Ver.av) (elOf_agg' fun v=>rfl)).map id (fun l=>by simp [vers]) (fun l h=>by have:=h.1; rw [reach_eq] at this; simp only [id]; omega)
theorem rd_rng (N:Nat):Rd enc Tryz.prog W (N + 1) 99 (fun v:Rng=>acells v.av) (fun _=>True) :=
 (rd_struct Tryz.underlying99 (by kernel_rfl) (rdFs_cons (rd_ver N) rfl (by kernel_rfl:_=3) (rdFs_cons (rd_ver N) rfl (by kernel_rfl:_=3) rdFs_nil))).map (fun x=>(⟨x.1,x.2.1⟩:Rng)) (fun x=>rfl) (fun x h=>trivial)
theorem rd_rngs (N:Nat):Rd enc Tryz.prog W N 27 (fun l:List Rng=>[rngs l]) (fun l=>l.length≤140737488355328) :=
 ((rd_slice (rd_rng N) Tryz.underlying27 (by kernel_rfl:_=6) (by decide) (by kernel_rfl:_=48) (ev:=Rng.av) (elOf_agg' fun v=>rfl)).map id (fun l=>by simp [rngs]) (fun l h=>by have:=h.1; rw [reach_eq] at this; simp only [id]; omega)).le (Nat.le_succ N)
theorem rd_call (N:Nat):Rd enc Tryz.prog W (N + 1) 63 (fun c:Ap.Call=>acells c.av) CallLim :=
 (rd_struct Tryz.underlying63 (by kernel_rfl) (rdFs_cons (rd_str Tryz.underlying9) rfl (by kernel_rfl:_=1) (rdFs_cons (rd_str Tryz.underlying9) rfl (by kernel_rfl:_=1) (rdFs_cons (rd_vals N) rfl (by kernel_rfl:_=1) rdFs_nil)))).map (fun x=>(⟨x.1,x.2.1,x.2.2.1⟩:Ap.Call)) (fun x=>rfl) (fun x h=>⟨h.2.2.1.1,h.2.2.1.2⟩)
theorem rd_calls (N:Nat):Rd enc Tryz.prog W N 24 (fun l:List Ap.Call=>[Ap.calls l]) (fun l=>(l.length + 1) * 56≤140737488355328∧∀ c∈l,CallLim c) :=
 ((rd_slice (rd_call N) Tryz.underlying24 (by kernel_rfl:_=3) (by decide) (by kernel_rfl:_=56) (ev:=Ap.Call.av) (elOf_agg' fun v=>rfl)).map id (fun l=>by simp [Ap.calls]) (fun l h=>⟨by have:=h.1; rw [reach_eq] at this; simp only [id]; omega,h.2⟩)).le (Nat.le_succ N)
theorem rd_seen (N:Nat):Rd enc Tryz.prog W (N + 1) 26 (fun s:Seen=>acells s.av) (fun s=>s.Lim∧(s.calls.length + 1) * 56≤140737488355328) :=
 (rd_struct Tryz.underlying26 (by kernel_rfl) (rdFs_cons (rd_mods N) rfl (by kernel_rfl:_=1) (rdFs_cons (rd_vers N) rfl (by kernel_rfl:_=1) (rdFs_cons (rd_calls N) rfl (by kernel_rfl:_=1) (rdFs_cons (rd_bool Tryz.underlying4) rfl (by kernel_rfl:_=1) rdFs_nil))))).map (fun x=>(⟨x.1,x.2.1,x.2.2.1,x.2.2.2.1⟩:Seen)) (fun x=>rfl) (fun x h=>⟨⟨h.1.1,h.1.2,h.2.1,by have:=h.2.2.1.1; simp only; omega,h.2.2.1.2⟩,h.2.2.1.1⟩)
theorem rd_adv (N:Nat):Rd enc Tryz.prog W (N + 1) 33 (fun a:Adv=>acells a.av) Adv.Lim :=
 (rd_struct Tryz.underlying33 (by kernel_rfl) (rdFs_cons (rd_int Tryz.underlying3) rfl (by kernel_rfl:_=1) (rdFs_cons (rd_str Tryz.underlying9) rfl (by kernel_rfl:_=1) (rdFs_cons (rd_rngs N) rfl (by kernel_rfl:_=1) (rdFs_cons (rd_str Tryz.underlying9) rfl (by kernel_rfl:_=1) (rdFs_cons (rd_exp N) rfl (by kernel_rfl:_=6) rdFs_nil)))))).map (fun x=>(⟨x.1,x.2.1,x.2.2.1,x.2.2.2.1,x.2.2.2.2.1⟩:Adv)) (fun x=>by simp [Exp.cells_eq]) (fun x h=>⟨h.2.2.1,h.2.2.2.2.1⟩)
end
end Go.Proofs.YtnipfhmghjdnmaaGreat

namespace Go.Proofs.YtnipfhmghjdnmaaGreat
open Go Go.Av Go.Av.Ap
set_option maxRecDepth 100000
theorem t164 (n:Int):callW pg 164 [.int .i64 n] = M.pure (.bool false):=by
 rw [C164]
 simp [S164]
theorem t114 (a b:Int):callW pg 114 [.int .i64 a,.int .i64 b] = M.pure (.int .i64 (ordI a b)):=by
 rw [C114]
 simp [S114,t164,ordI]
def orL:List Int→Int
 | []=>0
 | x :: l=>if x=0 then orL l else x
theorem loop105 (l:List Int) (hb:l.length≤1099511627776):∀ (n:Nat) (i:Int),l.length - i.toNat=n→0≤i→i≤l.length →
  fixW (L105_0 (callW pg) fixW) [.int .i64 0,ints l,.int .i64 l.length,.int .i64 i] = M.pure (.int .i64 (orL (l.drop i.toNat))):=by
 intro n
 induction n with
 | zero =>
  intro i hn hi hl
  rw [FL105_0]
  simp only [L105_0]
  have h1:¬ (i < (l.length:Int)):=by omega
  have h2:l.drop i.toNat = []:=List.drop_eq_nil_of_le (by omega)
  simp [h1,h2,orL]
 | succ n ih =>
  intro i hn hi hl
  have h1:i < (l.length:Int):=by omega
  have hlt:i.toNat < l.length:=by omega
  have h4:=ih (i + 1) (by omega) (by omega) (by omega)
  rw [show (i + 1).toNat=i.toNat + 1 by omega] at h4
  rw [FL105_0,List.drop_eq_getElem_cons hlt]
  simp only [L105_0,orL]
  simp (disch:=omega) [h1,wrap_in,IX45,h4]
theorem t105 (l:List Int) (hb:l.length≤1099511627776):callW pg 105 [ints l] = M.pure (.int .i64 (orL l)):=by
 rw [C105]
 simp [S105,loop105 l hb l.length 0 rfl (by omega) (by omega)]
theorem ord_zero (a b:Int):ordI a b=0 ↔ a=b:=by
 unfold ordI
 split
 ·omega
 ·split <;> omega
theorem or_cmp (v w:Ver):orL [ordI v.a w.a,ordI v.b w.b,ordI v.c w.c] = cmpV v w:=by
 unfold cmpV
 simp only [orL,ord_zero]
 by_cases h1:v.a=w.a <;> by_cases h2:v.b=w.b <;> simp [h1,h2]
 intro h
 rw [h]
 exact ((ord_zero _ _).2 rfl).symm
theorem t84 (v w:Ver):callW pg 84 [v.av,w.av] = M.pure (.int .i64 (cmpV v w)):=by
 rw [C84,← or_cmp]
 have hB:∀ x y z:Int,buildSliceA T 45 3 [(0,.int .i64 x),(1,.int .i64 y),(2,.int .i64 z)] = some (ints [x,y,z]):=fun x y z=>rfl
 simp [S84,t114,hB,t105]
theorem t48 (x:Rng) (v:Ver):callW pg 48 [x.av,v.av] = M.pure (.bool (inR x v)):=by
 rw [C48]
 simp [S48,t84,inR]
theorem t47 (x:Rng) (v:Ver):callW pg 47 [x.av,.ip (acells v.av)] = M.pure (.bool (inR x v)):=by
 rw [C47]
 simp [S47,t48,cl,cls]
theorem loop83 (f:AV) (q:Rng→Bool) (hf:∀ x:Rng,callV (callW pg) f [x.av] = M.pure (.bool (q x))) (l:List Rng) (hb:l.length≤1099511627776):∀ (n:Nat) (i:Int),l.length - i.toNat=n→0≤i→i≤l.length →
  fixW (L83_0 (callW pg) fixW) [rngs l,f,.int .i64 l.length,.int .i64 i] = M.pure (.int .i64 (idxAt q (l.drop i.toNat) i)):=by
 intro n
 induction n with
 | zero =>
  intro i hn hi hl
  rw [FL83_0]
  simp only [L83_0]
  have h1:¬ (i < (l.length:Int)):=by omega
  have h2:l.drop i.toNat = []:=List.drop_eq_nil_of_le (by omega)
  simp [h1,h2,idxAt]
 | succ n ih =>
  intro i hn hi hl
  have h1:i < (l.length:Int):=by omega
  have hlt:i.toNat < l.length:=by omega
  have h4:=ih (i + 1) (by omega) (by omega) (by omega)
  rw [show (i + 1).toNat=i.toNat + 1 by omega] at h4
  rw [FL83_0,List.drop_eq_getElem_cons hlt]
  simp only [L83_0,idxAt]
  simp (disch:=omega) [h1,wrap_in,IX27,h4,hf]
theorem idx_any {α:Type} (q:α→Bool):∀ (l:List α) (i:Int),0≤i→decide (0≤idxAt q l i)=l.any q
 | [],i,h=>by simp [idxAt]
 | x :: l,i,h=>by
  have:=idx_any q l (i + 1) (by omega)
  simp only [idxAt,List.any_cons]
  by_cases hq:q x=true
  ·simp [hq,h]
  ·simp only [hq,Bool.false_eq_true,if_false,Bool.false_or]
   exact this
theorem t83 (f:AV) (q:Rng→Bool) (hcl:∀ g,cl g f=f) (hf:∀ x:Rng,callV (callW pg) f [x.av] = M.pure (.bool (q x))) (l:List Rng) (hb:l.length≤1099511627776):callW pg 83 [rngs l,f] = M.pure (.int .i64 (idxAt q l 0)):=by
 rw [C83]
 have:=loop83 f q hf l hb l.length 0 rfl (by omega) (by omega)
 simp at this
 simp [S83,hcl,this]
theorem t22 (l:List Rng) (v:Ver) (hb:l.length≤1099511627776):callW pg 22 [rngs l,v.av] = M.pure (.bool (hasV l v)):=by
 have hcl:∀ g,cl g (.fn (.func 47) [] [.ip (acells v.av)]) = .fn (.func 47) [] [.ip (acells v.av)]:=fun g=>by simp [cl,cls]
 have hf:∀ x:Rng,callV (callW pg) (.fn (.func 47) [] [.ip (acells v.av)]) [x.av] = M.pure (.bool (inR x v)):=fun x=>t47 x v
 have h1:=t83 _ _ hcl hf l hb
 have h2:callW pg 46 [rngs l,.fn (.func 47) [] [.ip (acells v.av)]] = M.pure (.bool (hasV l v)):=by
  have h3:=idx_any (fun x=>inR x v) l 0 (by omega)
  have h4:decide (0≤idxAt (fun x=>inR x v) l 0)=hasV l v:=h3
  rw [C46,hcl,cl_rngs]
  have h5:S46 (callW pg) fixW (rngs l) (.fn (.func 47) [] [.ip (acells v.av)])=M.pure (.bool (hasV l v)):=by
   unfold S46
   rw [h1]
   simp [h4]
  rw [h5]
  exact isoP_bool _
 rw [C22]
 simp at h2
 simp [S22,h2]
end Go.Proofs.YtnipfhmghjdnmaaGreat

namespace Go.Proofs.YtnipfhmghjdnmaaGreat
open Go Go.Av Go.Av.Ap
theorem asc_step (l:List Str) (i k:Nat) (hk:k=i + 1) (h:k < l.length):asc (l.drop i)=(strLess (l[i]'(by omega)) l[k]&&asc (l.drop k)):=by
 subst hk
 have e1:l.drop i=l[i] :: l.drop (i + 1):=List.drop_eq_getElem_cons (by omega)
 have e2:l.drop (i + 1)=l[i + 1] :: l.drop (i + 2):=List.drop_eq_getElem_cons h
 rw [e1,e2]
 rfl
theorem loop165 (call) (l:List Str) (hb:l.length≤4611686018427387904):∀ (n:Nat) (i:Int),l.length - i.toNat=n→1≤i→fixW (L165_0 call fixW) [strs l,.int .i64 i] = M.pure (.bool (asc (l.drop (i.toNat - 1)))):=by
 intro n
 induction n with
 | zero =>
  intro i hn hi
  rw [FL165_0]
  simp only [L165_0]
  have h1:¬ (i < (l.length:Int)):=by omega
  have h2:asc (l.drop (i.toNat - 1))=true:=by
   have:(l.drop (i.toNat - 1)).length≤1:=by simp; omega
   match hq:l.drop (i.toNat - 1),this with
   | [],_=>rfl
   | [x],_=>rfl
   | x :: y :: r,h=>simp at h
  simp [h1,h2]
 | succ n ih =>
  intro i hn hi
  have h1:i < (l.length:Int):=by omega
  rw [FL165_0]
  simp only [L165_0]
  simp (disch:=omega) [h1,wrap_in,IX28]
  rw [ih (i + 1) (by omega) (by omega),asc_step l (i.toNat - 1) i.toNat (by omega) (by omega),show (i + 1).toNat - 1=i.toNat by omega]
  cases strLess l[i.toNat - 1] l[i.toNat] <;> simp
theorem t165 (l:List Str) (hb:l.length≤4611686018427387904):callW pg 165 [strs l] = M.pure (.bool (asc l)):=by
 rw [C165]
 simp [S165,loop165 (callW pg) l hb (l.length - 1) 1 rfl (by omega)]
theorem loop115 (f:AV) (F:Val→Bool) (l:List Val) (hb:l.length≤4611686018427387904) (hf:∀ x∈l,callV (callW pg) f [Val.av x] = M.pure (.bool (F x))):∀ (n:Nat) (i:Int),l.length - i.toNat=n→0≤i→i≤l.length →
  fixW (L115_0 (callW pg) fixW) [vals l,f,.int .i64 l.length,.int .i64 i] = M.pure (.int .i64 (idxAt F (l.drop i.toNat) i)):=by
 intro n
 induction n with
 | zero =>
  intro i hn hi hl
  rw [FL115_0]
  simp only [L115_0]
  have h1:¬ (i < (l.length:Int)):=by omega
  have h2:l.drop i.toNat = []:=List.drop_eq_nil_of_le (by omega)
  simp [h1,h2,idxAt]
 | succ n ih =>
  intro i hn hi hl
  have h1:i < (l.length:Int):=by omega
  have hlt:i.toNat < l.length:=by omega
  have h2:idxAt F (l.drop i.toNat) i=if F l[i.toNat] = true then i else idxAt F (l.drop (i.toNat + 1)) (i + 1):=by rw [List.drop_eq_getElem_cons hlt]; rfl
  have h3:=hf l[i.toNat] (List.getElem_mem hlt)
  have h4:=ih (i + 1) (by omega) (by omega) (by omega)
  rw [show (i + 1).toNat=i.toNat + 1 by omega] at h4
  rw [FL115_0]
  simp only [L115_0]
  simp (disch:=omega) [h1,wrap_in,IX61,h3,h2]
  cases F l[i.toNat]
  ·simpa using h4
  ·simp
theorem t115 (f:AV) (F:Val→Bool) (l:List Val) (hb:l.length≤4611686018427387904) (hc:∀ g,cl g f=f) (hf:∀ x∈l,callV (callW pg) f [Val.av x] = M.pure (.bool (F x))):callW pg 115 [vals l,f] = M.pure (.int .i64 (idxAt F l 0)):=by
 rw [C115]
 simp [S115,hc,loop115 f F l hb hf l.length 0 rfl (by omega) (by omega)]
theorem t85 (f:AV) (F:Val→Bool) (l:List Val) (hb:l.length≤4611686018427387904) (hc:∀ g,cl g f=f) (hf:∀ x∈l,callV (callW pg) f [Val.av x] = M.pure (.bool (F x))):callW pg 85 [vals l,f] = M.pure (.bool (l.any F)):=by
 rw [C85]
 simp [S85,hc,t115 f F l hb hc hf,idxAt_any]
theorem t116:∀ (d:Nat),d≤4→∀ (v:Val),v.sz≤4611686018427387904→callW pg 116 [v.av,.int .i64 d] = M.pure (.bool (fitsP d v))
 | 0,_,v,_=>by
  rw [C116]
  simp [S116,fitsP]
 | d + 1,hd,v,hv=>by
  have ih:=t116 d (by omega)
  have h1:=t165 v.names (Nat.le_trans v.sz_names hv)
  have hf:∀ x∈v.values,callV (callW pg) (.fn (.func 166) [] [.ip [.int .i64 ((d:Int) + 1)]]) [x.av] = M.pure (.bool !(fitsP d x)):=by
   intro x hx
   have hsz:=Val.sz_mem hx
   have:=ih x (by omega)
   show callW pg 166 [x.av,.ip [.int .i64 ((d:Int) + 1)]] = _
   rw [C166]
   simp (disch:=omega) [S166,cl,cls,wrap_in,this,show (d:Int) + 1 - 1=d by omega]
  have h2:=t85 (.fn (.func 166) [] [.ip [.int .i64 ((d:Int) + 1)]]) (fun x=>!(fitsP d x)) v.values (by have:=v.sz_len; omega) (fun g=>rfl) hf
  have h0:¬ ((d:Int) + 1=0):=by omega
  rw [C116]
  simp [S116,fitsP,h0,h1,h2]
  have hall:(!v.values.any fun x=>!fitsP d x)=v.values.all (fitsP d):=by simp [List.not_any_eq_all_not]
  rw [hall]
  split
  ·rfl
  ·congr 2
   rw [show (v.kind == 2)=decide (v.kind=2) from rfl,show (v.n == 0)=decide (v.n=0) from rfl,show (v.names.length == v.values.length)=decide (v.names.length=v.values.length) by rw [Bool.eq_iff_iff]; simp,
    show (!decide ((8:Int) < (v.names.length:Int)))=decide (v.names.length≤8) by rw [Bool.eq_iff_iff]; simp; omega]
mutual
def sameP:Val→Val→Bool
 | .mk k n ns vs,.mk k' n' ns' vs'=>k == k'&&n == n'&&ns == ns'&&samesP vs vs'
def samesP:List Val→List Val→Bool
 | [],[]=>true
 | v :: vs,w :: ws=>sameP v w&&samesP vs ws
 | _,_=>false
end
theorem t87 (v:Val) (hv:v.sz≤4611686018427387904):callW pg 87 [v.av] = M.pure (.bool (fitsP 4 v)):=by
 rw [C87]
 have:=t116 4 (by omega) v hv
 simp at this
 simp [S87,this]
end Go.Proofs.YtnipfhmghjdnmaaGreat

namespace Go.Proofs.YtnipfhmghjdnmaaGreat
open Go Go.Av Go.Av.Ap
end Go.Proofs.YtnipfhmghjdnmaaGreat
