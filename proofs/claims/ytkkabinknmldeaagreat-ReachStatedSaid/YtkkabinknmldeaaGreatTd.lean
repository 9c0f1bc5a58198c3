/- What the functions of the seat compute, part 4: the texts of the claim, one behind the other. Conditions: bounds, as each theorem names them. -/
import Derived.Test.YtkkabinknmldeaaGreatTc
import Derived.Test.YtkkabinknmldeaaGreatTa
import Derived.Shelf.SlGeneric
import Derived.Shelf.SlSortCmp.WholeK
import Derived.Shelf.Strings.Search3
import Derived.Ground.SlsfProg
import Derived.Ground.NamesProg
import Derived.Test.YtkkabinknmldeaaGreatProg
import Derived.Test.YtkkabinknmldeaaGreatTb
import Derived.Test.YtkkabinknmldeaaGreatLd
import Derived.Test.YtkkabinknmldeaaGreatLc
import Derived.Shelf.SlSortCmp.NoneTotal
set_option linter.unusedSimpArgs false
set_option linter.unusedVariables false
namespace Go.Proofs.YtkkabinknmldeaaGreat
open Go Go.Av Go.Av.Ap
set_option maxRecDepth 100000
noncomputable section
def S25(call:CC)(fx:bJ AV)(a0 a1:AV):M AV:=ae (ah (aj T 65 (.ip (ab a1)))) fun a=>ae (call 88 [a0]) fun b=>ae (call 87 [b,a]) fun c=>ae (call 86 [c]) fun d=>ae (call 85 [d,.fn (Fn.func 89) [] []]) fun e=>M.pure e
theorem E25(a0 a1:AV):EE 25 Tryz.f25 HG [a0,a1] (fun c x=>S25 c x a0 a1):=fun _ _=>by kernel_rfl
theorem C25(a0 a1:AV):ai pg 25 [a0,a1]=aF (S25 (ai pg) af (cl ax a0) (cl ax a1)):=(ay hOther rfl rfl rfl _).trans (congrArg aF (E25 (cl ax a0) (cl ax a1) _ _))
def L50_0(call:CC)(fx:bJ AV)(a:RR)(b:List AV):M AV:=ae (ah (am T .lss 3 (nth b 3) (nth b 2))) fun c=>ap c (ae (ah (ak T 23 (nth b 1) (nth b 3))) fun d=>ae (ah (aj T 87 d)) fun e=>ae (aC 3 e) fun f=>ae (ah (aa T 29 (nth b 0) 0)) fun g=>ae (ah (aj T 9 g)) fun h=>ae (ah (aa T 29 (nth b 0) 2)) fun i=>ae (ah (aj T 23 i)) fun j=>ae (ah (aa T 29 (nth b 0) 6)) fun k=>ae (ah (aa T 27 k 2)) fun l=>ae (ah (aj T 24 l)) fun m=>ae (ah (ak T 24 m (nth b 3))) fun n=>ae (ah (aj T 74 n)) fun o=>ae (ah (aa T 87 (.ip (ab f)) 1)) fun p=>ae (ah (aj T 72 p)) fun q=>ae (bY (call 144 [h,j,o,q])) fun r=>ae (ah (am T .neq 33 r (.int .i64 0))) fun s=>ap s (ae (ah (aa T 87 (.ip (ab f)) 0)) fun u=>ae (ah (aj T 9 u)) fun v=>M.pure (AV.tup [v,r])) (ae (ah (am T .add 3 (nth b 3) (.int .i64 1))) fun w=>a [nth b 0,nth b 1,nth b 2,w])) (M.pure (AV.tup [.str [],.int .i64 0]))
def L50_1(call:CC)(fx:bJ AV)(a:RR)(b:List AV):M AV:=ae (ah (am T .lss 3 (nth b 3) (nth b 2))) fun c=>ap c (ae (ah (ak T 23 (nth b 1) (nth b 3))) fun d=>ae (ah (aj T 87 d)) fun e=>ae (aC 3 e) fun f=>ae (ah (aa T 29 (nth b 0) 0)) fun g=>ae (ah (aj T 9 g)) fun h=>ae (ah (aa T 29 (nth b 0) 6)) fun i=>ae (ah (aa T 27 i 0)) fun j=>ae (ah (aj T 23 j)) fun k=>ae (ah (aa T 29 (nth b 0) 6)) fun l=>ae (ah (aa T 27 l 1)) fun m=>ae (ah (aj T 24 m)) fun n=>ae (ah (ak T 24 n (nth b 3))) fun o=>ae (ah (aj T 74 o)) fun p=>ae (ah (aa T 87 (.ip (ab f)) 1)) fun q=>ae (ah (aj T 72 q)) fun r=>ae (bY (call 144 [h,k,p,r])) fun s=>ae (ah (am T .neq 33 s (.int .i64 0))) fun u=>ap u (ae (ah (aa T 87 (.ip (ab f)) 0)) fun v=>ae (ah (aj T 9 v)) fun w=>M.pure (AV.tup [w,s])) (ae (ah (am T .add 3 (nth b 3) (.int .i64 1))) fun x=>a [nth b 0,nth b 1,nth b 2,x])) (ae (ah (aa T 29 (nth b 0) 6)) fun y=>ae (ah (aa T 27 y 0)) fun z=>ae (ah (aj T 23 z)) fun A=>ae (ah (aJ T 23 A)) fun B=>fx (L50_0 call fx) [nth b 0,A,B,.int .i64 0])
def L50_2(call:CC)(fx:bJ AV)(a:RR)(b:List AV):M AV:=ae (ah (am T .lss 3 (nth b 3) (nth b 2))) fun c=>ap c (ae (ah (ak T 23 (nth b 1) (nth b 3))) fun d=>ae (ah (aj T 87 d)) fun e=>ae (aC 3 e) fun f=>ae (ah (aa T 29 (nth b 0) 0)) fun g=>ae (ah (aj T 9 g)) fun h=>ae (ah (aa T 29 (nth b 0) 3)) fun i=>ae (ah (aj T 24 i)) fun j=>ae (ah (ak T 24 j (nth b 3))) fun k=>ae (ah (aj T 74 k)) fun l=>ae (ah (aa T 87 (.ip (ab f)) 1)) fun m=>ae (ah (aj T 72 m)) fun n=>ae (bY (call 144 [h,.sl [],l,n])) fun o=>ae (ah (am T .neq 33 o (.int .i64 0))) fun p=>ap p (ae (ah (aa T 87 (.ip (ab f)) 0)) fun q=>ae (ah (aj T 9 q)) fun r=>M.pure (AV.tup [r,o])) (ae (ah (am T .add 3 (nth b 3) (.int .i64 1))) fun s=>a [nth b 0,nth b 1,nth b 2,s])) (ae (ah (aa T 29 (nth b 0) 5)) fun u=>ae (ah (aj T 4 u)) fun v=>ae (ah (fO UnOp.not v)) fun w=>ap w (M.pure (AV.tup [.str [],.int .i64 0])) (ae (ah (aa T 29 (nth b 0) 2)) fun x=>ae (ah (aj T 23 x)) fun y=>ae (ah (aJ T 23 y)) fun z=>fx (L50_1 call fx) [nth b 0,y,z,.int .i64 0]))
theorem XL50_0{call:CC}:bB (L50_0 call af) fun _n=>L50_0 call af  :=by
 intro v55 v55s hself v56
 unfold L50_0
 exact (lb fun _=>(ao (lb fun _=>(lb fun _=>(lb fun _=>(lb fun _=>(lb fun _=>(lb fun _=>(lb fun _=>(lb fun _=>(lb fun _=>(lb fun _=>(lb fun _=>(lb fun _=>(lb fun _=>(lb fun _=>(lb fun _=>(lb fun _=>(ao (aE.const _) (lb fun _=>(hself _))))))))))))))))))) (aE.const _)))
theorem FL50_0(call:CC)(vs:List AV):af (L50_0 call af) vs=L50_0 call af  (af (L50_0 call af)) vs:=aQ (XL50_0) vs
theorem XL50_1{call:CC}:bB (L50_1 call af) fun _n=>L50_1 call af  :=by
 intro v28 v28s hself v29
 unfold L50_1
 exact (lb fun _=>(ao (lb fun _=>(lb fun _=>(lb fun _=>(lb fun _=>(lb fun _=>(lb fun _=>(lb fun _=>(lb fun _=>(lb fun _=>(lb fun _=>(lb fun _=>(lb fun _=>(lb fun _=>(lb fun _=>(lb fun _=>(lb fun _=>(lb fun _=>(ao (aE.const _) (lb fun _=>(hself _)))))))))))))))))))) (aE.const _)))
theorem FL50_1(call:CC)(vs:List AV):af (L50_1 call af) vs=L50_1 call af  (af (L50_1 call af)) vs:=aQ (XL50_1) vs
theorem XL50_2{call:CC}:bB (L50_2 call af) fun _n=>L50_2 call af  :=by
 intro v3 v3s hself v4
 unfold L50_2
 exact (lb fun _=>(ao (lb fun _=>(lb fun _=>(lb fun _=>(lb fun _=>(lb fun _=>(lb fun _=>(lb fun _=>(lb fun _=>(lb fun _=>(lb fun _=>(lb fun _=>(lb fun _=>(lb fun _=>(ao (aE.const _) (lb fun _=>(hself _)))))))))))))))) (aE.const _)))
theorem FL50_2(call:CC)(vs:List AV):af (L50_2 call af) vs=L50_2 call af  (af (L50_2 call af)) vs:=aQ (XL50_2) vs
def S50(call:CC)(fx:bJ AV)(a0:AV):M AV:=ae (ah (aa T 29 (.ip (ab a0)) 2)) fun a=>ae (ah (aj T 23 a)) fun b=>ae (ah (aJ T 23 b)) fun c=>fx (L50_2 call fx) [.ip (ab a0),b,c,.int .i64 0]
theorem E50(a0:AV):EE 50 Tryz.f50 HJ [a0] (fun c x=>S50 c x a0):=fun _ _=>by kernel_rfl
theorem C50(a0:AV):ai pg 50 [a0]=aF (S50 (ai pg) af (cl ax a0)):=(ay hOther rfl rfl rfl _).trans (congrArg aF (E50 (cl ax a0) _ _))
def S56(call:CC)(fx:bJ AV)(a0:AV):M AV:=ae (ah (aj T 74 (.ip (ab a0)))) fun a=>ae (call 156 [a,.int .i64 12]) fun b=>M.pure b
theorem E56(a0:AV):EE 56 Tryz.f56 HP [a0] (fun c x=>S56 c x a0):=fun _ _=>by kernel_rfl
theorem C56(a0:AV):ai pg 56 [a0]=aF (S56 (ai pg) af (cl ax a0)):=(ay hOther rfl rfl rfl _).trans (congrArg aF (E56 (cl ax a0) _ _))
def L74_0(call:CC)(fx:bJ AV)(a:RR)(b:List AV):M AV:=ae (ah (aj T 65 (nth b 0))) fun c=>ae (ah (am T .neq 65 (.agg [nth b 3,nth b 4]) c)) fun d=>ap d (ae (cL T 158 (nth b 1) (.agg [nth b 3,nth b 4]) false) fun e=>ae (ar 2 [] e) fun f=>ae (ah (aB T 79 1 [(0,.agg [nth (ab f) 0,nth (ab f) 1])])) fun g=>ae (appH T 79 false (nth b 2) g) fun h=>a [nth b 0,nth b 1,h,nth (ab f) 0,nth (ab f) 1]) (ae (call 178 [nth b 2]) fun i=>M.pure (AV.tup [nth b 2,.bool true]))
theorem XL74_0{call:CC}:bB (L74_0 call af) fun _n=>L74_0 call af  :=by
 intro v10 v10s hself v11
 unfold L74_0
 exact (lb fun _=>(lb fun _=>(ao (lb fun _=>(lb fun _=>(lb fun _=>(lb fun _=>(hself _))))) (aE.const _))))
theorem FL74_0(call:CC)(vs:List AV):af (L74_0 call af) vs=L74_0 call af  (af (L74_0 call af)) vs:=aQ (XL74_0) vs
def S74(call:CC)(fx:bJ AV)(a0 a1 a2:AV):M AV:=ae (aC 2 a2) fun a=>ae (ah (aj T 65 (.ip (ab a1)))) fun b=>ae (call 88 [a0]) fun c=>ae (call 87 [c,b]) fun d=>ae (cL T 158 d (.agg [nth (ab a) 0,nth (ab a) 1]) true) fun e=>ae (ah (az e 0)) fun f=>ae (ah (az e 1)) fun g=>ae (aC 2 f) fun h=>ae (ah (fO UnOp.not g)) fun i=>ap i (M.pure (AV.tup [.sl [],.bool false])) (ae (ki T 79 1 [(0,.agg [nth (ab a) 0,nth (ab a) 1])]) fun j=>fx (L74_0 call fx) [.ip (ab a1),d,j,nth (ab a) 0,nth (ab a) 1])
theorem E74(a0 a1 a2:AV):EE 74 Tryz.f74 HS [a0,a1,a2] (fun c x=>S74 c x a0 a1 a2):=fun _ _=>by kernel_rfl
theorem C74(a0 a1 a2:AV):ai pg 74 [a0,a1,a2]=aF (S74 (ai pg) af (cl ax a0) (cl ax a1) (cl ax a2)):=(ay hOther rfl rfl rfl _).trans (congrArg aF (E74 (cl ax a0) (cl ax a1) (cl ax a2) _ _))
def S76(call:CC)(fx:bJ AV)(a0 a1:AV):M AV:=ae (call 88 [a0]) fun a=>ae (ah (aj T 65 (.ip (ab a1)))) fun b=>ae (cL T 160 a b true) fun c=>ae (ah (az c 0)) fun d=>ae (ah (az c 1)) fun e=>ae (aC 12 d) fun f=>ae (ah (fO UnOp.not e)) fun g=>ap g (M.pure (AV.sl [])) (ae (ah (aj T 65 (.ip (ab a1)))) fun h=>ae (call 179 [a,h]) fun i=>M.pure i)
theorem E76(a0 a1:AV):EE 76 Tryz.f76 HU [a0,a1] (fun c x=>S76 c x a0 a1):=fun _ _=>by kernel_rfl
theorem C76(a0 a1:AV):ai pg 76 [a0,a1]=aF (S76 (ai pg) af (cl ax a0) (cl ax a1)):=(ay hOther rfl rfl rfl _).trans (congrArg aF (E76 (cl ax a0) (cl ax a1) _ _))
def L77_0(call:CC)(fx:bJ AV)(a:RR)(b:List AV):M AV:=gY (nth b 3) (ae (call 180 [nth b 2,.fn (Fn.func 89) [] []]) fun c=>ae (ah (some (nth b 2))) tm) (ae (fC (nth b 3)) fun d=>ae (ah (az d 0)) fun e=>ae (ah (az d 1)) fun f=>ae (aC 2 e) fun g=>ae (aC 12 f) fun h=>ae (ah (aj T 65 (.ip (ab g)))) fun i=>ae (ah (aj T 65 (nth b 0))) fun j=>ae (call 87 [nth b 1,i]) fun k=>ae (cL T 158 k j true) fun l=>ae (ah (az l 0)) fun m=>ae (ah (az l 1)) fun n=>ae (aC 2 m) fun o=>ae (aA n true 1 (ae (ah (aa T 76 (.ip (ab h)) 1)) fun p=>ae (ah (aj T 4 p)) fun q=>M.pure [q])) fun r=>ae (ah (aK n (nth r 0) (.bool false))) fun s=>ap s (ae (ah (aj T 65 (.ip (ab g)))) fun u=>ae (ah (aB T 79 1 [(0,u)])) fun v=>ae (appH T 79 false (nth b 2) v) fun w=>a [nth b 0,nth b 1,w,nth b 3]) (a [nth b 0,nth b 1,nth b 2,nth b 3]))
theorem XL77_0{call:CC}:bB (L77_0 call af) fun _n=>L77_0 call af  :=by
 intro v2 v2s hself v3
 unfold L77_0
 exact (ru (aE.const _) (lb fun _=>(lb fun _=>(lb fun _=>(lb fun _=>(lb fun _=>(lb fun _=>(lb fun _=>(lb fun _=>(lb fun _=>(lb fun _=>(lb fun _=>(lb fun _=>(lb fun _=>(lb fun _=>(ao (lb fun _=>(lb fun _=>(lb fun _=>(hself _)))) (hself _)))))))))))))))) _)
theorem FL77_0(call:CC)(vs:List AV):af (L77_0 call af) vs=L77_0 call af  (af (L77_0 call af)) vs:=aQ (XL77_0) vs
def S77(call:CC)(fx:bJ AV)(a0 a1:AV):M AV:=ae (call 88 [a0]) fun a=>ae (fY T 160 a) fun b=>fx (L77_0 call fx) [.ip (ab a1),a,.hn,b]
theorem E77(a0 a1:AV):EE 77 Tryz.f77 HV [a0,a1] (fun c x=>S77 c x a0 a1):=fun _ _=>by kernel_rfl
theorem C77(a0 a1:AV):ai pg 77 [a0,a1]=aF (S77 (ai pg) af (cl ax a0) (cl ax a1)):=(ay hOther rfl rfl rfl _).trans (congrArg aF (E77 (cl ax a0) (cl ax a1) _ _))
def S84(call:CC)(fx:bJ AV)(a0 a1:AV):M AV:=ae (call 184 [a0]) fun a=>ae (call 184 [a1]) fun b=>ap a (ap b (M.pure (AV.int .i64 0)) (M.pure (AV.int .i64 (-1)))) (ap b (M.pure (AV.int .i64 1)) (ae (ah (am T .lss 9 a0 a1)) fun c=>ap c (M.pure (AV.int .i64 (-1))) (ae (ah (am T .gtr 9 a0 a1)) fun d=>ap d (M.pure (AV.int .i64 1)) (M.pure (AV.int .i64 0)))))
theorem E84(a0 a1:AV):EE 84 Tryz.f84 zZ [a0,a1] (fun c x=>S84 c x a0 a1):=fun _ _=>by kernel_rfl
theorem C84(a0 a1:AV):ai pg 84 [a0,a1]=aF (S84 (ai pg) af (cl ax a0) (cl ax a1)):=(ay hOther rfl rfl rfl _).trans (congrArg aF (E84 (cl ax a0) (cl ax a1) _ _))
def L149_0(call:CC)(fx:bJ AV)(a:RR)(b:List AV):M AV:=ae (ah (am T .lss 3 (nth b 5) (nth b 4))) fun c=>ap c (ae (ah (ak T 24 (nth b 3) (nth b 5))) fun d=>ae (ah (aj T 74 d)) fun e=>ae (aC 6 e) fun f=>ae (ah (aj T 74 (.ip (ab f)))) fun g=>ae (call 51 [nth b 0,nth b 1,g]) fun h=>ae (ah (az h 0)) fun i=>ae (ah (az h 1)) fun j=>ae (aC 2 i) fun k=>ae (ah (am T .neq 33 j (.int .i64 0))) fun l=>ap l (M.pure (AV.tup [.sl [],j])) (ae (ah (aj T 72 (.ip (ab k)))) fun m=>ae (ah (aB T 148 1 [(0,m)])) fun n=>ae (ah (dL T 148 (nth b 2) n)) fun o=>ae (ah (am T .add 3 (nth b 5) (.int .i64 1))) fun p=>a [nth b 0,nth b 1,o,nth b 3,nth b 4,p])) (M.pure (AV.tup [nth b 2,.int .i64 0]))
theorem XL149_0{call:CC}:bB (L149_0 call af) fun _n=>L149_0 call af  :=by
 intro v1 v1s hself v2
 unfold L149_0
 exact (lb fun _=>(ao (lb fun _=>(lb fun _=>(lb fun _=>(lb fun _=>(lb fun _=>(lb fun _=>(lb fun _=>(lb fun _=>(lb fun _=>(ao (aE.const _) (lb fun _=>(lb fun _=>(lb fun _=>(lb fun _=>(hself _))))))))))))))) (aE.const _)))
theorem FL149_0(call:CC)(vs:List AV):af (L149_0 call af) vs=L149_0 call af  (af (L149_0 call af)) vs:=aQ (XL149_0) vs
def S149(call:CC)(fx:bJ AV)(a0 a1 a2:AV):M AV:=ae (ah (aJ T 24 a2)) fun a=>fx (L149_0 call fx) [a0,a1,.sl [],a2,a,.int .i64 0]
theorem E149(a0 a1 a2:AV):EE 149 Tryz.f149 CX [a0,a1,a2] (fun c x=>S149 c x a0 a1 a2):=fun _ _=>by kernel_rfl
theorem C149(a0 a1 a2:AV):ai pg 149 [a0,a1,a2]=S149 (ai pg) af a0 a1 a2:=(cz hOther rfl rfl rfl _).trans (E149 a0 a1 a2 _ _)
def S151(call:CC)(fx:bJ AV)(a0 a1:AV):M AV:=ae (call 228 [a0,a1]) fun a=>ae (ah (am T .geq 3 a (.int .i64 0))) fun b=>M.pure b
theorem E151(a0 a1:AV):EE 151 Tryz.f151 CZ [a0,a1] (fun c x=>S151 c x a0 a1):=fun _ _=>by kernel_rfl
theorem C151(a0 a1:AV):ai pg 151 [a0,a1]=aF (S151 (ai pg) af (cl ax a0) (cl ax a1)):=(ay hOther rfl rfl rfl _).trans (congrArg aF (E151 (cl ax a0) (cl ax a1) _ _))
def S152(call:CC)(fx:bJ AV)(a0 a1:AV):M AV:=ae (ah (aa T 72 a1 1)) fun a=>ae (ah (aj T 23 a)) fun b=>ae (ah (aa T 87 (.ip (ab a0)) 0)) fun c=>ae (ah (aj T 9 c)) fun d=>ae (call 145 [b,d]) fun e=>ae (ah (az e 0)) fun f=>ae (ah (az e 1)) fun g=>ae (aC 2 f) fun h=>ae (ah (fO UnOp.not g)) fun i=>ae (aA i false 1 (ae (ah (aj T 72 (.ip (ab h)))) fun j=>ae (ah (aa T 87 (.ip (ab a0)) 1)) fun k=>ae (ah (aj T 72 k)) fun l=>ae (call 52 [j,l]) fun m=>ae (ah (fO UnOp.not m)) fun n=>M.pure [n])) fun o=>ae (ah (aK i (.bool true) (nth o 0))) fun p=>M.pure p
theorem E152(a0 a1:AV):EE 152 Tryz.f152 C0 [a0,a1] (fun c x=>S152 c x a0 a1):=fun _ _=>by kernel_rfl
theorem C152(a0 a1:AV):ai pg 152 [a0,a1]=aF (S152 (ai pg) af (cl ax a0) (cl ax a1)):=(ay hOther rfl rfl rfl _).trans (congrArg aF (E152 (cl ax a0) (cl ax a1) _ _))
def S177(call:CC)(fx:bJ AV)(a0 a1:AV):M AV:=ae (ah (aL T false 74 [(0,.int .i64 15),(3,a0),(2,a1)])) fun a=>ae (ar 6 [] a) fun b=>M.pure (AV.agg [nth (ab b) 0,nth (ab b) 1,nth (ab b) 2,nth (ab b) 3,nth (ab b) 4,nth (ab b) 5])
theorem E177(a0 a1:AV):EE 177 Tryz.f177 C4 [a0,a1] (fun c x=>S177 c x a0 a1):=fun _ _=>by kernel_rfl
theorem C177(a0 a1:AV):ai pg 177 [a0,a1]=aF (S177 (ai pg) af (cl ax a0) (cl ax a1)):=(ay hOther rfl rfl rfl _).trans (congrArg aF (E177 (cl ax a0) (cl ax a1) _ _))
def S179(call:CC)(fx:bJ AV)(a0 a1:AV):M AV:=ae dU fun a=>ae (aC 1 a) fun b=>ae (ah (aj T 160 (.ip (ab a0)))) fun c=>ae (ah (aj T 65 (.ip (ab a1)))) fun d=>ae (cL T 160 c d false) fun e=>ae (ah (nN T 76 e 5)) fun f=>ae (call 90 [f,.fn (Fn.func 247) [] [.ip (ab a1),.ip (ab a0),.ip (ab b)]]) fun g=>ae (ah (aj T 311 (.ip (ab b)))) fun h=>ae (call 249 [h]) fun i=>ae (call 85 [i,.fn (Fn.func 89) [] []]) fun j=>M.pure j
theorem E179(a0 a1:AV):EE 179 Tryz.f179 C7 [a0,a1] (fun c x=>S179 c x a0 a1):=fun _ _=>by kernel_rfl
theorem C179(a0 a1:AV):ai pg 179 [a0,a1]=S179 (ai pg) af a0 a1:=(cz hOther rfl rfl rfl _).trans (E179 a0 a1 _ _)
def S184(call:CC)(fx:bJ AV)(a0:AV):M AV:=ae (ah (am T .neq 9 a0 a0)) fun a=>M.pure a
theorem E184(a0:AV):EE 184 Tryz.f184 ub [a0] (fun c x=>S184 c x a0):=fun _ _=>by kernel_rfl
theorem C184(a0:AV):ai pg 184 [a0]=aF (S184 (ai pg) af (cl ax a0)):=(ay hOther rfl rfl rfl _).trans (congrArg aF (E184 (cl ax a0) _ _))
def L224_0(call:CC)(fx:bJ AV)(a:RR)(b:List AV):M AV:=ae (ah (am T .lss 3 (nth b 2) (nth b 1))) fun c=>ap c (ae (ah (ak T 23 (nth b 0) (nth b 2))) fun d=>ae (ah (aj T 87 d)) fun e=>ae (aC 3 e) fun f=>ae (ah (aa T 87 (.ip (ab f)) 1)) fun g=>ae (ah (aj T 72 g)) fun h=>ae (ah (aB T 148 1 [(0,h)])) fun i=>ae (ah (dL T 148 (nth b 9) i)) fun j=>ae (cq j) fun k=>ae (ah (am T .add 3 (nth b 2) (.int .i64 1))) fun l=>a [nth b 0,nth b 1,l,nth b 3,nth b 4,nth b 5,nth b 6,nth b 7,nth b 8,j,nth b 10,nth b 11,nth b 12]) (ae (ar 5 [] (.agg [nth b 8,nth b 9,nth b 10,nth b 11,nth b 12])) fun m=>M.pure (AV.tup [.agg [nth (ab m) 0,nth (ab m) 1,nth (ab m) 2,nth (ab m) 3,nth (ab m) 4],.bool true]))
theorem XL224_0{call:CC}:bB (L224_0 call af) fun _n=>L224_0 call af  :=by
 intro v27 v27s hself v28
 unfold L224_0
 exact (lb fun _=>(ao (lb fun _=>(lb fun _=>(lb fun _=>(lb fun _=>(lb fun _=>(lb fun _=>(lb fun _=>(lb fun _=>(lb fun _=>(hself _)))))))))) (aE.const _)))
theorem FL224_0(call:CC)(vs:List AV):af (L224_0 call af) vs=L224_0 call af  (af (L224_0 call af)) vs:=aQ (XL224_0) vs
def S224(call:CC)(fx:bJ AV)(a0 a1:AV):M AV:=ae (ah (aa T 74 (.ip (ab a1)) 3)) fun a=>ae (ah (aj T 9 a)) fun b=>ae (ah (am T .eql 9 b (.str []))) fun c=>ap c (ae (ah (cP a0)) fun d=>ae (ah (aa T 120 d 0)) fun e=>ae (ah (aa T 29 e 4)) fun f=>ae (bA T 25 f) fun g=>ae (call 203 [g,.fn (Fn.func 289) [] [.ip (ab a1)]]) fun h=>ae (ah (am T .lss 3 h (.int .i64 0))) fun i=>ap i (ae (ah (aL T false 150 [])) fun j=>ae (ar 5 [] j) fun k=>M.pure (AV.tup [.agg [nth (ab k) 0,nth (ab k) 1,nth (ab k) 2,nth (ab k) 3,nth (ab k) 4],.bool false])) (ae (ah (cP a0)) fun l=>ae (ah (aa T 120 l 0)) fun m=>ae (ah (aa T 29 m 4)) fun n=>ae (bA T 25 n) fun o=>ae (ah (ak T 25 o h)) fun p=>ae (ah (aj T 76 p)) fun q=>ae (aC 12 q) fun r=>ae (ah (aa T 76 (.ip (ab r)) 3)) fun s=>ae (ah (aj T 72 s)) fun u=>ae (ah (aa T 76 (.ip (ab r)) 4)) fun v=>ae (ah (aj T 3 v)) fun w=>ae (ah (aL T true 150 [(2,u),(3,w)])) fun x=>ae (ar 5 [1] x) fun y=>ae (ah (aa T 76 (.ip (ab r)) 2)) fun z=>ae (ah (aj T 23 z)) fun A=>ae (ah (aJ T 23 A)) fun B=>fx (L224_0 call fx) [A,B,.int .i64 0,.str [],.sl [],.int .i64 0,.sl [],.int .i64 0,nth (ab y) 0,.sl [],nth (ab y) 2,nth (ab y) 3,nth (ab y) 4])) (ae (ah (cP a0)) fun C=>ae (ah (aa T 120 C 1)) fun D=>ae (bA T 118 D) fun E=>ae (ah (aa T 74 (.ip (ab a1)) 3)) fun F=>ae (ah (aj T 9 F)) fun G=>ae (cL T 118 E G true) fun H=>ae (ah (az H 0)) fun I=>ae (ah (az H 1)) fun J=>ae (aC 2 I) fun K=>ae (ah (aa T 69 (.ip (ab K)) 1)) fun L=>ae (ah (aj T 67 L)) fun N=>ae (call 290 [N,.fn (Fn.func 291) [] [.ip (ab a1)]]) fun O=>ae (ah (fO UnOp.not J)) fun P=>ae (aA P false 1 (ae (ah (am T .lss 3 O (.int .i64 0))) fun Q=>M.pure [Q])) fun R=>ae (ah (aK P (.bool true) (nth R 0))) fun S=>ae (aA S false 1 (ae (ah (cP a0)) fun U=>ae (ah (aa T 120 U 0)) fun V=>ae (ah (aa T 29 V 1)) fun W=>ae (bA T 22 W) fun X=>ae (ah (aa T 74 (.ip (ab a1)) 3)) fun Y=>ae (ah (aj T 9 Y)) fun Z=>ae (bY (call 209 [X,Z])) fun u0=>ae (ah (fO UnOp.not u0)) fun u1=>M.pure [u1])) fun u2=>ae (ah (aK S (.bool true) (nth u2 0))) fun u3=>ap u3 (ae (ah (aL T false 150 [])) fun u4=>ae (ar 5 [] u4) fun u5=>M.pure (AV.tup [.agg [nth (ab u5) 0,nth (ab u5) 1,nth (ab u5) 2,nth (ab u5) 3,nth (ab u5) 4],.bool false])) (ae (ah (aa T 69 (.ip (ab K)) 1)) fun u6=>ae (ah (aj T 67 u6)) fun u7=>ae (ah (ak T 67 u7 O)) fun u8=>ae (ah (aj T 150 u8)) fun u9=>ae (ar 5 [] u9) fun w0=>M.pure (AV.tup [.agg [nth (ab w0) 0,nth (ab w0) 1,nth (ab w0) 2,nth (ab w0) 3,nth (ab w0) 4],.bool true])))
theorem E224(a0 a1:AV):EE 224 Tryz.f224 Dc [a0,a1] (fun c x=>S224 c x a0 a1):=fun _ _=>by kernel_rfl
theorem C224(a0 a1:AV):ai pg 224 [a0,a1]=S224 (ai pg) af a0 a1:=(cz hOther rfl rfl rfl _).trans (E224 a0 a1 _ _)
def L228_0(call:CC)(fx:bJ AV)(a:RR)(b:List AV):M AV:=ae (ah (am T .lss 3 (nth b 3) (nth b 2))) fun c=>ap c (ae (ah (ak T 23 (nth b 0) (nth b 3))) fun d=>ae (ah (aj T 87 d)) fun e=>ae (bH call (nth b 1) [e]) fun f=>ap f (M.pure (nth b 3)) (ae (ah (am T .add 3 (nth b 3) (.int .i64 1))) fun g=>a [nth b 0,nth b 1,nth b 2,g])) (M.pure (AV.int .i64 (-1)))
theorem XL228_0{call:CC}:bB (L228_0 call af) fun _n=>L228_0 call af  :=by
 intro v1 v1s hself v2
 unfold L228_0
 exact (lb fun _=>(ao (lb fun _=>(lb fun _=>(lb fun _=>(ao (aE.const _) (lb fun _=>(hself _)))))) (aE.const _)))
theorem FL228_0(call:CC)(vs:List AV):af (L228_0 call af) vs=L228_0 call af  (af (L228_0 call af)) vs:=aQ (XL228_0) vs
def S228(call:CC)(fx:bJ AV)(a0 a1:AV):M AV:=ae (ah (aJ T 23 a0)) fun a=>fx (L228_0 call fx) [a0,a1,a,.int .i64 0]
theorem E228(a0 a1:AV):EE 228 Tryz.f228 Dg [a0,a1] (fun c x=>S228 c x a0 a1):=fun _ _=>by kernel_rfl
theorem C228(a0 a1:AV):ai pg 228 [a0,a1]=aF (S228 (ai pg) af (cl ax a0) (cl ax a1)):=(ay hOther rfl rfl rfl _).trans (congrArg aF (E228 (cl ax a0) (cl ax a1) _ _))
def S231(call:CC)(fx:bJ AV)(a0:AV):M AV:=ae (call 229 [a0]) fun a=>ae (aA a false 1 (ae (call 232 [a0]) fun b=>M.pure [b])) fun c=>ae (ah (aK a (.bool true) (nth c 0))) fun d=>M.pure d
theorem E231(a0:AV):EE 231 Tryz.f231 Dj [a0] (fun c x=>S231 c x a0):=fun _ _=>by kernel_rfl
theorem C231(a0:AV):ai pg 231 [a0]=aF (S231 (ai pg) af (cl ax a0)):=(ay hOther rfl rfl rfl _).trans (congrArg aF (E231 (cl ax a0) _ _))
def K234_0(call:CC)(fx:bJ AV)(a:List AV):M AV:=ap (nth a 2) (ae (ah (aa T 74 (nth a 0) 2)) fun b=>ae (ah (aj T 9 b)) fun c=>ae (cq c) fun d=>ae (ar 6 [] (.agg [nth a 9,nth a 10,c,nth a 12,nth a 13,nth a 14])) fun e=>M.pure (AV.tup [.agg [nth (ab e) 0,nth (ab e) 1,nth (ab e) 2,nth (ab e) 3,nth (ab e) 4,nth (ab e) 5],.int .i64 1])) (ae (ah (am T .eql 3 (nth a 1) (.int .i64 16))) fun f=>ap f (ae (ah (aa T 74 (nth a 0) 1)) fun g=>ae (ah (aj T 3 g)) fun h=>ae (cq h) fun i=>ae (ar 6 [] (.agg [nth a 9,h,nth a 11,nth a 12,nth a 13,nth a 14])) fun j=>M.pure (AV.tup [.agg [nth (ab j) 0,nth (ab j) 1,nth (ab j) 2,nth (ab j) 3,nth (ab j) 4,nth (ab j) 5],.int .i64 1])) (ae (ah (am T .eql 3 (nth a 1) (.int .i64 10))) fun k=>ap k (ae (ar 6 [] (.agg [nth a 9,nth a 10,nth a 11,nth a 12,nth a 13,nth a 14])) fun l=>M.pure (AV.tup [.agg [nth (ab l) 0,nth (ab l) 1,nth (ab l) 2,nth (ab l) 3,nth (ab l) 4,nth (ab l) 5],.int .i64 1])) (ae (ah (am T .eql 3 (nth a 1) (.int .i64 12))) fun m=>ap m (ae (ah (aa T 74 (nth a 0) 2)) fun n=>ae (ah (aj T 9 n)) fun o=>ae (cq o) fun p=>ae (ar 6 [] (.agg [nth a 9,nth a 10,o,nth a 12,nth a 13,nth a 14])) fun q=>M.pure (AV.tup [.agg [nth (ab q) 0,nth (ab q) 1,nth (ab q) 2,nth (ab q) 3,nth (ab q) 4,nth (ab q) 5],.int .i64 2])) (ae (ah (am T .eql 3 (nth a 1) (.int .i64 11))) fun r=>ap r (ae (ar 6 [] (.agg [nth a 9,nth a 10,nth a 11,nth a 12,nth a 13,nth a 14])) fun s=>M.pure (AV.tup [.agg [nth (ab s) 0,nth (ab s) 1,nth (ab s) 2,nth (ab s) 3,nth (ab s) 4,nth (ab s) 5],.int .i64 3])) (ae (ah (am T .eql 3 (nth a 1) (.int .i64 13))) fun u=>ap u (ae (ah (aa T 74 (nth a 0) 4)) fun v=>ae (ah (aj T 22 v)) fun w=>ae (cq w) fun x=>ae (ah (aa T 74 (nth a 0) 4)) fun y=>ae (ah (aj T 22 y)) fun z=>ae (ah (aJ T 22 z)) fun A=>ae (ar 6 [] (.agg [nth a 9,nth a 10,nth a 11,nth a 12,w,nth a 14])) fun B=>M.pure (AV.tup [.agg [nth (ab B) 0,nth (ab B) 1,nth (ab B) 2,nth (ab B) 3,nth (ab B) 4,nth (ab B) 5],A])) (ae (ah (am T .eql 3 (nth a 1) (.int .i64 15))) fun C=>ap C (ae (ah (aa T 74 (nth a 0) 2)) fun D=>ae (ah (aj T 9 D)) fun E=>ae (ah (aa T 74 (nth a 0) 3)) fun F=>ae (ah (aj T 9 F)) fun G=>ae (cq E) fun H=>ae (cq G) fun I=>ae (ar 6 [] (.agg [nth a 9,nth a 10,E,G,nth a 13,nth a 14])) fun J=>M.pure (AV.tup [.agg [nth (ab J) 0,nth (ab J) 1,nth (ab J) 2,nth (ab J) 3,nth (ab J) 4,nth (ab J) 5],.int .i64 (-1)])) (ae (ar 6 [] (.agg [nth a 9,nth a 10,nth a 11,nth a 12,nth a 13,nth a 14])) fun K=>M.pure (AV.tup [.agg [nth (ab K) 0,nth (ab K) 1,nth (ab K) 2,nth (ab K) 3,nth (ab K) 4,nth (ab K) 5],.int .i64 2]))))))))
def K234_1(call:CC)(fx:bJ AV)(a:List AV):M AV:=ap (nth a 2) (ae (ah (aa T 74 (nth a 0) 2)) fun b=>ae (ah (aj T 9 b)) fun c=>ae (cq c) fun d=>ae (ar 6 [] (.agg [nth a 9,nth a 10,c,nth a 12,nth a 13,nth a 14])) fun e=>M.pure (AV.tup [.agg [nth (ab e) 0,nth (ab e) 1,nth (ab e) 2,nth (ab e) 3,nth (ab e) 4,nth (ab e) 5],.int .i64 0])) (jn (K234_0 call fx) fun f=>ae (ah (am T .eql 3 (nth a 1) (.int .i64 18))) fun g=>ap g (f [nth a 0,nth a 1,g,nth a 3,nth a 4,nth a 5,nth a 6,nth a 7,nth a 8,nth a 9,nth a 10,nth a 11,nth a 12,nth a 13,nth a 14]) (ae (ah (am T .eql 3 (nth a 1) (.int .i64 14))) fun h=>f [nth a 0,nth a 1,h,nth a 3,nth a 4,nth a 5,nth a 6,nth a 7,nth a 8,nth a 9,nth a 10,nth a 11,nth a 12,nth a 13,nth a 14]))
def K234_2(call:CC)(fx:bJ AV)(a:List AV):M AV:=ap (nth a 2) (ae (ah (aa T 74 (nth a 0) 1)) fun b=>ae (ah (aj T 3 b)) fun c=>ae (cq c) fun d=>ae (ar 6 [] (.agg [nth a 9,c,nth a 11,nth a 12,nth a 13,nth a 14])) fun e=>M.pure (AV.tup [.agg [nth (ab e) 0,nth (ab e) 1,nth (ab e) 2,nth (ab e) 3,nth (ab e) 4,nth (ab e) 5],.int .i64 0])) (jn (K234_1 call fx) fun f=>ae (ah (am T .eql 3 (nth a 1) (.int .i64 2))) fun g=>ap g (f [nth a 0,nth a 1,g,nth a 3,nth a 4,nth a 5,nth a 6,nth a 7,nth a 8,nth a 9,nth a 10,nth a 11,nth a 12,nth a 13,nth a 14]) (ae (ah (am T .eql 3 (nth a 1) (.int .i64 17))) fun h=>f [nth a 0,nth a 1,h,nth a 3,nth a 4,nth a 5,nth a 6,nth a 7,nth a 8,nth a 9,nth a 10,nth a 11,nth a 12,nth a 13,nth a 14]))
def S234(call:CC)(fx:bJ AV)(a0:AV):M AV:=ae (ah (aa T 74 (.ip (ab a0)) 0)) fun a=>ae (ah (aj T 3 a)) fun b=>ae (ah (aa T 74 (.ip (ab a0)) 5)) fun c=>ae (ah (aj T 24 c)) fun d=>ae (ah (aL T false 74 [(0,b),(5,d)])) fun e=>ae (ar 6 [] e) fun f=>ae (ah (aa T 74 (.ip (ab a0)) 0)) fun g=>ae (ah (aj T 3 g)) fun h=>jn (K234_2 call fx) fun i=>ae (ah (am T .eql 3 h (.int .i64 0))) fun j=>ap j (i [.ip (ab a0),h,j,.int .i64 0,.int .i64 0,.str [],.str [],.sl [],.sl [],nth (ab f) 0,nth (ab f) 1,nth (ab f) 2,nth (ab f) 3,nth (ab f) 4,nth (ab f) 5]) (ae (ah (am T .eql 3 h (.int .i64 1))) fun k=>i [.ip (ab a0),h,k,.int .i64 0,.int .i64 0,.str [],.str [],.sl [],.sl [],nth (ab f) 0,nth (ab f) 1,nth (ab f) 2,nth (ab f) 3,nth (ab f) 4,nth (ab f) 5])
theorem E234(a0:AV):EE 234 Tryz.f234 Dl [a0] (fun c x=>S234 c x a0):=fun _ _=>by kernel_rfl
theorem C234(a0:AV):ai pg 234 [a0]=aF (S234 (ai pg) af (cl ax a0)):=(ay hOther rfl rfl rfl _).trans (congrArg aF (E234 (cl ax a0) _ _))
def L12_0(call:CC)(fx:bJ AV)(a:RR)(b:List AV):M AV:=ae (ah (am T .lss 3 (nth b 3) (nth b 2))) fun c=>ap c (ae (ah (ak T 25 (nth b 1) (nth b 3))) fun d=>ae (ah (aj T 76 d)) fun e=>ae (aC 12 e) fun f=>ae (ah (cP (nth b 0))) fun g=>ae (ah (aa T 120 g 2)) fun h=>ae (bK T 3 h (.int .i64 0)) fun i=>ae (ah (aa T 76 (.ip (ab f)) 2)) fun j=>ae (ah (aj T 23 j)) fun k=>ae (ah (aa T 76 (.ip (ab f)) 5)) fun l=>ae (ah (aj T 74 l)) fun m=>ae (call 51 [nth b 0,k,m]) fun n=>ae (ah (az n 0)) fun o=>ae (ah (az n 1)) fun p=>ae (aC 2 o) fun q=>ae (ah (am T .neq 33 p (.int .i64 0))) fun r=>ap r (ae (ah (aa T 76 (.ip (ab f)) 0)) fun s=>ae (ah (aj T 9 s)) fun u=>M.pure (AV.tup [u,p])) (ae (ah (aj T 72 (.ip (ab q)))) fun v=>ae (ah (aa T 76 (.ip (ab f)) 3)) fun w=>ae (ah (aj T 72 w)) fun x=>ae (call 52 [v,x]) fun y=>ae (ah (fO UnOp.not y)) fun z=>ap z (ae (ah (aa T 76 (.ip (ab f)) 0)) fun A=>ae (ah (aj T 9 A)) fun B=>M.pure (AV.tup [B,.int .i64 13])) (ae (ah (cP (nth b 0))) fun C=>ae (ah (aa T 120 C 2)) fun D=>ae (bA T 3 D) fun E=>ae (ah (aa T 76 (.ip (ab f)) 4)) fun F=>ae (ah (aj T 3 F)) fun G=>ae (ah (am T .andNot 3 E G)) fun H=>ae (ah (am T .neq 3 H (.int .i64 0))) fun I=>ap I (ae (ah (aa T 76 (.ip (ab f)) 0)) fun J=>ae (ah (aj T 9 J)) fun K=>M.pure (AV.tup [K,.int .i64 14])) (ae (ah (am T .add 3 (nth b 3) (.int .i64 1))) fun L=>a [nth b 0,nth b 1,nth b 2,L])))) (M.pure (AV.tup [.str [],.int .i64 0]))
def L12_1(call:CC)(fx:bJ AV)(a:RR)(b:List AV):M AV:=ae (ah (am T .lss 3 (nth b 4) (nth b 3))) fun c=>ap c (ae (ah (ak T 22 (nth b 2) (nth b 4))) fun d=>ae (ah (aj T 9 d)) fun e=>ae (ah (cP (nth b 1))) fun f=>ae (ah (aa T 120 f 1)) fun g=>ae (bA T 118 g) fun h=>ae (cL T 118 h e true) fun i=>ae (ah (az i 0)) fun j=>ae (ah (az i 1)) fun k=>ae (aC 2 j) fun l=>ae (ah (fO UnOp.not k)) fun m=>ae (aA m false 1 (ae (ah (aa T 29 (nth b 0) 0)) fun n=>ae (ah (aj T 9 n)) fun o=>ae (ah (am T .eql 9 e o)) fun p=>M.pure [p])) fun q=>ae (ah (aK m (.bool true) (nth q 0))) fun r=>ap r (M.pure (AV.tup [e,.int .i64 12])) (ae (ah (am T .add 3 (nth b 4) (.int .i64 1))) fun s=>a [nth b 0,nth b 1,nth b 2,nth b 3,s])) (ae (ah (aj T 29 (nth b 0))) fun u=>ae (call 50 [u]) fun v=>ae (ah (az v 0)) fun w=>ae (ah (az v 1)) fun x=>ae (ah (am T .neq 33 x (.int .i64 0))) fun y=>ap y (M.pure (AV.tup [w,x])) (ae (ah (aa T 29 (nth b 0) 4)) fun z=>ae (ah (aj T 25 z)) fun A=>ae (ah (aJ T 25 A)) fun B=>fx (L12_0 call fx) [nth b 1,A,B,.int .i64 0]))
theorem XL12_0{call:CC}:bB (L12_0 call af) fun _n=>L12_0 call af  :=by
 intro v40 v40s hself v41
 unfold L12_0
 exact (lb fun _=>(ao (lb fun _=>(lb fun _=>(lb fun _=>(lb fun _=>(lb fun _=>(lb fun _=>(lb fun _=>(lb fun _=>(lb fun _=>(lb fun _=>(lb fun _=>(lb fun _=>(lb fun _=>(lb fun _=>(lb fun _=>(ao (aE.const _) (lb fun _=>(lb fun _=>(lb fun _=>(lb fun _=>(lb fun _=>(ao (aE.const _) (lb fun _=>(lb fun _=>(lb fun _=>(lb fun _=>(lb fun _=>(lb fun _=>(lb fun _=>(ao (aE.const _) (lb fun _=>(hself _)))))))))))))))))))))))))))))))) (aE.const _)))
theorem FL12_0(call:CC)(vs:List AV):af (L12_0 call af) vs=L12_0 call af  (af (L12_0 call af)) vs:=aQ (XL12_0) vs
theorem XL12_1{call:CC}:bB (L12_1 call af) fun _n=>L12_1 call af  :=by
 intro v13 v13s hself v14
 unfold L12_1
 exact (lb fun _=>(ao (lb fun _=>(lb fun _=>(lb fun _=>(lb fun _=>(lb fun _=>(lb fun _=>(lb fun _=>(lb fun _=>(lb fun _=>(lb fun _=>(lb fun _=>(lb fun _=>(ao (aE.const _) (lb fun _=>(hself _))))))))))))))) (aE.const _)))
theorem FL12_1(call:CC)(vs:List AV):af (L12_1 call af) vs=L12_1 call af  (af (L12_1 call af)) vs:=aQ (XL12_1) vs
def S12(call:CC)(fx:bJ AV)(a0 a1:AV):M AV:=ae (ah (aj T 29 (.ip (ab a0)))) fun a=>ae (call 49 [a,a1]) fun b=>ae (ah (az b 0)) fun c=>ae (ah (az b 1)) fun d=>ae (ah (fO UnOp.not d)) fun e=>ae (aA e false 1 (ae (ah (aj T 29 (.ip (ab a0)))) fun f=>ae (call 13 [f]) fun g=>ae (ah (fO UnOp.not g)) fun h=>M.pure [h])) fun i=>ae (ah (aK e (.bool true) (nth i 0))) fun j=>ap j (M.pure (AV.tup [.str [],.int .i64 1])) (ae (ah (aa T 29 (.ip (ab a0)) 1)) fun k=>ae (ah (aj T 22 k)) fun l=>ae (ah (aJ T 22 l)) fun m=>fx (L12_1 call fx) [.ip (ab a0),c,l,m,.int .i64 0])
theorem E12(a0 a1:AV):EE 12 Tryz.f12 HA [a0,a1] (fun c x=>S12 c x a0 a1):=fun _ _=>by kernel_rfl
theorem C12(a0 a1:AV):ai pg 12 [a0,a1]=aF (S12 (ai pg) af (cl ax a0) (cl ax a1)):=(ay hOther rfl rfl rfl _).trans (congrArg aF (E12 (cl ax a0) (cl ax a1) _ _))
def L24_0(call:CC)(fx:bJ AV)(a:RR)(b:List AV):M AV:=ae (ah (aJ T 25 (nth b 1))) fun c=>ae (ah (am T .lss 3 (nth b 2) c)) fun d=>ap d (ae (ah (ak T 25 (nth b 1) (nth b 2))) fun e=>ae (ah (aa T 76 e 0)) fun f=>ae (ah (aj T 9 f)) fun g=>ae (ah (aa T 65 (nth b 0) 1)) fun h=>ae (ah (aj T 9 h)) fun i=>ae (ah (am T .eql 9 g i)) fun j=>ap j (ae (ah (ak T 25 (nth b 1) (nth b 2))) fun k=>ae (ah (aj T 76 k)) fun l=>ae (ar 12 [] l) fun m=>M.pure (AV.tup [.agg [nth (ab m) 0,nth (ab m) 1,nth (ab m) 2,nth (ab m) 3,nth (ab m) 4,nth (ab m) 5,nth (ab m) 6,nth (ab m) 7,nth (ab m) 8,nth (ab m) 9,nth (ab m) 10,nth (ab m) 11],.bool true])) (ae (ah (am T .add 3 (nth b 2) (.int .i64 1))) fun n=>a [nth b 0,nth b 1,n,nth b 3,nth b 4,nth b 5,nth b 6,nth b 7,nth b 8,nth b 9,nth b 10,nth b 11,nth b 12,nth b 13,nth b 14])) (ae (ah (aL T false 76 [])) fun o=>ae (ar 12 [] o) fun p=>M.pure (AV.tup [.agg [nth (ab p) 0,nth (ab p) 1,nth (ab p) 2,nth (ab p) 3,nth (ab p) 4,nth (ab p) 5,nth (ab p) 6,nth (ab p) 7,nth (ab p) 8,nth (ab p) 9,nth (ab p) 10,nth (ab p) 11],.bool false]))
def L24_1(call:CC)(fx:bJ AV)(a:RR)(b:List AV):M AV:=ae (ah (aJ T 42 (nth b 0))) fun c=>ae (ah (am T .lss 3 (nth b 2) c)) fun d=>ap d (ae (ah (ak T 42 (nth b 0) (nth b 2))) fun e=>ae (ah (aa T 29 e 0)) fun f=>ae (ah (aj T 9 f)) fun g=>ae (ah (aa T 65 (nth b 1) 0)) fun h=>ae (ah (aj T 9 h)) fun i=>ae (ah (am T .neq 9 g i)) fun j=>ap j (ae (ah (am T .add 3 (nth b 2) (.int .i64 1))) fun k=>a [nth b 0,nth b 1,k,nth b 3,nth b 4,nth b 5,nth b 6,nth b 7,nth b 8,nth b 9,nth b 10,nth b 11,nth b 12,nth b 13,nth b 14]) (ae (ah (ak T 42 (nth b 0) (nth b 2))) fun l=>ae (ah (aa T 29 l 4)) fun m=>ae (ah (aj T 25 m)) fun n=>fx (L24_0 call fx) [nth b 1,n,.int .i64 0,nth b 3,nth b 4,nth b 5,nth b 6,nth b 7,nth b 8,nth b 9,nth b 10,nth b 11,nth b 12,nth b 13,nth b 14])) (ae (ah (aL T false 76 [])) fun o=>ae (ar 12 [] o) fun p=>M.pure (AV.tup [.agg [nth (ab p) 0,nth (ab p) 1,nth (ab p) 2,nth (ab p) 3,nth (ab p) 4,nth (ab p) 5,nth (ab p) 6,nth (ab p) 7,nth (ab p) 8,nth (ab p) 9,nth (ab p) 10,nth (ab p) 11],.bool false]))
theorem XL24_0{call:CC}:bB (L24_0 call af) fun _n=>L24_0 call af  :=by
 intro v14 v14s hself v15
 unfold L24_0
 exact (lb fun _=>(lb fun _=>(ao (lb fun _=>(lb fun _=>(lb fun _=>(lb fun _=>(lb fun _=>(lb fun _=>(ao (aE.const _) (lb fun _=>(hself _))))))))) (aE.const _))))
theorem FL24_0(call:CC)(vs:List AV):af (L24_0 call af) vs=L24_0 call af  (af (L24_0 call af)) vs:=aQ (XL24_0) vs
theorem XL24_1{call:CC}:bB (L24_1 call af) fun _n=>L24_1 call af  :=by
 intro v0 v0s hself v1
 unfold L24_1
 exact (lb fun _=>(lb fun _=>(ao (lb fun _=>(lb fun _=>(lb fun _=>(lb fun _=>(lb fun _=>(lb fun _=>(ao (lb fun _=>(hself _)) (aE.const _)))))))) (aE.const _))))
theorem FL24_1(call:CC)(vs:List AV):af (L24_1 call af) vs=L24_1 call af  (af (L24_1 call af)) vs:=aQ (XL24_1) vs
def S24(call:CC)(fx:bJ AV)(a0 a1:AV):M AV:=fx (L24_1 call fx) [a0,.ip (ab a1),.int .i64 0,.str [],.bool false,.sl [],.int .i64 0,.sl [],.int .i64 0,.int .i64 0,.int .i64 0,.str [],.str [],.sl [],.sl []]
theorem E24(a0 a1:AV):EE 24 Tryz.f24 HF [a0,a1] (fun c x=>S24 c x a0 a1):=fun _ _=>by kernel_rfl
theorem C24(a0 a1:AV):ai pg 24 [a0,a1]=aF (S24 (ai pg) af (cl ax a0) (cl ax a1)):=(ay hOther rfl rfl rfl _).trans (congrArg aF (E24 (cl ax a0) (cl ax a1) _ _))
def L54_0(call:CC)(fx:bJ AV)(a:RR)(b:List AV):M AV:=ae (ah (am T .lss 3 (nth b 5) (nth b 4))) fun c=>ap c (ae (ah (ak T 23 (nth b 3) (nth b 5))) fun d=>ae (ah (aj T 87 d)) fun e=>ae (aC 3 e) fun f=>ae (ah (aa T 87 (.ip (ab f)) 0)) fun g=>ae (ah (aj T 9 g)) fun h=>ae (cL T 125 (nth b 2) h false) fun i=>ae (aA i false 1 (ae (ah (aa T 87 (.ip (ab f)) 0)) fun j=>ae (ah (aj T 9 j)) fun k=>ae (call 53 [k]) fun l=>ae (ah (fO UnOp.not l)) fun m=>M.pure [m])) fun n=>ae (ah (aK i (.bool true) (nth n 0))) fun o=>ae (aA o false 1 (ae (ah (aa T 87 (.ip (ab f)) 1)) fun p=>ae (ah (aj T 72 p)) fun q=>ae (call 55 [q]) fun r=>ae (ah (fO UnOp.not r)) fun s=>M.pure [s])) fun u=>ae (ah (aK o (.bool true) (nth u 0))) fun v=>ap v (M.pure (AV.bool false)) (ae (ah (aa T 87 (.ip (ab f)) 0)) fun w=>ae (ah (aj T 9 w)) fun x=>ae (putH T 125 (nth b 2) x (.bool true)) fun y=>ae (ah (am T .add 3 (nth b 5) (.int .i64 1))) fun z=>a [nth b 0,nth b 1,nth b 2,nth b 3,nth b 4,z])) (ae (ah (aJ T 23 (nth b 0))) fun A=>ae (ah (am T .leq 3 A (nth b 1))) fun B=>M.pure B)
theorem XL54_0{call:CC}:bB (L54_0 call af) fun _n=>L54_0 call af  :=by
 intro v2 v2s hself v3
 unfold L54_0
 exact (lb fun _=>(ao (lb fun _=>(lb fun _=>(lb fun _=>(lb fun _=>(lb fun _=>(lb fun _=>(lb fun _=>(lb fun _=>(lb fun _=>(lb fun _=>(ao (aE.const _) (lb fun _=>(lb fun _=>(lb fun _=>(lb fun _=>(hself _)))))))))))))))) (aE.const _)))
theorem FL54_0(call:CC)(vs:List AV):af (L54_0 call af) vs=L54_0 call af  (af (L54_0 call af)) vs:=aQ (XL54_0) vs
def S54(call:CC)(fx:bJ AV)(a0 a1:AV):M AV:=ae dU fun a=>ae (ah (aJ T 23 a0)) fun b=>fx (L54_0 call fx) [a0,a1,a,a0,b,.int .i64 0]
theorem E54(a0 a1:AV):EE 54 Tryz.f54 HN [a0,a1] (fun c x=>S54 c x a0 a1):=fun _ _=>by kernel_rfl
theorem C54(a0 a1:AV):ai pg 54 [a0,a1]=aF (S54 (ai pg) af (cl ax a0) (cl ax a1)):=(ay hOther rfl rfl rfl _).trans (congrArg aF (E54 (cl ax a0) (cl ax a1) _ _))
def L79_0(call:CC)(fx:bJ AV)(a:RR)(b:List AV):M AV:=ae (ah (aJ T 23 (nth b 0))) fun c=>ae (ah (am T .lss 3 (nth b 1) c)) fun d=>ae (aA d true 1 (ae (ah (am T .lss 3 (nth b 1) (.int .i64 9))) fun e=>M.pure [e])) fun f=>ae (ah (aK d (nth f 0) (.bool false))) fun g=>ap g (ae (ah (ak T 23 (nth b 0) (nth b 1))) fun h=>ae (ah (aa T 87 h 1)) fun i=>ae (ah (aj T 72 i)) fun j=>ae (call 80 [j,.int .i64 30,.int .i64 6]) fun k=>ae (ah (am T .gtr 3 k (.int .i64 30))) fun l=>ap l (M.pure (AV.bool false)) (ae (ah (am T .add 3 (nth b 1) (.int .i64 1))) fun m=>a [nth b 0,m])) (ae (ah (aJ T 23 (nth b 0))) fun n=>ae (ah (am T .leq 3 n (.int .i64 8))) fun o=>M.pure o)
theorem XL79_0{call:CC}:bB (L79_0 call af) fun _n=>L79_0 call af  :=by
 intro v0 v0s hself v1
 unfold L79_0
 exact (lb fun _=>(lb fun _=>(lb fun _=>(lb fun _=>(ao (lb fun _=>(lb fun _=>(lb fun _=>(lb fun _=>(lb fun _=>(ao (aE.const _) (lb fun _=>(hself _)))))))) (aE.const _))))))
theorem FL79_0(call:CC)(vs:List AV):af (L79_0 call af) vs=L79_0 call af  (af (L79_0 call af)) vs:=aQ (XL79_0) vs
def S79(call:CC)(fx:bJ AV)(a0:AV):M AV:=fx (L79_0 call fx) [a0,.int .i64 0]
theorem E79(a0:AV):EE 79 Tryz.f79 HX [a0] (fun c x=>S79 c x a0):=fun _ _=>by kernel_rfl
theorem C79(a0:AV):ai pg 79 [a0]=aF (S79 (ai pg) af (cl ax a0)):=(ay hOther rfl rfl rfl _).trans (congrArg aF (E79 (cl ax a0) _ _))
def S86(call:CC)(fx:bJ AV)(a0:AV):M AV:=M.pure (AV.fn (Fn.func 186) [] [.ip (ab a0)])
theorem E86(a0:AV):EE 86 Tryz.f86 HZ [a0] (fun c x=>S86 c x a0):=fun _ _=>by kernel_rfl
theorem C86(a0:AV):ai pg 86 [a0]=S86 (ai pg) af a0:=(cz hOther rfl rfl rfl _).trans (E86 a0 _ _)
def L87_0(call:CC)(fx:bJ AV)(a:RR)(b:RR)(c:List AV):M AV:=ae (ah (am T .lss 3 (nth c 5) (nth c 4))) fun d=>ap d (ae (ah (ak T 79 (nth c 3) (nth c 5))) fun e=>ae (ah (aj T 65 e)) fun f=>ae (aC 2 f) fun g=>ae (ah (aj T 65 (.ip (ab g)))) fun h=>ae (cL T 158 (nth c 1) h true) fun i=>ae (ah (az i 0)) fun j=>ae (ah (az i 1)) fun k=>ae (aC 2 j) fun l=>ae (ah (fO UnOp.not k)) fun m=>ap m (ae (ah (aj T 65 (.ip (ab g)))) fun n=>ae (ah (ak T 79 (nth c 2) (.int .i64 0))) fun o=>ae (ah (aj T 65 o)) fun p=>ae (putH T 158 (nth c 1) n p) fun q=>ae (ah (aj T 65 (.ip (ab g)))) fun r=>ae (ah (aB T 79 1 [(0,r)])) fun s=>ae (ah (dL T 79 (nth c 2) s)) fun u=>ae (ah (am T .add 3 (nth c 5) (.int .i64 1))) fun v=>b [nth c 0,nth c 1,u,nth c 3,nth c 4,v]) (ae (ah (am T .add 3 (nth c 5) (.int .i64 1))) fun w=>b [nth c 0,nth c 1,nth c 2,nth c 3,nth c 4,w])) (ae (ah (BD T 79 (nth c 2) (some (AV.int .i64 1)))) fun x=>a [nth c 0,nth c 1,x])
def L87_1(call:CC)(fx:bJ AV)(a:RR)(b:List AV):M AV:=ae (ah (aJ T 79 (nth b 2))) fun c=>ae (ah (am T .gtr 3 c (.int .i64 0))) fun d=>ap d (ae (ah (ak T 79 (nth b 2) (.int .i64 0))) fun e=>ae (ah (aj T 65 e)) fun f=>ae (call 179 [nth b 0,f]) fun g=>ae (ah (aJ T 79 g)) fun h=>fx (L87_0 call fx a) [nth b 0,nth b 1,nth b 2,g,h,.int .i64 0]) (M.pure (nth b 1))
theorem XL87_0{call:CC}{v12:RR}{v12s:Nat→RR}(hv12:ba v12 fun n=>v12s n):bB (L87_0 call af v12) fun n=>L87_0 call af (v12s n):=by
 intro v20 v20s hself v21
 unfold L87_0
 exact (lb fun _=>(ao (lb fun _=>(lb fun _=>(lb fun _=>(lb fun _=>(lb fun _=>(lb fun _=>(lb fun _=>(lb fun _=>(lb fun _=>(ao (lb fun _=>(lb fun _=>(lb fun _=>(lb fun _=>(lb fun _=>(lb fun _=>(lb fun _=>(lb fun _=>(hself _))))))))) (lb fun _=>(hself _)))))))))))) (lb fun _=>(hv12 _))))
theorem YL87_0{call:CC}{v12:RR}{v12s:Nat→RR}(hv12:ba v12 fun n=>v12s n):ba (af (L87_0 call af v12)) fun n=>af (L87_0 call af (v12s n)):=ib (XL87_0 hv12) (XL87_0 (ba.const _)) fun _=>XL87_0 (ba.const _)
theorem FL87_0(call:CC)(v12:RR)(vs:List AV):af (L87_0 call af v12) vs=L87_0 call af v12 (af (L87_0 call af v12)) vs:=aQ (XL87_0 (ba.const _)) vs
theorem XL87_1{call:CC}:bB (L87_1 call af) fun _n=>L87_1 call af  :=by
 intro v12 v12s hself v13
 unfold L87_1
 exact (lb fun _=>(lb fun _=>(ao (lb fun _=>(lb fun _=>(lb fun _=>(lb fun _=>((YL87_0 hself) _))))) (aE.const _))))
theorem FL87_1(call:CC)(vs:List AV):af (L87_1 call af) vs=L87_1 call af  (af (L87_1 call af)) vs:=aQ (XL87_1) vs
def S87(call:CC)(fx:bJ AV)(a0 a1:AV):M AV:=ae (ah (aj T 65 (.ip (ab a1)))) fun a=>ae (cL T 160 a0 a true) fun b=>ae (ah (az b 0)) fun c=>ae (ah (az b 1)) fun d=>ae (aC 12 c) fun e=>ae (ah (fO UnOp.not d)) fun f=>ap f (M.pure AV.nilm) (ae dU fun g=>ae (ah (aj T 65 (.ip (ab a1)))) fun h=>ae (ah (aj T 65 (.ip (ab a1)))) fun i=>ae (putH T 158 g h i) fun j=>ae (ah (aj T 65 (.ip (ab a1)))) fun k=>ae (ah (aB T 79 1 [(0,k)])) fun l=>fx (L87_1 call fx) [a0,g,l])
theorem E87(a0 a1:AV):EE 87 Tryz.f87 H1 [a0,a1] (fun c x=>S87 c x a0 a1):=fun _ _=>by kernel_rfl
theorem C87(a0 a1:AV):ai pg 87 [a0,a1]=S87 (ai pg) af a0 a1:=(cz hOther rfl rfl rfl _).trans (E87 a0 a1 _ _)
def L90_0(call:CC)(fx:bJ AV)(a:RR)(b:List AV):M AV:=ae (ah (am T .lss 3 (nth b 3) (nth b 2))) fun c=>ap c (ae (ah (ak T 24 (nth b 1) (nth b 3))) fun d=>ae (ah (aj T 74 d)) fun e=>ae (aC 6 e) fun f=>ae (ah (aj T 74 (.ip (ab f)))) fun g=>ae (call 90 [g,nth b 0]) fun h=>ae (ah (am T .add 3 (nth b 3) (.int .i64 1))) fun i=>a [nth b 0,nth b 1,nth b 2,i]) (M.pure (AV.tup []))
theorem XL90_0{call:CC}:bB (L90_0 call af) fun _n=>L90_0 call af  :=by
 intro v5 v5s hself v6
 unfold L90_0
 exact (lb fun _=>(ao (lb fun _=>(lb fun _=>(lb fun _=>(lb fun _=>(lb fun _=>(lb fun _=>(hself _))))))) (aE.const _)))
theorem FL90_0(call:CC)(vs:List AV):af (L90_0 call af) vs=L90_0 call af  (af (L90_0 call af)) vs:=aQ (XL90_0) vs
def S90(call:CC)(fx:bJ AV)(a0 a1:AV):M AV:=ae (ah (aj T 74 (.ip (ab a0)))) fun a=>ae (bH call a1 [a]) fun b=>ae (ah (aa T 74 (.ip (ab a0)) 5)) fun c=>ae (ah (aj T 24 c)) fun d=>ae (ah (aJ T 24 d)) fun e=>fx (L90_0 call fx) [a1,d,e,.int .i64 0]
theorem E90(a0 a1:AV):EE 90 Tryz.f90 H3 [a0,a1] (fun c x=>S90 c x a0 a1):=fun _ _=>by kernel_rfl
theorem C90(a0 a1:AV):ai pg 90 [a0,a1]=S90 (ai pg) af a0 a1:=(cz hOther rfl rfl rfl _).trans (E90 a0 a1 _ _)
def S153(call:CC)(fx:bJ AV)(a0:AV):M AV:=ae (ah (am T .eql 9 a0 (.str []))) fun a=>ae (aA a false 1 (ae (ah (fW T 9 a0 (.int .i64 0))) fun b=>ae (call 229 [b]) fun c=>ae (ah (fO UnOp.not c)) fun d=>M.pure [d])) fun e=>ae (ah (aK a (.bool true) (nth e 0))) fun f=>ae (aA f false 1 (ae (ah (aJ T 9 a0)) fun g=>ae (ah (am T .gtr 3 g (.int .i64 20))) fun h=>M.pure [h])) fun i=>ae (ah (aK f (.bool true) (nth i 0))) fun j=>ap j (M.pure (AV.bool false)) (ae (call 230 [a0,.fn (Fn.func 231) [] []]) fun k=>ae (ah (aJ T 9 a0)) fun l=>ae (ah (am T .eql 3 k l)) fun m=>M.pure m)
theorem E153(a0:AV):EE 153 Tryz.f153 C1 [a0] (fun c x=>S153 c x a0):=fun _ _=>by kernel_rfl
theorem C153(a0:AV):ai pg 153 [a0]=aF (S153 (ai pg) af (cl ax a0)):=(ay hOther rfl rfl rfl _).trans (congrArg aF (E153 (cl ax a0) _ _))
def L156_0(call:CC)(fx:bJ AV)(a:RR)(b:List AV):M AV:=ae (ah (am T .lss 3 (nth b 3) (nth b 2))) fun c=>ap c (ae (ah (ak T 24 (nth b 1) (nth b 3))) fun d=>ae (ah (aj T 74 d)) fun e=>ae (aC 6 e) fun f=>ae (ah (aj T 74 (.ip (ab f)))) fun g=>ae (ah (am T .sub 3 (nth b 0) (.int .i64 1))) fun h=>ae (call 156 [g,h]) fun i=>ae (ah (fO UnOp.not i)) fun j=>ap j (M.pure (AV.bool false)) (ae (ah (am T .add 3 (nth b 3) (.int .i64 1))) fun k=>a [nth b 0,nth b 1,nth b 2,k])) (M.pure (AV.bool true))
theorem XL156_0{call:CC}:bB (L156_0 call af) fun _n=>L156_0 call af  :=by
 intro v61 v61s hself v62
 unfold L156_0
 exact (lb fun _=>(ao (lb fun _=>(lb fun _=>(lb fun _=>(lb fun _=>(lb fun _=>(lb fun _=>(lb fun _=>(ao (aE.const _) (lb fun _=>(hself _)))))))))) (aE.const _)))
theorem FL156_0(call:CC)(vs:List AV):af (L156_0 call af) vs=L156_0 call af  (af (L156_0 call af)) vs:=aQ (XL156_0) vs
def S156(call:CC)(fx:bJ AV)(a0 a1:AV):M AV:=ae (ah (am T .eql 3 a1 (.int .i64 0))) fun a=>ae (aA a false 1 (ae (ah (aa T 74 (.ip (ab a0)) 0)) fun b=>ae (ah (aj T 3 b)) fun c=>ae (ah (am T .lss 3 c (.int .i64 0))) fun d=>M.pure [d])) fun e=>ae (ah (aK a (.bool true) (nth e 0))) fun f=>ae (aA f false 1 (ae (ah (aa T 74 (.ip (ab a0)) 0)) fun g=>ae (ah (aj T 3 g)) fun h=>ae (ah (am T .geq 3 h (.int .i64 19))) fun i=>M.pure [i])) fun j=>ae (ah (aK f (.bool true) (nth j 0))) fun k=>ap k (M.pure (AV.bool false)) (ae (ah (aj T 74 (.ip (ab a0)))) fun l=>ae (call 234 [l]) fun m=>ae (ah (az m 0)) fun n=>ae (ah (az m 1)) fun o=>ae (aC 6 n) fun p=>ae (ah (am T .geq 3 o (.int .i64 0))) fun q=>ae (aA q true 1 (ae (ah (aa T 74 (.ip (ab a0)) 5)) fun r=>ae (ah (aj T 24 r)) fun s=>ae (ah (aJ T 24 s)) fun u=>ae (ah (am T .neq 3 o u)) fun v=>M.pure [v])) fun w=>ae (ah (aK q (nth w 0) (.bool false))) fun x=>ae (aA x false 1 (ae (ah (aa T 74 (.ip (ab p)) 1)) fun y=>ae (ah (aj T 3 y)) fun z=>ae (ah (aa T 74 (.ip (ab a0)) 1)) fun A=>ae (ah (aj T 3 A)) fun B=>ae (ah (am T .neq 3 z B)) fun C=>M.pure [C])) fun D=>ae (ah (aK x (.bool true) (nth D 0))) fun E=>ae (aA E false 1 (ae (ah (aa T 74 (.ip (ab p)) 2)) fun F=>ae (ah (aj T 9 F)) fun G=>ae (ah (aa T 74 (.ip (ab a0)) 2)) fun H=>ae (ah (aj T 9 H)) fun I=>ae (ah (am T .neq 9 G I)) fun J=>M.pure [J])) fun K=>ae (ah (aK E (.bool true) (nth K 0))) fun L=>ae (aA L false 1 (ae (ah (aa T 74 (.ip (ab p)) 3)) fun N=>ae (ah (aj T 9 N)) fun O=>ae (ah (aa T 74 (.ip (ab a0)) 3)) fun P=>ae (ah (aj T 9 P)) fun Q=>ae (ah (am T .neq 9 O Q)) fun R=>M.pure [R])) fun S=>ae (ah (aK L (.bool true) (nth S 0))) fun U=>ae (aA U false 1 (ae (ah (aa T 74 (.ip (ab p)) 4)) fun V=>ae (ah (aj T 22 V)) fun W=>ae (ah (aJ T 22 W)) fun X=>ae (ah (aa T 74 (.ip (ab a0)) 4)) fun Y=>ae (ah (aj T 22 Y)) fun Z=>ae (ah (aJ T 22 Z)) fun u0=>ae (ah (am T .neq 3 X u0)) fun u1=>M.pure [u1])) fun u2=>ae (ah (aK U (.bool true) (nth u2 0))) fun u3=>ae (aA u3 false 1 (ae (ah (aj T 74 (.ip (ab a0)))) fun u4=>ae (call 235 [u4]) fun u5=>ae (ah (fO UnOp.not u5)) fun u6=>M.pure [u6])) fun u7=>ae (ah (aK u3 (.bool true) (nth u7 0))) fun u8=>ap u8 (M.pure (AV.bool false)) (ae (ah (aa T 74 (.ip (ab a0)) 5)) fun u9=>ae (ah (aj T 24 u9)) fun w0=>ae (ah (aJ T 24 w0)) fun w1=>fx (L156_0 call fx) [a1,w0,w1,.int .i64 0]))
theorem E156(a0 a1:AV):EE 156 Tryz.f156 C3 [a0,a1] (fun c x=>S156 c x a0 a1):=fun _ _=>by kernel_rfl
theorem C156(a0 a1:AV):ai pg 156 [a0,a1]=aF (S156 (ai pg) af (cl ax a0) (cl ax a1)):=(ay hOther rfl rfl rfl _).trans (congrArg aF (E156 (cl ax a0) (cl ax a1) _ _))
def S209(call:CC)(fx:bJ AV)(a0 a1:AV):M AV:=ae (call 269 [a0,a1]) fun a=>ae (ah (am T .geq 3 a (.int .i64 0))) fun b=>M.pure b
theorem E209(a0 a1:AV):EE 209 Tryz.f209 Da [a0,a1] (fun c x=>S209 c x a0 a1):=fun _ _=>by kernel_rfl
theorem C209(a0 a1:AV):ai pg 209 [a0,a1]=aF (S209 (ai pg) af (cl ax a0) (cl ax a1)):=(ay hOther rfl rfl rfl _).trans (congrArg aF (E209 (cl ax a0) (cl ax a1) _ _))
def L222_0(call:CC)(fx:bJ AV)(a:RR)(b:List AV):M AV:=ae (ah (am T .lss 3 (nth b 3) (nth b 2))) fun c=>ap c (ae (ah (ak T 148 (nth b 0) (nth b 3))) fun d=>ae (ah (aj T 72 d)) fun e=>ae (bH call (nth b 1) [e]) fun f=>ap f (M.pure (nth b 3)) (ae (ah (am T .add 3 (nth b 3) (.int .i64 1))) fun g=>a [nth b 0,nth b 1,nth b 2,g])) (M.pure (AV.int .i64 (-1)))
theorem XL222_0{call:CC}:bB (L222_0 call af) fun _n=>L222_0 call af  :=by
 intro v1 v1s hself v2
 unfold L222_0
 exact (lb fun _=>(ao (lb fun _=>(lb fun _=>(lb fun _=>(ao (aE.const _) (lb fun _=>(hself _)))))) (aE.const _)))
theorem FL222_0(call:CC)(vs:List AV):af (L222_0 call af) vs=L222_0 call af  (af (L222_0 call af)) vs:=aQ (XL222_0) vs
def S222(call:CC)(fx:bJ AV)(a0 a1:AV):M AV:=ae (ah (aJ T 148 a0)) fun a=>fx (L222_0 call fx) [a0,a1,a,.int .i64 0]
theorem E222(a0 a1:AV):EE 222 Tryz.f222 Db [a0,a1] (fun c x=>S222 c x a0 a1):=fun _ _=>by kernel_rfl
theorem C222(a0 a1:AV):ai pg 222 [a0,a1]=aF (S222 (ai pg) af (cl ax a0) (cl ax a1)):=(ay hOther rfl rfl rfl _).trans (congrArg aF (E222 (cl ax a0) (cl ax a1) _ _))
def S232(call:CC)(fx:bJ AV)(a0:AV):M AV:=ae (ah (am T .geq 5 a0 (.int .u8 48))) fun a=>ae (aA a true 1 (ae (ah (am T .leq 5 a0 (.int .u8 57))) fun b=>M.pure [b])) fun c=>ae (ah (aK a (nth c 0) (.bool false))) fun d=>M.pure d
theorem E232(a0:AV):EE 232 Tryz.f232 Dk [a0] (fun c x=>S232 c x a0):=fun _ _=>by kernel_rfl
theorem C232(a0:AV):ai pg 232 [a0]=aF (S232 (ai pg) af (cl ax a0)):=(ay hOther rfl rfl rfl _).trans (congrArg aF (E232 (cl ax a0) _ _))
def L235_0(call:CC)(fx:bJ AV)(a:RR)(b:List AV):M AV:=ae (ah (am T .lss 3 (nth b 3) (nth b 2))) fun c=>ap c (ae (ah (ak T 22 (nth b 1) (nth b 3))) fun d=>ae (ah (aj T 9 d)) fun e=>ae (call 53 [e]) fun f=>ae (ah (fO UnOp.not f)) fun g=>ae (aA g false 1 (ae (ah (am T .gtr 3 (nth b 3) (.int .i64 0))) fun h=>M.pure [h])) fun i=>ae (aA (nth i 0) true 1 (ae (ah (aa T 74 (nth b 0) 4)) fun j=>ae (ah (aj T 22 j)) fun k=>ae (ah (am T .sub 3 (nth b 3) (.int .i64 1))) fun l=>ae (ah (ak T 22 k l)) fun m=>ae (ah (aj T 9 m)) fun n=>ae (ah (am T .leq 9 e n)) fun o=>M.pure [o])) fun p=>ae (aA g false 1 (ae (ah (aK (nth i 0) (nth p 0) (.bool false))) fun q=>M.pure [q])) fun r=>ae (ah (aK g (.bool true) (nth r 0))) fun s=>ap s (M.pure (AV.bool false)) (ae (ah (am T .add 3 (nth b 3) (.int .i64 1))) fun u=>a [nth b 0,nth b 1,nth b 2,u])) (ae (ah (aa T 74 (nth b 0) 4)) fun v=>ae (ah (aj T 22 v)) fun w=>ae (ah (aJ T 22 w)) fun x=>ae (ah (am T .leq 3 x (.int .i64 8))) fun y=>M.pure y)
def K235_0(call:CC)(fx:bJ AV)(a:List AV):M AV:=ap (nth a 2) (ae (ah (aa T 74 (nth a 0) 2)) fun b=>ae (ah (aj T 9 b)) fun c=>ae (call 53 [c]) fun d=>M.pure d) (ae (ah (am T .eql 3 (nth a 1) (.int .i64 15))) fun e=>ap e (ae (ah (aa T 74 (nth a 0) 2)) fun f=>ae (ah (aj T 9 f)) fun g=>ae (call 53 [g]) fun h=>ae (aA h true 1 (ae (ah (aa T 74 (nth a 0) 3)) fun i=>ae (ah (aj T 9 i)) fun j=>ae (ah (am T .eql 9 j (.str []))) fun k=>M.pure [k])) fun l=>ae (aA (nth l 0) false 1 (ae (ah (aa T 74 (nth a 0) 3)) fun m=>ae (ah (aj T 9 m)) fun n=>ae (call 53 [n]) fun o=>M.pure [o])) fun p=>ae (aA h true 1 (ae (ah (aK (nth l 0) (.bool true) (nth p 0))) fun q=>M.pure [q])) fun r=>ae (ah (aK h (nth r 0) (.bool false))) fun s=>ae (aA s true 1 (ae (ah (aa T 74 (nth a 0) 5)) fun u=>ae (ah (aj T 24 u)) fun v=>ae (ah (aJ T 24 v)) fun w=>ae (ah (am T .leq 3 w (.int .i64 6))) fun x=>M.pure [x])) fun y=>ae (ah (aK s (nth y 0) (.bool false))) fun z=>M.pure z) (ae (ah (am T .eql 3 (nth a 1) (.int .i64 13))) fun A=>ap A (ae (ah (aa T 74 (nth a 0) 4)) fun B=>ae (ah (aj T 22 B)) fun C=>ae (ah (aJ T 22 C)) fun D=>fx (L235_0 call fx) [nth a 0,C,D,.int .i64 0]) (M.pure (AV.bool true))))
theorem XL235_0{call:CC}:bB (L235_0 call af) fun _n=>L235_0 call af  :=by
 intro v68 v68s hself v69
 unfold L235_0
 exact (lb fun _=>(ao (lb fun _=>(lb fun _=>(lb fun _=>(lb fun _=>(lb fun _=>(lb fun _=>(lb fun _=>(lb fun _=>(ao (aE.const _) (lb fun _=>(hself _))))))))))) (aE.const _)))
theorem FL235_0(call:CC)(vs:List AV):af (L235_0 call af) vs=L235_0 call af  (af (L235_0 call af)) vs:=aQ (XL235_0) vs
def S235(call:CC)(fx:bJ AV)(a0:AV):M AV:=ae (ah (aa T 74 (.ip (ab a0)) 0)) fun a=>ae (ah (aj T 3 a)) fun b=>ae (ah (am T .eql 3 b (.int .i64 0))) fun c=>ap c (ae (ah (aa T 74 (.ip (ab a0)) 1)) fun d=>ae (ah (aj T 3 d)) fun e=>ae (ah (am T .geq 3 e (.int .i64 0))) fun f=>ae (aA f true 1 (ae (ah (aa T 74 (.ip (ab a0)) 1)) fun g=>ae (ah (aj T 3 g)) fun h=>ae (ah (am T .leq 3 h (.int .i64 1099511627776))) fun i=>M.pure [i])) fun j=>ae (ah (aK f (nth j 0) (.bool false))) fun k=>M.pure k) (ae (ah (am T .eql 3 b (.int .i64 1))) fun l=>ap l (ae (ah (aa T 74 (.ip (ab a0)) 1)) fun m=>ae (ah (aj T 3 m)) fun n=>ae (ah (am T .eql 3 n (.int .i64 0))) fun o=>ae (aA o false 1 (ae (ah (aa T 74 (.ip (ab a0)) 1)) fun p=>ae (ah (aj T 3 p)) fun q=>ae (ah (am T .eql 3 q (.int .i64 1))) fun r=>M.pure [r])) fun s=>ae (ah (aK o (.bool true) (nth s 0))) fun u=>M.pure u) (ae (ah (am T .eql 3 b (.int .i64 16))) fun v=>ap v (ae (ah (aa T 74 (.ip (ab a0)) 1)) fun w=>ae (ah (aj T 3 w)) fun x=>ae (ah (am T .eql 3 x (.int .i64 1))) fun y=>ae (aA y false 1 (ae (ah (aa T 74 (.ip (ab a0)) 1)) fun z=>ae (ah (aj T 3 z)) fun A=>ae (ah (am T .eql 3 A (.int .i64 2))) fun B=>M.pure [B])) fun C=>ae (ah (aK y (.bool true) (nth C 0))) fun D=>ae (aA D false 1 (ae (ah (aa T 74 (.ip (ab a0)) 1)) fun E=>ae (ah (aj T 3 E)) fun F=>ae (ah (am T .eql 3 F (.int .i64 4))) fun G=>M.pure [G])) fun H=>ae (ah (aK D (.bool true) (nth H 0))) fun I=>ae (aA I false 1 (ae (ah (aa T 74 (.ip (ab a0)) 1)) fun J=>ae (ah (aj T 3 J)) fun K=>ae (ah (am T .eql 3 K (.int .i64 8))) fun L=>M.pure [L])) fun N=>ae (ah (aK I (.bool true) (nth N 0))) fun O=>M.pure O) (jn (K235_0 call fx) fun P=>ae (ah (am T .eql 3 b (.int .i64 2))) fun Q=>ap Q (P [.ip (ab a0),b,Q]) (ae (ah (am T .eql 3 b (.int .i64 17))) fun R=>ap R (P [.ip (ab a0),b,R]) (ae (ah (am T .eql 3 b (.int .i64 18))) fun S=>ap S (P [.ip (ab a0),b,S]) (ae (ah (am T .eql 3 b (.int .i64 14))) fun U=>ap U (P [.ip (ab a0),b,U]) (ae (ah (am T .eql 3 b (.int .i64 12))) fun V=>P [.ip (ab a0),b,V])))))))
theorem E235(a0:AV):EE 235 Tryz.f235 Dm [a0] (fun c x=>S235 c x a0):=fun _ _=>by kernel_rfl
theorem C235(a0:AV):ai pg 235 [a0]=aF (S235 (ai pg) af (cl ax a0)):=(ay hOther rfl rfl rfl _).trans (congrArg aF (E235 (cl ax a0) _ _))
def L248_0(call:CC)(fx:bJ AV)(a:RR)(b:List AV):M AV:=ae (ah (am T .lss 3 (nth b 3) (nth b 2))) fun c=>ap c (ae (ah (ak T 22 (nth b 1) (nth b 3))) fun d=>ae (ah (aj T 9 d)) fun e=>ae (ah (am T .neq 9 e (nth b 0))) fun f=>ap f (M.pure e) (ae (ah (am T .add 3 (nth b 3) (.int .i64 1))) fun g=>a [nth b 0,nth b 1,nth b 2,g])) (M.pure (nth b 0))
theorem XL248_0{call:CC}:bB (L248_0 call af) fun _n=>L248_0 call af  :=by
 intro v1 v1s hself v2
 unfold L248_0
 exact (lb fun _=>(ao (lb fun _=>(lb fun _=>(lb fun _=>(ao (aE.const _) (lb fun _=>(hself _)))))) (aE.const _)))
theorem FL248_0(call:CC)(vs:List AV):af (L248_0 call af) vs=L248_0 call af  (af (L248_0 call af)) vs:=aQ (XL248_0) vs
def S248(call:CC)(fx:bJ AV)(a0:AV):M AV:=ae (ah (aJ T 22 a0)) fun a=>fx (L248_0 call fx) [.str [],a0,a,.int .i64 0]
theorem E248(a0:AV):EE 248 Tryz.f248 Do [a0] (fun c x=>S248 c x a0):=fun _ _=>by kernel_rfl
theorem C248(a0:AV):ai pg 248 [a0]=aF (S248 (ai pg) af (cl ax a0)):=(ay hOther rfl rfl rfl _).trans (congrArg aF (E248 (cl ax a0) _ _))
def L269_0(call:CC)(fx:bJ AV)(a:RR)(b:List AV):M AV:=ae (ah (am T .lss 3 (nth b 3) (nth b 2))) fun c=>ap c (ae (ah (ak T 22 (nth b 0) (nth b 3))) fun d=>ae (ah (aj T 9 d)) fun e=>ae (ah (am T .eql 9 (nth b 1) e)) fun f=>ap f (M.pure (nth b 3)) (ae (ah (am T .add 3 (nth b 3) (.int .i64 1))) fun g=>a [nth b 0,nth b 1,nth b 2,g])) (M.pure (AV.int .i64 (-1)))
theorem XL269_0{call:CC}:bB (L269_0 call af) fun _n=>L269_0 call af  :=by
 intro v1 v1s hself v2
 unfold L269_0
 exact (lb fun _=>(ao (lb fun _=>(lb fun _=>(lb fun _=>(ao (aE.const _) (lb fun _=>(hself _)))))) (aE.const _)))
theorem FL269_0(call:CC)(vs:List AV):af (L269_0 call af) vs=L269_0 call af  (af (L269_0 call af)) vs:=aQ (XL269_0) vs
def S269(call:CC)(fx:bJ AV)(a0 a1:AV):M AV:=ae (ah (aJ T 22 a0)) fun a=>fx (L269_0 call fx) [a0,a1,a,.int .i64 0]
theorem E269(a0 a1:AV):EE 269 Tryz.f269 Dq [a0,a1] (fun c x=>S269 c x a0 a1):=fun _ _=>by kernel_rfl
theorem C269(a0 a1:AV):ai pg 269 [a0,a1]=aF (S269 (ai pg) af (cl ax a0) (cl ax a1)):=(ay hOther rfl rfl rfl _).trans (congrArg aF (E269 (cl ax a0) (cl ax a1) _ _))
def S289(call:CC)(fx:bJ AV)(a0 a1:AV):M AV:=ae (ah (aa T 76 (.ip (ab a0)) 0)) fun a=>ae (ah (aj T 9 a)) fun b=>ae (ah (aa T 74 a1 2)) fun c=>ae (ah (aj T 9 c)) fun d=>ae (ah (am T .eql 9 b d)) fun e=>M.pure e
theorem E289(a0 a1:AV):EE 289 Tryz.f289 Dt [a0,a1] (fun c x=>S289 c x a0 a1):=fun _ _=>by kernel_rfl
theorem C289(a0 a1:AV):ai pg 289 [a0,a1]=aF (S289 (ai pg) af (cl ax a0) (cl ax a1)):=(ay hOther rfl rfl rfl _).trans (congrArg aF (E289 (cl ax a0) (cl ax a1) _ _))
def S291(call:CC)(fx:bJ AV)(a0 a1:AV):M AV:=ae (ah (aa T 150 (.ip (ab a0)) 0)) fun a=>ae (ah (aj T 9 a)) fun b=>ae (ah (aa T 74 a1 2)) fun c=>ae (ah (aj T 9 c)) fun d=>ae (ah (am T .eql 9 b d)) fun e=>M.pure e
theorem E291(a0 a1:AV):EE 291 Tryz.f291 Dv [a0,a1] (fun c x=>S291 c x a0 a1):=fun _ _=>by kernel_rfl
theorem C291(a0 a1:AV):ai pg 291 [a0,a1]=aF (S291 (ai pg) af (cl ax a0) (cl ax a1)):=(ay hOther rfl rfl rfl _).trans (congrArg aF (E291 (cl ax a0) (cl ax a1) _ _))
end
end Go.Proofs.YtkkabinknmldeaaGreat
namespace Go.Proofs
open Go.Shelf
def Tryz.laysSort_ren:Go.Shelf.Ren:=⟨fun | 6=>180 | 15=>183 | 14=>250 | 28=>259 | 29=>260 | 20=>296 | 21=>297 | 22=>298 | 23=>299 | 24=>300 | 25=>301 | 26=>302 | 27=>303 | 46=>318 | 47=>305 | 48=>306 | 49=>319 | 50=>320 | 57=>325 | n=>n,fun | 22=>79 | 24=>65 | 25=>162 | 3=>3 | 39=>260 | 0=>0 | 53=>323 | 55=>325 | 4=>4 | 46=>317 | 45=>316 | 50=>57 | 5=>5 | 9=>9 | 66=>354 | 70=>358 | 76=>366 | 77=>367 | n=>n,fun | n=>n⟩
theorem Tryz.laysSort:Go.Proofs.SlLaysF0.n6 Tryz.prog Tryz.laysSort_ren:={
 mixed:=by kernel_rfl
 f6:=⟨Tryz.f180.name,by decide,Tryz.func180.trans (congrArg some (by kernel_rfl))⟩
 f14:=⟨Tryz.f250.name,by decide,Tryz.func250.trans (congrArg some (by kernel_rfl))⟩
 f15:=Tryz.func183.trans (congrArg some (by kernel_rfl))
 f20:=⟨Tryz.f296.name,by decide,Tryz.func296.trans (congrArg some (by kernel_rfl))⟩
 f21:=⟨Tryz.f297.name,by decide,Tryz.func297.trans (congrArg some (by kernel_rfl))⟩
 f22:=⟨Tryz.f298.name,by decide,Tryz.func298.trans (congrArg some (by kernel_rfl))⟩
 f23:=⟨Tryz.f299.name,by decide,Tryz.func299.trans (congrArg some (by kernel_rfl))⟩
 f24:=⟨Tryz.f300.name,by decide,Tryz.func300.trans (congrArg some (by kernel_rfl))⟩
 f25:=⟨Tryz.f301.name,by decide,Tryz.func301.trans (congrArg some (by kernel_rfl))⟩
 f26:=⟨Tryz.f302.name,by decide,Tryz.func302.trans (congrArg some (by kernel_rfl))⟩
 f27:=⟨Tryz.f303.name,by decide,Tryz.func303.trans (congrArg some (by kernel_rfl))⟩
 f28:=Tryz.func259.trans (congrArg some (by kernel_rfl))
 f29:=Tryz.func260.trans (congrArg some (by kernel_rfl))
 f46:=⟨Tryz.f318.name,by decide,Tryz.func318.trans (congrArg some (by kernel_rfl))⟩
 f47:=Tryz.func305.trans (congrArg some (by kernel_rfl))
 f48:=Tryz.func306.trans (congrArg some (by kernel_rfl))
 f49:=⟨Tryz.f319.name,by decide,Tryz.func319.trans (congrArg some (by kernel_rfl))⟩
 f50:=⟨Tryz.f320.name,by decide,Tryz.func320.trans (congrArg some (by kernel_rfl))⟩
 f57:=⟨Tryz.f325.name,by decide,Tryz.func325.trans (congrArg some (by kernel_rfl))⟩
 t0:=Tryz.underlying0
 a0:=Tryz.isAgg0
 z0:=Tryz.sizeOf0
 v0:=Tryz.zeroValue0
 t3:=Tryz.underlying3
 a3:=Tryz.isAgg3
 z3:=Tryz.sizeOf3
 v3:=Tryz.zeroValue3
 t4:=Tryz.underlying4
 a4:=Tryz.isAgg4
 z4:=Tryz.sizeOf4
 v4:=Tryz.zeroValue4
 t5:=Tryz.underlying5
 a5:=Tryz.isAgg5
 z5:=Tryz.sizeOf5
 v5:=Tryz.zeroValue5
 t9:=Tryz.underlying9
 a9:=Tryz.isAgg9
 z9:=Tryz.sizeOf9
 v9:=Tryz.zeroValue9
 t22:=Tryz.underlying79
 a22:=Tryz.isAgg79
 z22:=Tryz.sizeOf79
 v22:=Tryz.zeroValue79
 t25:=Tryz.underlying162
 a25:=Tryz.isAgg162
 z25:=Tryz.sizeOf162
 v25:=Tryz.zeroValue162
 t39:=Tryz.underlying260
 a39:=Tryz.isAgg260
 z39:=Tryz.sizeOf260
 v39:=Tryz.zeroValue260
 t45:=Tryz.underlying316
 a45:=Tryz.isAgg316
 z45:=Tryz.sizeOf316
 v45:=Tryz.zeroValue316
 t46:=Tryz.underlying317
 a46:=Tryz.isAgg317
 z46:=Tryz.sizeOf317
 v46:=Tryz.zeroValue317
 t50:=Tryz.underlying57
 a50:=Tryz.isAgg57
 z50:=Tryz.sizeOf57
 v50:=Tryz.zeroValue57
 t53:=Tryz.underlying323
 a53:=Tryz.isAgg323
 z53:=Tryz.sizeOf323
 v53:=Tryz.zeroValue323
 t55:=Tryz.underlying325
 a55:=Tryz.isAgg325
 z55:=Tryz.sizeOf325
 v55:=Tryz.zeroValue325
 t66:=Tryz.underlying354
 a66:=Tryz.isAgg354
 z66:=Tryz.sizeOf354
 v66:=Tryz.zeroValue354
 t70:=Tryz.underlying358
 a70:=Tryz.isAgg358
 z70:=Tryz.sizeOf358
 v70:=Tryz.zeroValue358
 t76:=Tryz.underlying366
 a76:=Tryz.isAgg366
 z76:=Tryz.sizeOf366
 v76:=Tryz.zeroValue366
 t77:=Tryz.underlying367
 a77:=Tryz.isAgg367
 z77:=Tryz.sizeOf367
 v77:=Tryz.zeroValue367 }
def Tryz.laysSortS_ren:Go.Shelf.Ren:=⟨fun | 6=>82 | 15=>183 | 14=>182 | 28=>259 | 29=>260 | 20=>251 | 21=>252 | 22=>253 | 23=>254 | 24=>255 | 25=>256 | 26=>257 | 27=>258 | 46=>304 | 47=>305 | 48=>306 | 49=>307 | 50=>308 | 57=>321 | n=>n,fun | 22=>67 | 24=>150 | 25=>153 | 3=>3 | 39=>260 | 0=>0 | 53=>323 | 55=>325 | 4=>4 | 46=>317 | 45=>316 | 50=>57 | 5=>5 | 9=>9 | 66=>354 | 70=>358 | 76=>366 | 77=>367 | n=>n,fun | n=>n⟩
theorem Tryz.laysSortS:Go.Proofs.SlLaysF0.n6 Tryz.prog Tryz.laysSortS_ren:={
 mixed:=by kernel_rfl
 f6:=⟨Tryz.f82.name,by decide,Tryz.func82.trans (congrArg some (by kernel_rfl))⟩
 f14:=⟨Tryz.f182.name,by decide,Tryz.func182.trans (congrArg some (by kernel_rfl))⟩
 f15:=Tryz.func183.trans (congrArg some (by kernel_rfl))
 f20:=⟨Tryz.f251.name,by decide,Tryz.func251.trans (congrArg some (by kernel_rfl))⟩
 f21:=⟨Tryz.f252.name,by decide,Tryz.func252.trans (congrArg some (by kernel_rfl))⟩
 f22:=⟨Tryz.f253.name,by decide,Tryz.func253.trans (congrArg some (by kernel_rfl))⟩
 f23:=⟨Tryz.f254.name,by decide,Tryz.func254.trans (congrArg some (by kernel_rfl))⟩
 f24:=⟨Tryz.f255.name,by decide,Tryz.func255.trans (congrArg some (by kernel_rfl))⟩
 f25:=⟨Tryz.f256.name,by decide,Tryz.func256.trans (congrArg some (by kernel_rfl))⟩
 f26:=⟨Tryz.f257.name,by decide,Tryz.func257.trans (congrArg some (by kernel_rfl))⟩
 f27:=⟨Tryz.f258.name,by decide,Tryz.func258.trans (congrArg some (by kernel_rfl))⟩
 f28:=Tryz.func259.trans (congrArg some (by kernel_rfl))
 f29:=Tryz.func260.trans (congrArg some (by kernel_rfl))
 f46:=⟨Tryz.f304.name,by decide,Tryz.func304.trans (congrArg some (by kernel_rfl))⟩
 f47:=Tryz.func305.trans (congrArg some (by kernel_rfl))
 f48:=Tryz.func306.trans (congrArg some (by kernel_rfl))
 f49:=⟨Tryz.f307.name,by decide,Tryz.func307.trans (congrArg some (by kernel_rfl))⟩
 f50:=⟨Tryz.f308.name,by decide,Tryz.func308.trans (congrArg some (by kernel_rfl))⟩
 f57:=⟨Tryz.f321.name,by decide,Tryz.func321.trans (congrArg some (by kernel_rfl))⟩
 t0:=Tryz.underlying0
 a0:=Tryz.isAgg0
 z0:=Tryz.sizeOf0
 v0:=Tryz.zeroValue0
 t3:=Tryz.underlying3
 a3:=Tryz.isAgg3
 z3:=Tryz.sizeOf3
 v3:=Tryz.zeroValue3
 t4:=Tryz.underlying4
 a4:=Tryz.isAgg4
 z4:=Tryz.sizeOf4
 v4:=Tryz.zeroValue4
 t5:=Tryz.underlying5
 a5:=Tryz.isAgg5
 z5:=Tryz.sizeOf5
 v5:=Tryz.zeroValue5
 t9:=Tryz.underlying9
 a9:=Tryz.isAgg9
 z9:=Tryz.sizeOf9
 v9:=Tryz.zeroValue9
 t22:=Tryz.underlying67
 a22:=Tryz.isAgg67
 z22:=Tryz.sizeOf67
 v22:=Tryz.zeroValue67
 t25:=Tryz.underlying153
 a25:=Tryz.isAgg153
 z25:=Tryz.sizeOf153
 v25:=Tryz.zeroValue153
 t39:=Tryz.underlying260
 a39:=Tryz.isAgg260
 z39:=Tryz.sizeOf260
 v39:=Tryz.zeroValue260
 t45:=Tryz.underlying316
 a45:=Tryz.isAgg316
 z45:=Tryz.sizeOf316
 v45:=Tryz.zeroValue316
 t46:=Tryz.underlying317
 a46:=Tryz.isAgg317
 z46:=Tryz.sizeOf317
 v46:=Tryz.zeroValue317
 t50:=Tryz.underlying57
 a50:=Tryz.isAgg57
 z50:=Tryz.sizeOf57
 v50:=Tryz.zeroValue57
 t53:=Tryz.underlying323
 a53:=Tryz.isAgg323
 z53:=Tryz.sizeOf323
 v53:=Tryz.zeroValue323
 t55:=Tryz.underlying325
 a55:=Tryz.isAgg325
 z55:=Tryz.sizeOf325
 v55:=Tryz.zeroValue325
 t66:=Tryz.underlying354
 a66:=Tryz.isAgg354
 z66:=Tryz.sizeOf354
 v66:=Tryz.zeroValue354
 t70:=Tryz.underlying358
 a70:=Tryz.isAgg358
 z70:=Tryz.sizeOf358
 v70:=Tryz.zeroValue358
 t76:=Tryz.underlying366
 a76:=Tryz.isAgg366
 z76:=Tryz.sizeOf366
 v76:=Tryz.zeroValue366
 t77:=Tryz.underlying367
 a77:=Tryz.isAgg367
 z77:=Tryz.sizeOf367
 v77:=Tryz.zeroValue367 }
def Tryz.lays144_ren:Go.Shelf.Ren:=⟨fun | 144=>154 | 143=>233 | 219=>292 | 217=>314 | 225=>315 | 224=>316 | 267=>317 | 266=>323 | 314=>324 | n=>n,fun | 9=>9 | 4=>4 | 3=>3 | 5=>5 | 46=>260 | 146=>370 | 51=>323 | n=>n,fun | 1=>0 | n=>n⟩
theorem Tryz.lays144:Go.Proofs.Lays.n144 Tryz.prog Tryz.lays144_ren:={
 mixed:=by kernel_rfl
 f143:=Tryz.func233.trans (congrArg some (by kernel_rfl))
 f144:=Tryz.func154.trans (congrArg some (by kernel_rfl))
 f217:=Tryz.func314.trans (congrArg some (by kernel_rfl))
 f219:=Tryz.func292.trans (congrArg some (by kernel_rfl))
 f224:=Tryz.func316.trans (congrArg some (by kernel_rfl))
 f225:=Tryz.func315.trans (congrArg some (by kernel_rfl))
 f266:=Tryz.func323.trans (congrArg some (by kernel_rfl))
 f267:=Tryz.func317.trans (congrArg some (by kernel_rfl))
 f314:=Tryz.func324.trans (congrArg some (by kernel_rfl))
 t3:=Tryz.underlying3
 a3:=Tryz.isAgg3
 z3:=Tryz.sizeOf3
 v3:=Tryz.zeroValue3
 t4:=Tryz.underlying4
 a4:=Tryz.isAgg4
 z4:=Tryz.sizeOf4
 v4:=Tryz.zeroValue4
 t5:=Tryz.underlying5
 a5:=Tryz.isAgg5
 z5:=Tryz.sizeOf5
 v5:=Tryz.zeroValue5
 t9:=Tryz.underlying9
 a9:=Tryz.isAgg9
 z9:=Tryz.sizeOf9
 v9:=Tryz.zeroValue9
 t46:=Tryz.underlying260
 a46:=Tryz.isAgg260
 z46:=Tryz.sizeOf260
 v46:=Tryz.zeroValue260
 t51:=Tryz.underlying323
 a51:=Tryz.isAgg323
 z51:=Tryz.sizeOf323
 v51:=Tryz.zeroValue323
 t146:=Tryz.underlying370
 a146:=Tryz.isAgg370
 z146:=Tryz.sizeOf370
 v146:=Tryz.zeroValue370
 g1:=by kernel_rfl }
end Go.Proofs
namespace Go.Proofs.YtkkabinknmldeaaGreat.C
open Go Go.Av Go.Av.Ap
set_option maxRecDepth 100000
noncomputable def pg:Pg:={ T:=T,funcs:=qB mo,own:=own,other:=fun _=>none }
theorem hOther:dx pg:=fun f E h=>by cases h
theorem E184(call:FuncId→List AV→M AV)(fx:bJ AV)(a0:AV):bM (pg.cx call Tryz.f184.ntmps ub) fx Tryz.f184 (own 184) [a0]=S184 call fx a0:=by kernel_rfl
theorem C184(a0:AV):ai pg 184 [a0]=aF (S184 (ai pg) af (cl ax a0)):=(ay hOther rfl rfl rfl _).trans (congrArg aF (E184 _ _ (cl ax a0)))
theorem E84(call:FuncId→List AV→M AV)(fx:bJ AV)(a0 a1:AV):bM (pg.cx call Tryz.f84.ntmps zZ) fx Tryz.f84 (own 84) [a0,a1]=S84 call fx a0 a1:=by kernel_rfl
theorem C84(a0 a1:AV):ai pg 84 [a0,a1]=aF (S84 (ai pg) af (cl ax a0) (cl ax a1)):=(ay hOther rfl rfl rfl _).trans (congrArg aF (E84 _ _ (cl ax a0) (cl ax a1)))
theorem E188(call:FuncId→List AV→M AV)(fx:bJ AV)(a0:AV):bM (pg.cx call Tryz.f188.ntmps yt) fx Tryz.f188 (own 188) [a0]=S188 call fx a0:=by kernel_rfl
theorem C188(a0:AV):ai pg 188 [a0]=aF (S188 (ai pg) af (cl ax a0)):=(ay hOther rfl rfl rfl _).trans (congrArg aF (E188 _ _ (cl ax a0)))
theorem E89(call:FuncId→List AV→M AV)(fx:bJ AV)(a0 a1:AV):bM (pg.cx call Tryz.f89.ntmps Dy) fx Tryz.f89 (own 89) [a0,a1]=S89 call fx a0 a1:=by kernel_rfl
theorem C89(a0 a1:AV):ai pg 89 [a0,a1]=aF (S89 (ai pg) af (cl ax a0) (cl ax a1)):=(ay hOther rfl rfl rfl _).trans (congrArg aF (E89 _ _ (cl ax a0) (cl ax a1)))
theorem ve(t:Nat)(a b:aW):am T .gtr t (.str a) (.str b)=some (.bool !(aG a b||a== b)):=rfl
def nK(x y:aW):Int:=if aG x y=true then -1 else if aG y x=true then 1 else 0
theorem t184(s:aW):ai pg 184 [.str s]=M.pure (.bool false):=by
 rw[C184]
 have e:am T .neq 9 (.str s) (.str s)=some (.bool !(s== s)):=rfl
 simp[S184,e]
theorem t84(a b:aW):ai pg 84 [.str a,.str b]=M.pure (.int .i64 (nK a b)):=by
 rw[C84]
 unfold nK
 cases h1:aG a b with
 | true=>simp[S84,t184,h1]
 | false=>
  by_cases h2:a=b
  ·subst h2
   simp[S84,t184,fy,ve]
  ·have h3:=gF a b h1 h2
   have h4:(a== b)=false:=beq_eq_false_iff_ne.2 h2
   simp[S84,t184,h1,h3,h2,ve]
theorem G1(l:List Int)(hb:l.length≤1099511627776):∀(n:Nat)(i:Int),l.length - i.toNat=n→0≤i→i≤l.length→
  af (L188_0 (ai pg) af) [.int .i64 0,ints l,.int .i64 l.length,.int .i64 i]=M.pure (.int .i64 (((l.drop i.toNat).find? fun x=>!(x== 0)).getD 0)):=by
 intro n
 induction n with
 | zero=>
  intro i hn hi hl
  rw[FL188_0]
  simp only[L188_0]
  have h1:¬ (i < (l.length:Int)):=by omega
  have h2:l.drop i.toNat=[]:=List.drop_eq_nil_of_le (by omega)
  simp[h1,h2]
 | succ n ih=>
  intro i hn hi hl
  have h1:i < (l.length:Int):=by omega
  have hlt:i.toNat < l.length:=by omega
  have h4:=ih (i + 1) (by omega) (by omega) (by omega)
  rw[show (i + 1).toNat=i.toNat + 1 by omega] at h4
  rw[FL188_0,List.drop_eq_getElem_cons hlt]
  simp only[L188_0,List.find?_cons]
  by_cases h0:l[i.toNat]=0
  ·simp (disch:=omega) [h1,br,LK,h4,h0,getElem!_pos l i.toNat hlt]
  ·have h0':(l[i.toNat]== 0)=false:=beq_eq_false_iff_ne.2 h0
   simp (disch:=omega) [h1,br,LK,h0,h0',getElem!_pos l i.toNat hlt]
theorem t188(l:List Int)(hb:l.length≤1099511627776):ai pg 188 [ints l]=M.pure (.int .i64 ((l.find? fun x=>!(x== 0)).getD 0)):=by
 rw[C188]
 simp[S188,G1 l hb l.length 0 rfl (by omega) (by omega)]
theorem t89(a b:aD):ai pg 89 [aP a,aP b]=M.pure (.int .i64 (qv a b)):=by
 rw[C89]
 have hB:∀ x y:Int,aB T 44 2 [(0,.int .i64 x),(1,.int .i64 y)]=some (ints [x,y]):=fun x y=>rfl
 have hc:(([nK a.1 b.1,nK a.2 b.2].find? fun x=>!(x== 0)).getD 0)=qv a b:=by
  unfold qv nK ri
  have e1:=fy a.1
  have e2:=fy a.2
  cases h1:aG a.1 b.1 with
  | true=>simp
  | false=>
   cases h2:aG b.1 a.1 with
   | true=>
    have:a.1≠b.1:=fun e=>by rw[e,fy] at h2;cases h2
    have h3:(a.1== b.1)=false:=beq_eq_false_iff_ne.2 this
    simp[h3]
   | false=>
    have:a.1=b.1:=by
     by_cases e:a.1=b.1
     ·exact e
     ·have:=gF _ _ h1 e;rw[this] at h2;cases h2
    have h3:(a.1== b.1)=true:=beq_iff_eq.2 this
    have h4:(b.1== a.1)=true:=beq_iff_eq.2 this.symm
    cases h5:aG a.2 b.2 with
    | true=>simp[h3]
    | false=>
     cases h6:aG b.2 a.2 <;> simp[h3,h4]
 simp[S89,t84,hB,t188,ff,hc]
theorem good:@GoodPg ⟨True⟩ Tryz.prog pg:=by
 letI:Dr:=⟨True⟩
 exact⟨tok,qL,(fun f E h=>by cases h),(fun f h=>by cases h)⟩
end Go.Proofs.YtkkabinknmldeaaGreat.C
namespace Go.Proofs.YtkkabinknmldeaaGreat
open Go Go.Av Go.Av.Ap Go.RowKit Go.Sort
set_option maxRecDepth 1000000
theorem Ew{w:World}(hg:GOKw w){blk off n:Nat}{d:Array aD}{os:Array Obj}(hb:gN≤blk):GOKw (sortWorldK dj 2 w blk off n d os):=
 hg.mono fun b hlt=>iO dj 2 off n d os (Nat.lt_of_lt_of_le hlt hg.lt) (by omega)
theorem Ec:∀ args w,(callFunc 89 args).run Tryz.prog w= .ok (.enter 89 args) w:=enters_of Tryz.func89 (by kernel_rfl) rfl
theorem zU(S:au)(β:List bn)(x:aD):VR S β (aP x) (.agg (dj x).toArray):=by
 simp only[aP,VR]
 exact⟨dj x,rfl,nL.vr S β x⟩
theorem MI(x y:aD)(W:World)(hg:GOKw W):Calls Tryz.prog 89 #[.agg (dj x).toArray,.agg (dj y).toArray] W fun e w'=>e= .returned (.int .i64 (qv x y))∧∃ q os',w'=grow (W.drewN q) os':=by
 letI:Dr:=⟨True⟩
 have hv:aM (jh W) [] [aP x,aP y] [.agg (dj x).toArray,.agg (dj y).toArray]:=by
  simp only[aM]
  exact⟨_,_,rfl,zU _ _ x,_,_,rfl,zU _ _ y,rfl⟩
 have h:=(iS C.good C.hOther 89 [aP x,aP y] [] (jh W) [] W _ (by rw[C.t89];simp[M.pure]) ⟨hg,fun b _ ho=>by obtain⟨l,_,_,h1,_⟩:=ho;simp at h1⟩ (fun _ _ _ h=>h) ⟨rfl,fun _=>.no,fun l cs hl=>by simp at hl⟩ hv).1
 rw[C.t89] at h
 refine h.mono fun e w' hp=>?_
 obtain⟨S',β',v,rfl,hv,L,_⟩:=hp
 simp only[VR] at hv
 subst hv
 exact⟨rfl,L.grew trivial⟩
theorem L4:∀ w,(isAgg 65).run Tryz.prog w= .ok true w:=fun w=>by kernel_rfl
theorem K8:∀ w,(Go.sizeOf 65).run Tryz.prog w= .ok 2 w:=fun w=>by kernel_rfl
theorem rQ(w:World)(blk off cap:Nat)(d:Array aD)(hg:GOKw w)(hb:gN≤blk)(hH:HoldsK dB.ev dB.k w blk off d)(hlt:blk < w.heap.size)(hsz:d.size < 4611686018427387904):
  Calls Tryz.prog 180 #[.slice (some ⟨blk,off,none⟩) d.size cap,.func (.func 89) #[] #[]] w fun e w'=>e= .returned (.tuple #[])∧∃ n os,w'=sortWorldK dB.ev dB.k w blk off n (ge d.toList).toArray os:=by
 have:=AnyQ.slices_SortFunc_eq Tryz.laysSort 2 L4 K8 dj (fun _=>rfl) nL.one qv NM 89 #[] blk off cap d w Ec
  (fun m os dk _ x y=>MI x y _ (Ew hg hb)) hH hlt hsz
 refine this.mono ?_
 rintro e w' ⟨he,n,os,hw⟩
 refine⟨he,n,os,?_⟩
 rw[hw]
 unfold ge
 simp only[dB]
theorem KX(call:FuncId→List AV→M AV)(args:List AV)(h:Hp)(S:au)(β:List bn)(w:World)(vs:List Value)(hr:gD 89 call args h≠.fail)(hg:sa β h w)(hw:Wf S w)(hh:ca S β w h)(hv:aM S β args vs):
  Calls Tryz.prog 180 vs.toArray w (dl none S β h w (gD 89 call args h)):=by
 by_cases hf:∃ o',args=[.hn,.fn (.func o') [] []]
 ·obtain⟨o',rfl⟩:=hf
  have e:gD 89 call [.hn,.fn (.func o') [] []] h=(bif Nat.beq o' 89 then R.ok (.tup []) h else R.fail):=rfl
  rw[e] at hr ⊢
  cases hb:Nat.beq o' 89 with
  | false=>rw[hb] at hr;exact absurd rfl hr
  | true=>
   simp only[aM,VR] at hv
   obtain⟨_,_,rfl,rfl,v,_,rfl,_,rfl⟩:=hv
   refine (AnyF.slices_SortFunc_none Tryz.laysSort none 0 v w).mono ?_
   rintro e' w' ⟨rfl,rfl⟩
   exact eI hw hh (Below.refl _ _) uL (by simp only[VR,aM];exact⟨[],rfl,rfl⟩)
 ·have e:gD 89 call args h=lG dB 89 ge call args h:=by
   unfold gD
   split
   ·rename_i o';exact absurd ⟨o',rfl⟩ hf
   ·rfl
  rw[e] at hr ⊢
  have h0:=hr
  unfold lG at h0
  split at h0
  ·rename_i g'
   cases hb:Nat.beq g' 89 with
   | false=>rw[hb] at h0;exact absurd rfl h0
   | true=>
    have e:lG dB 89 ge call [.sl [],.fn (.func g') [] []] h= .ok (.tup []) h:=by simp only[lG,hb,cond_true]
    rw[e]
    simp only[aM,VR,List.length_nil] at hv
    obtain⟨_,_,rfl,⟨a,cap,rfl,_⟩,v,_,rfl,_,rfl⟩:=hv
    refine (AnyF.slices_SortFunc_none Tryz.laysSort a cap v w).mono ?_
    rintro e' w' ⟨rfl,rfl⟩
    exact eI hw hh (Below.refl _ _) uL (by simp only[VR,aM];exact⟨[],rfl,rfl⟩)
  ·exact Hu nL call (fun w blk off cap d hg hb hH hlt hsz=>rQ w blk off cap d hg hb hH hlt hsz) hr hg hw hh hv
  ·exact absurd rfl h0
end Go.Proofs.YtkkabinknmldeaaGreat
