/- What the functions of the seat compute, part 6: the texts of the claim, one behind the other. Conditions: bounds, as each theorem names them. -/
import Derived.Test.YtihmmkncokjbaaaGreatDoorTe
set_option linter.defProp false
set_option linter.unusedSimpArgs false
set_option linter.unusedVariables false
namespace Go.Proofs.YtihmmkncokjbaaaGreatDoor
open Go Go.Av Go.Av.Ap
set_option maxRecDepth 100000
noncomputable section
def L11_0(call:CC)(fx:bG AV)(a:RR)(b:List AV):M AV:=ae (af (aO T 23 (nth b 0))) fun c=>ae (af (am T .lss 3 (nth b 2) c)) fun d=>ap d (ae (af (ak T 23 (nth b 0) (nth b 2))) fun e=>ae (af (aa T 37 e 1)) fun f=>ae (af (ah T 35 f)) fun g=>ae (af (ak T 30 (nth b 1) (nth b 2))) fun h=>ae (af (ah T 45 h)) fun i=>ae (cR (call 20 [g,i])) fun j=>ae (af (eG UnOp.not j)) fun k=>ap k (M.pure (AV.bool false)) (ae (af (am T .add 3 (nth b 2) (.int .i64 1))) fun l=>a [nth b 0,nth b 1,l])) (M.pure (AV.bool true))
def XL11_0{call:CC}:bQ (L11_0 call aj) fun _n=>L11_0 call aj  :=by
 intro a b c d;unfold L11_0;exact (lb fun _=>(lb fun _=>(aw (by(iterate 7 refine lb fun _=>?_);exact (aw (aL.const _) (lb fun _=>c _))) (aL.const _))))
def FL11_0(call:CC)(vs:List AV):aj (L11_0 call aj) vs=L11_0 call aj  (aj (L11_0 call aj)) vs:=aT (XL11_0) vs
def S11(call:CC)(fx:bG AV)(a0 a1:AV):M AV:=ae (af (aO T 23 a0)) fun a=>ae (af (aO T 30 a1)) fun b=>ae (af (am T .neq 3 a b)) fun c=>ap c (M.pure (AV.bool false)) (fx (L11_0 call fx) [a0,a1,.int .i64 0])
def E11(a0 a1:AV):EE 11 Tryz.f11 Iq [a0,a1] (fun c x=>S11 c x a0 a1):=fun _ _=>by kernel_rfl
def C11(a0 a1:AV):ai pg 11 [a0,a1]=aI (S11 (ai pg) aj (cl az a0) (cl az a1)):=(aA aF rfl rfl rfl _).trans (Pp aI (E11 (cl az a0) (cl az a1) _ _))
def L16_0(call:CC)(fx:bG AV)(a:RR)(b:List AV):M AV:=ae (af (aO T 47 (nth b 0))) fun c=>ae (af (am T .lss 3 (nth b 1) c)) fun d=>ap d (ae (af (ak T 47 (nth b 0) (nth b 1))) fun e=>ae (af (ah T 35 e)) fun f=>ae (call 48 [f,.int .i64 40,.int .i64 6]) fun g=>ae (af (am T .gtr 3 g (.int .i64 40))) fun h=>ap h (M.pure (AV.bool false)) (ae (af (am T .add 3 (nth b 1) (.int .i64 1))) fun i=>a [nth b 0,i])) (M.pure (AV.bool true))
def XL16_0{call:CC}:bQ (L16_0 call aj) fun _n=>L16_0 call aj  :=by
 intro a b c d;unfold L16_0;exact (lb fun _=>(lb fun _=>(aw (lb fun _=>(lb fun _=>(lb fun _=>(lb fun _=>(aw (aL.const _) (lb fun _=>c _)))))) (aL.const _))))
def FL16_0(call:CC)(vs:List AV):aj (L16_0 call aj) vs=L16_0 call aj  (aj (L16_0 call aj)) vs:=aT (XL16_0) vs
def S16(call:CC)(fx:bG AV)(a0:AV):M AV:=fx (L16_0 call fx) [a0,.int .i64 0]
def E16(a0:AV):EE 16 Tryz.f16 It [a0] (fun c x=>S16 c x a0):=fun _ _=>by kernel_rfl
def C16(a0:AV):ai pg 16 [a0]=aI (S16 (ai pg) aj (cl az a0)):=(aA aF rfl rfl rfl _).trans (Pp aI (E16 (cl az a0) _ _))
def S23(call:CC)(fx:bG AV)(a0:AV):M AV:=ae (af (ah T 35 (.ip (ab a0)))) fun a=>ae (call 56 [a]) fun b=>M.pure b
def E23(a0:AV):EE 23 Tryz.f23 Iv [a0] (fun c x=>S23 c x a0):=fun _ _=>by kernel_rfl
def C23(a0:AV):ai pg 23 [a0]=aI (S23 (ai pg) aj (cl az a0)):=(aA aF rfl rfl rfl _).trans (Pp aI (E23 (cl az a0) _ _))
def L38_0(call:CC)(fx:bG AV)(a:RR)(b:List AV):M AV:=ae (af (am T .lss 3 (nth b 3) (nth b 2))) fun c=>ap c (ae (af (ak T 25 (nth b 1) (nth b 3))) fun d=>ae (af (ah T 68 d)) fun e=>ae (aN 12 e) fun f=>ae (af (bo (nth b 0))) fun g=>ae (af (aa T 107 g 2)) fun h=>ae (bP T 3 h (.int .i64 0)) fun i=>ae (af (aa T 68 (.ip (ab f)) 2)) fun j=>ae (af (ah T 23 j)) fun k=>ae (af (aa T 68 (.ip (ab f)) 5)) fun l=>ae (af (ah T 66 l)) fun m=>ae (call 78 [nth b 0,k,m]) fun n=>ae (af (aD n 0)) fun o=>ae (af (aD n 1)) fun p=>ae (aN 2 o) fun q=>ae (af (am T .neq 39 p (.int .i64 0))) fun r=>ap r (ae (af (aa T 68 (.ip (ab f)) 0)) fun s=>ae (af (ah T 9 s)) fun u=>M.pure (AV.tup [u,p])) (ae (af (ah T 35 (.ip (ab q)))) fun v=>ae (af (aa T 68 (.ip (ab f)) 3)) fun w=>ae (af (ah T 35 w)) fun x=>ae (call 72 [v,x]) fun y=>ae (af (eG UnOp.not y)) fun z=>ap z (ae (af (aa T 68 (.ip (ab f)) 0)) fun A=>ae (af (ah T 9 A)) fun B=>M.pure (AV.tup [B,.int .i64 13])) (ae (af (bo (nth b 0))) fun C=>ae (af (aa T 107 C 2)) fun D=>ae (aW T 3 D) fun E=>ae (af (aa T 68 (.ip (ab f)) 4)) fun F=>ae (af (ah T 3 F)) fun G=>ae (af (am T .andNot 3 E G)) fun H=>ae (af (am T .neq 3 H (.int .i64 0))) fun I=>ap I (ae (af (aa T 68 (.ip (ab f)) 0)) fun J=>ae (af (ah T 9 J)) fun K=>M.pure (AV.tup [K,.int .i64 14])) (ae (af (am T .add 3 (nth b 3) (.int .i64 1))) fun L=>a [nth b 0,nth b 1,nth b 2,L])))) (M.pure (AV.tup [.str [],.int .i64 0]))
def L38_1(call:CC)(fx:bG AV)(a:RR)(b:List AV):M AV:=ae (af (am T .lss 3 (nth b 4) (nth b 3))) fun c=>ap c (ae (af (ak T 22 (nth b 2) (nth b 4))) fun d=>ae (af (ah T 9 d)) fun e=>ae (af (bo (nth b 1))) fun f=>ae (af (aa T 107 f 1)) fun g=>ae (aW T 105 g) fun h=>ae (fa T 105 h e true) fun i=>ae (af (aD i 0)) fun j=>ae (af (aD i 1)) fun k=>ae (aN 2 j) fun l=>ae (af (eG UnOp.not k)) fun m=>ae (ax m false 1 (ae (af (aa T 29 (nth b 0) 0)) fun n=>ae (af (ah T 9 n)) fun o=>ae (af (am T .eql 9 e o)) fun p=>M.pure [p])) fun q=>ae (af (aG m (.bool true) (nth q 0))) fun r=>ap r (M.pure (AV.tup [e,.int .i64 12])) (ae (af (am T .add 3 (nth b 4) (.int .i64 1))) fun s=>a [nth b 0,nth b 1,nth b 2,nth b 3,s])) (ae (af (ah T 29 (nth b 0))) fun u=>ae (call 77 [u]) fun v=>ae (af (aD v 0)) fun w=>ae (af (aD v 1)) fun x=>ae (af (am T .neq 39 x (.int .i64 0))) fun y=>ap y (M.pure (AV.tup [w,x])) (ae (af (aa T 29 (nth b 0) 4)) fun z=>ae (af (ah T 25 z)) fun A=>ae (af (aO T 25 A)) fun B=>fx (L38_0 call fx) [nth b 1,A,B,.int .i64 0]))
def XL38_0{call:CC}:bQ (L38_0 call aj) fun _n=>L38_0 call aj  :=by
 intro a b c d;unfold L38_0;exact (lb fun _=>(aw (by(iterate 15 refine lb fun _=>?_);exact (aw (aL.const _) (by(iterate 5 refine lb fun _=>?_);exact (aw (aL.const _) (by(iterate 7 refine lb fun _=>?_);exact (aw (aL.const _) (lb fun _=>c _))))))) (aL.const _)))
def FL38_0(call:CC)(vs:List AV):aj (L38_0 call aj) vs=L38_0 call aj  (aj (L38_0 call aj)) vs:=aT (XL38_0) vs
def XL38_1{call:CC}:bQ (L38_1 call aj) fun _n=>L38_1 call aj  :=by
 intro a b c d;unfold L38_1;exact (lb fun _=>(aw (by(iterate 12 refine lb fun _=>?_);exact (aw (aL.const _) (lb fun _=>c _))) (aL.const _)))
def FL38_1(call:CC)(vs:List AV):aj (L38_1 call aj) vs=L38_1 call aj  (aj (L38_1 call aj)) vs:=aT (XL38_1) vs
def S38(call:CC)(fx:bG AV)(a0 a1:AV):M AV:=ae (af (ah T 29 (.ip (ab a0)))) fun a=>ae (call 75 [a,a1]) fun b=>ae (af (aD b 0)) fun c=>ae (af (aD b 1)) fun d=>ae (af (eG UnOp.not d)) fun e=>ae (ax e false 1 (ae (af (ah T 29 (.ip (ab a0)))) fun f=>ae (call 76 [f]) fun g=>ae (af (eG UnOp.not g)) fun h=>M.pure [h])) fun i=>ae (af (aG e (.bool true) (nth i 0))) fun j=>ap j (M.pure (AV.tup [.str [],.int .i64 1])) (ae (af (aa T 29 (.ip (ab a0)) 1)) fun k=>ae (af (ah T 22 k)) fun l=>ae (af (aO T 22 l)) fun m=>fx (L38_1 call fx) [.ip (ab a0),c,l,m,.int .i64 0])
def E38(a0 a1:AV):EE 38 Tryz.f38 Ix [a0,a1] (fun c x=>S38 c x a0 a1):=fun _ _=>by kernel_rfl
def C38(a0 a1:AV):ai pg 38 [a0,a1]=aI (S38 (ai pg) aj (cl az a0) (cl az a1)):=(aA aF rfl rfl rfl _).trans (Pp aI (E38 (cl az a0) (cl az a1) _ _))
def L43_0(call:CC)(fx:bG AV)(a:RR)(b:List AV):M AV:=ae (af (am T .lss 3 (nth b 3) (nth b 2))) fun c=>ap c (ae (af (ak T 23 (nth b 1) (nth b 3))) fun d=>ae (af (ah T 37 d)) fun e=>ae (aN 3 e) fun f=>ae (af (aa T 37 (.ip (ab f)) 1)) fun g=>ae (af (ah T 35 g)) fun h=>ae (af (ak T 30 (nth b 0) (nth b 3))) fun i=>ae (af (ah T 45 i)) fun j=>ae (cR (call 20 [h,j])) fun k=>ae (af (eG UnOp.not k)) fun l=>ap l (M.pure (AV.bool false)) (ae (af (am T .add 3 (nth b 3) (.int .i64 1))) fun m=>a [nth b 0,nth b 1,nth b 2,m])) (M.pure (AV.bool true))
def XL43_0{call:CC}:bQ (L43_0 call aj) fun _n=>L43_0 call aj  :=by
 intro a b c d;unfold L43_0;exact (lb fun _=>(aw (by(iterate 9 refine lb fun _=>?_);exact (aw (aL.const _) (lb fun _=>c _))) (aL.const _)))
def FL43_0(call:CC)(vs:List AV):aj (L43_0 call aj) vs=L43_0 call aj  (aj (L43_0 call aj)) vs:=aT (XL43_0) vs
def S43(call:CC)(fx:bG AV)(a0 a1:AV):M AV:=ae (af (aO T 23 a0)) fun a=>ae (af (aO T 30 a1)) fun b=>ae (af (am T .neq 3 a b)) fun c=>ap c (M.pure (AV.bool false)) (ae (af (aO T 23 a0)) fun d=>fx (L43_0 call fx) [a1,a0,d,.int .i64 0])
def E43(a0 a1:AV):EE 43 Tryz.f43 IF [a0,a1] (fun c x=>S43 c x a0 a1):=fun _ _=>by kernel_rfl
def C43(a0 a1:AV):ai pg 43 [a0,a1]=aI (S43 (ai pg) aj (cl az a0) (cl az a1)):=(aA aF rfl rfl rfl _).trans (Pp aI (E43 (cl az a0) (cl az a1) _ _))
def L46_0(call:CC)(fx:bG AV)(a:RR)(b:List AV):M AV:=ae (af (am T .lss 3 (nth b 6) (nth b 5))) fun c=>ap c (ae (af (ak T 23 (nth b 4) (nth b 6))) fun d=>ae (af (ah T 37 d)) fun e=>ae (aN 3 e) fun f=>ae (af (ak T 24 (nth b 1) (nth b 6))) fun g=>ae (af (ah T 66 g)) fun h=>ae (call 85 [h,nth b 2,nth b 0]) fun i=>ae (af (aD i 0)) fun j=>ae (af (aD i 1)) fun k=>ae (aN 4 j) fun l=>ae (af (am T .neq 39 k (.int .i64 0))) fun m=>ap m (M.pure (AV.tup [.sl [],k])) (ae (af (aa T 37 (.ip (ab f)) 1)) fun n=>ae (af (ah T 35 n)) fun o=>ae (af (ah T 45 (.ip (ab l)))) fun p=>ae (call 20 [o,p]) fun q=>ae (af (eG UnOp.not q)) fun r=>ap r (M.pure (AV.tup [.sl [],.int .i64 13])) (ae (af (ah T 45 (.ip (ab l)))) fun s=>ae (af (aJ T 30 1 [(0,s)])) fun u=>ae (af (cQ T 30 (nth b 3) u)) fun v=>ae (af (am T .add 3 (nth b 6) (.int .i64 1))) fun w=>a [nth b 0,nth b 1,nth b 2,v,nth b 4,nth b 5,w]))) (M.pure (AV.tup [nth b 3,.int .i64 0]))
def L46_1(call:CC)(fx:bG AV)(a:RR)(b:List AV):M AV:=ae (af (am T .lss 3 (nth b 6) (nth b 5))) fun c=>ap c (ae (af (ak T 23 (nth b 4) (nth b 6))) fun d=>ae (af (ah T 37 d)) fun e=>ae (aN 3 e) fun f=>ae (af (aa T 37 (.ip (ab f)) 0)) fun g=>ae (af (ah T 9 g)) fun h=>ae (af (aJ T 22 1 [(0,h)])) fun i=>ae (af (cQ T 22 (nth b 3) i)) fun j=>ae (af (am T .add 3 (nth b 6) (.int .i64 1))) fun k=>a [nth b 0,nth b 1,nth b 2,j,nth b 4,nth b 5,k]) (ae (af (aO T 23 (nth b 0))) fun l=>fx (L46_0 call fx) [nth b 1,nth b 2,nth b 3,.sl [],nth b 0,l,.int .i64 0])
def XL46_0{call:CC}:bQ (L46_0 call aj) fun _n=>L46_0 call aj  :=by
 intro a b c d;unfold L46_0;exact (lb fun _=>(aw (by(iterate 10 refine lb fun _=>?_);exact (aw (aL.const _) (by(iterate 5 refine lb fun _=>?_);exact (aw (aL.const _) (lb fun _=>(lb fun _=>(lb fun _=>(lb fun _=>c _)))))))) (aL.const _)))
def FL46_0(call:CC)(vs:List AV):aj (L46_0 call aj) vs=L46_0 call aj  (aj (L46_0 call aj)) vs:=aT (XL46_0) vs
def XL46_1{call:CC}:bQ (L46_1 call aj) fun _n=>L46_1 call aj  :=by
 intro a b c d;unfold L46_1;exact (lb fun _=>(aw (by(iterate 8 refine lb fun _=>?_);exact (c _)) (aL.const _)))
def FL46_1(call:CC)(vs:List AV):aj (L46_1 call aj) vs=L46_1 call aj  (aj (L46_1 call aj)) vs:=aT (XL46_1) vs
def S46(call:CC)(fx:bG AV)(a0 a1 a2 a3:AV):M AV:=ae (af (aO T 23 a0)) fun a=>fx (L46_1 call fx) [a1,a2,a3,.sl [],a0,a,.int .i64 0]
def E46(a0 a1 a2 a3:AV):EE 46 Tryz.f46 IJ [a0,a1,a2,a3] (fun c x=>S46 c x a0 a1 a2 a3):=fun _ _=>by kernel_rfl
def C46(a0 a1 a2 a3:AV):ai pg 46 [a0,a1,a2,a3]=aI (S46 (ai pg) aj (cl az a0) (cl az a1) (cl az a2) (cl az a3)):=(aA aF rfl rfl rfl _).trans (Pp aI (E46 (cl az a0) (cl az a1) (cl az a2) (cl az a3) _ _))
def S56(call:CC)(fx:bG AV)(a0:AV):M AV:=ae (af (ah T 35 (.ip (ab a0)))) fun a=>ae (call 99 [a,.int .i64 4]) fun b=>M.pure b
def E56(a0:AV):EE 56 Tryz.f56 IP [a0] (fun c x=>S56 c x a0):=fun _ _=>by kernel_rfl
def C56(a0:AV):ai pg 56 [a0]=aI (S56 (ai pg) aj (cl az a0)):=(aA aF rfl rfl rfl _).trans (Pp aI (E56 (cl az a0) _ _))
def L83_0(call:CC)(fx:bG AV)(a:RR)(b:List AV):M AV:=ae (af (am T .lss 3 (nth b 4) (nth b 3))) fun c=>ap c (ae (af (ak T 23 (nth b 2) (nth b 4))) fun d=>ae (af (ah T 37 d)) fun e=>ae (aN 3 e) fun f=>ae (af (ak T 23 (nth b 0) (nth b 4))) fun g=>ae (af (ah T 37 g)) fun h=>ae (aN 3 h) fun i=>ae (af (ah T 37 (.ip (ab f)))) fun j=>ae (af (ah T 37 (.ip (ab i)))) fun k=>ae (bu call (nth b 1) [j,k]) fun l=>ae (af (eG UnOp.not l)) fun m=>ap m (M.pure (AV.bool false)) (ae (af (am T .add 3 (nth b 4) (.int .i64 1))) fun n=>a [nth b 0,nth b 1,nth b 2,nth b 3,n])) (M.pure (AV.bool true))
def XL83_0{call:CC}:bQ (L83_0 call aj) fun _n=>L83_0 call aj  :=by
 intro a b c d;unfold L83_0;exact (lb fun _=>(aw (by(iterate 10 refine lb fun _=>?_);exact (aw (aL.const _) (lb fun _=>c _))) (aL.const _)))
def FL83_0(call:CC)(vs:List AV):aj (L83_0 call aj) vs=L83_0 call aj  (aj (L83_0 call aj)) vs:=aT (XL83_0) vs
def S83(call:CC)(fx:bG AV)(a0 a1 a2:AV):M AV:=ae (af (aO T 23 a0)) fun a=>ae (af (aO T 23 a1)) fun b=>ae (af (am T .neq 3 a b)) fun c=>ap c (M.pure (AV.bool false)) (ae (af (aO T 23 a0)) fun d=>fx (L83_0 call fx) [a1,a2,a0,d,.int .i64 0])
def E83(a0 a1 a2:AV):EE 83 Tryz.f83 I5 [a0,a1,a2] (fun c x=>S83 c x a0 a1 a2):=fun _ _=>by kernel_rfl
def C83(a0 a1 a2:AV):ai pg 83 [a0,a1,a2]=aI (S83 (ai pg) aj (cl az a0) (cl az a1) (cl az a2)):=(aA aF rfl rfl rfl _).trans (Pp aI (E83 (cl az a0) (cl az a1) (cl az a2) _ _))
def S97(call:CC)(fx:bG AV)(a0 a1:AV):M AV:=ae (af (aa T 45 a1 2)) fun a=>ae (af (ah T 22 a)) fun b=>ae (af (aa T 37 (.ip (ab a0)) 0)) fun c=>ae (af (ah T 9 c)) fun d=>ae (call 98 [b,d]) fun e=>ae (af (am T .lss 3 e (.int .i64 0))) fun f=>ae (ax f false 1 (ae (af (aa T 37 (.ip (ab a0)) 1)) fun g=>ae (af (ah T 35 g)) fun h=>ae (af (aa T 45 a1 3)) fun i=>ae (af (ah T 30 i)) fun j=>ae (af (ak T 30 j e)) fun k=>ae (af (ah T 45 k)) fun l=>ae (cR (call 55 [h,l])) fun m=>ae (af (eG UnOp.not m)) fun n=>M.pure [n])) fun o=>ae (af (aG f (.bool true) (nth o 0))) fun p=>M.pure p
def E97(a0 a1:AV):EE 97 Tryz.f97 Ja [a0,a1] (fun c x=>S97 c x a0 a1):=fun _ _=>by kernel_rfl
def C97(a0 a1:AV):ai pg 97 [a0,a1]=aI (S97 (ai pg) aj (cl az a0) (cl az a1)):=(aA aF rfl rfl rfl _).trans (Pp aI (E97 (cl az a0) (cl az a1) _ _))
def L98_0(call:CC)(fx:bG AV)(a:RR)(b:List AV):M AV:=ae (af (am T .lss 3 (nth b 3) (nth b 2))) fun c=>ap c (ae (af (ak T 22 (nth b 0) (nth b 3))) fun d=>ae (af (ah T 9 d)) fun e=>ae (af (am T .eql 9 (nth b 1) e)) fun f=>ap f (M.pure (nth b 3)) (ae (af (am T .add 3 (nth b 3) (.int .i64 1))) fun g=>a [nth b 0,nth b 1,nth b 2,g])) (M.pure (AV.int .i64 (-1)))
def XL98_0{call:CC}:bQ (L98_0 call aj) fun _n=>L98_0 call aj  :=by
 intro a b c d;unfold L98_0;exact (lb fun _=>(aw (lb fun _=>(lb fun _=>(lb fun _=>(aw (aL.const _) (lb fun _=>c _))))) (aL.const _)))
def FL98_0(call:CC)(vs:List AV):aj (L98_0 call aj) vs=L98_0 call aj  (aj (L98_0 call aj)) vs:=aT (XL98_0) vs
def S98(call:CC)(fx:bG AV)(a0 a1:AV):M AV:=ae (af (aO T 22 a0)) fun a=>fx (L98_0 call fx) [a0,a1,a,.int .i64 0]
def E98(a0 a1:AV):EE 98 Tryz.f98 Jb [a0,a1] (fun c x=>S98 c x a0 a1):=fun _ _=>by kernel_rfl
def C98(a0 a1:AV):ai pg 98 [a0,a1]=aI (S98 (ai pg) aj (cl az a0) (cl az a1)):=(aA aF rfl rfl rfl _).trans (Pp aI (E98 (cl az a0) (cl az a1) _ _))
def L99_0(call:CC)(fx:bG AV)(a:RR)(b:List AV):M AV:=ae (af (am T .lss 3 (nth b 4) (nth b 3))) fun c=>ap c (ae (af (ak T 23 (nth b 2) (nth b 4))) fun d=>ae (af (ah T 37 d)) fun e=>ae (aN 3 e) fun f=>ae (af (aa T 37 (.ip (ab f)) 0)) fun g=>ae (af (ah T 9 g)) fun h=>ae (cR (call 119 [h])) fun i=>ae (af (eG UnOp.not i)) fun j=>ae (ax j false 1 (ae (af (am T .gtr 3 (nth b 4) (.int .i64 0))) fun k=>M.pure [k])) fun l=>ae (ax (nth l 0) true 1 (ae (af (aa T 37 (.ip (ab f)) 0)) fun m=>ae (af (ah T 9 m)) fun n=>ae (af (aa T 35 (nth b 1) 1)) fun o=>ae (af (ah T 23 o)) fun p=>ae (af (am T .sub 3 (nth b 4) (.int .i64 1))) fun q=>ae (af (ak T 23 p q)) fun r=>ae (af (aa T 37 r 0)) fun s=>ae (af (ah T 9 s)) fun u=>ae (af (am T .leq 9 n u)) fun v=>M.pure [v])) fun w=>ae (ax j false 1 (ae (af (aG (nth l 0) (nth w 0) (.bool false))) fun x=>M.pure [x])) fun y=>ae (af (aG j (.bool true) (nth y 0))) fun z=>ae (ax z false 1 (ae (af (aa T 37 (.ip (ab f)) 1)) fun A=>ae (af (ah T 35 A)) fun B=>ae (af (am T .sub 3 (nth b 0) (.int .i64 1))) fun C=>ae (cR (call 99 [B,C])) fun D=>ae (af (eG UnOp.not D)) fun E=>M.pure [E])) fun F=>ae (af (aG z (.bool true) (nth F 0))) fun G=>ap G (M.pure (AV.bool false)) (ae (af (am T .add 3 (nth b 4) (.int .i64 1))) fun H=>a [nth b 0,nth b 1,nth b 2,nth b 3,H])) (M.pure (AV.bool true))
def XL99_0{call:CC}:bQ (L99_0 call aj) fun _n=>L99_0 call aj  :=by
 intro a b c d;unfold L99_0;exact (lb fun _=>(aw (by(iterate 13 refine lb fun _=>?_);exact (aw (aL.const _) (lb fun _=>c _))) (aL.const _)))
def FL99_0(call:CC)(vs:List AV):aj (L99_0 call aj) vs=L99_0 call aj  (aj (L99_0 call aj)) vs:=aT (XL99_0) vs
def S99(call:CC)(fx:bG AV)(a0 a1:AV):M AV:=ae (af (am T .eql 3 a1 (.int .i64 0))) fun a=>ae (ax a false 1 (ae (af (aa T 35 (.ip (ab a0)) 0)) fun b=>ae (af (ah T 3 b)) fun c=>ae (af (am T .lss 3 c (.int .i64 0))) fun d=>M.pure [d])) fun e=>ae (af (aG a (.bool true) (nth e 0))) fun f=>ae (ax f false 1 (ae (af (aa T 35 (.ip (ab a0)) 0)) fun g=>ae (af (ah T 3 g)) fun h=>ae (af (am T .geq 3 h (.int .i64 3))) fun i=>M.pure [i])) fun j=>ae (af (aG f (.bool true) (nth j 0))) fun k=>ae (ax k false 1 (ae (af (aa T 35 (.ip (ab a0)) 1)) fun l=>ae (af (ah T 23 l)) fun m=>ae (af (aO T 23 m)) fun n=>ae (af (am T .gtr 3 n (.int .i64 8))) fun o=>M.pure [o])) fun p=>ae (af (aG k (.bool true) (nth p 0))) fun q=>ae (ax q false 1 (ae (af (aa T 35 (.ip (ab a0)) 0)) fun r=>ae (af (ah T 3 r)) fun s=>ae (af (am T .neq 3 s (.int .i64 2))) fun u=>M.pure [u])) fun v=>ae (ax (nth v 0) true 1 (ae (af (aa T 35 (.ip (ab a0)) 1)) fun w=>ae (af (ah T 23 w)) fun x=>ae (af (aO T 23 x)) fun y=>ae (af (am T .gtr 3 y (.int .i64 0))) fun z=>M.pure [z])) fun A=>ae (ax q false 1 (ae (af (aG (nth v 0) (nth A 0) (.bool false))) fun B=>M.pure [B])) fun C=>ae (af (aG q (.bool true) (nth C 0))) fun D=>ap D (M.pure (AV.bool false)) (ae (af (aa T 35 (.ip (ab a0)) 1)) fun E=>ae (af (ah T 23 E)) fun F=>ae (af (aO T 23 F)) fun G=>fx (L99_0 call fx) [a1,.ip (ab a0),F,G,.int .i64 0])
def E99(a0 a1:AV):EE 99 Tryz.f99 Jc [a0,a1] (fun c x=>S99 c x a0 a1):=fun _ _=>by kernel_rfl
def C99(a0 a1:AV):ai pg 99 [a0,a1]=aI (S99 (ai pg) aj (cl az a0) (cl az a1)):=(aA aF rfl rfl rfl _).trans (Pp aI (E99 (cl az a0) (cl az a1) _ _))
def L122_0(call:CC)(fx:bG AV)(a:RR)(b:List AV):M AV:=ae (af (am T .lss 3 (nth b 4) (nth b 3))) fun c=>ap c (ae (af (ak T 24 (nth b 2) (nth b 4))) fun d=>ae (af (ah T 66 d)) fun e=>ae (aN 6 e) fun f=>ae (af (ah T 66 (.ip (ab f)))) fun g=>ae (call 121 [g]) fun h=>ae (af (eG UnOp.not h)) fun i=>ap i (M.pure (AV.bool false)) (ae (af (am T .add 3 (nth b 4) (.int .i64 1))) fun j=>a [nth b 0,nth b 1,nth b 2,nth b 3,j])) (ae (af (aO T 24 (nth b 0))) fun k=>ae (af (am T .eql 3 k (nth b 1))) fun l=>M.pure l)
def XL122_0{call:CC}:bQ (L122_0 call aj) fun _n=>L122_0 call aj  :=by
 intro a b c d;unfold L122_0;exact (lb fun _=>(aw (by(iterate 6 refine lb fun _=>?_);exact (aw (aL.const _) (lb fun _=>c _))) (aL.const _)))
def FL122_0(call:CC)(vs:List AV):aj (L122_0 call aj) vs=L122_0 call aj  (aj (L122_0 call aj)) vs:=aT (XL122_0) vs
def S122(call:CC)(fx:bG AV)(a0 a1:AV):M AV:=ae (af (aO T 24 a0)) fun a=>fx (L122_0 call fx) [a0,a1,a0,a,.int .i64 0]
def E122(a0 a1:AV):EE 122 Tryz.f122 Ds [a0,a1] (fun c x=>S122 c x a0 a1):=fun _ _=>by kernel_rfl
def C122(a0 a1:AV):ai pg 122 [a0,a1]=aI (S122 (ai pg) aj (cl az a0) (cl az a1)):=(aA aF rfl rfl rfl _).trans (Pp aI (E122 (cl az a0) (cl az a1) _ _))
def L126_0(call:CC)(fx:bG AV)(a:RR)(b:List AV):M AV:=ae (af (am T .lss 3 (nth b 4) (nth b 3))) fun c=>ap c (ae (af (ak T 47 (nth b 2) (nth b 4))) fun d=>ae (af (ah T 35 d)) fun e=>ae (aN 2 e) fun f=>ae (af (ah T 35 (.ip (ab f)))) fun g=>ae (af (aa T 145 (nth b 1) 1)) fun h=>ae (af (ah T 47 h)) fun i=>ae (af (ak T 47 i (nth b 4))) fun j=>ae (af (ah T 35 j)) fun k=>ae (cR (call 72 [g,k])) fun l=>ae (af (eG UnOp.not l)) fun m=>ap m (ae (af (aU T false 35 [])) fun n=>ae (ay 2 [] n) fun o=>M.pure (AV.tup [.agg [nth (ab o) 0,nth (ab o) 1],.int .i64 13])) (ae (af (am T .add 3 (nth b 4) (.int .i64 1))) fun p=>a [nth b 0,nth b 1,nth b 2,nth b 3,p,nth b 5,nth b 6])) (ae (af (bo (nth b 0))) fun q=>ae (af (aa T 107 q 2)) fun r=>ae (aW T 3 r) fun s=>ae (af (aa T 145 (nth b 1) 3)) fun u=>ae (af (ah T 3 u)) fun v=>ae (af (am T .or 3 s v)) fun w=>ae (af (bo (nth b 0))) fun x=>ae (af (aa T 107 x 2)) fun y=>ae (bP T 3 y w) fun z=>ae (af (aa T 145 (nth b 1) 2)) fun A=>ae (af (ah T 35 A)) fun B=>ae (ay 2 [] B) fun C=>M.pure (AV.tup [.agg [nth (ab C) 0,nth (ab C) 1],.int .i64 0]))
def XL126_0{call:CC}:bQ (L126_0 call aj) fun _n=>L126_0 call aj  :=by
 intro a b c d;unfold L126_0;exact (lb fun _=>(aw (by(iterate 10 refine lb fun _=>?_);exact (aw (aL.const _) (lb fun _=>c _))) (aL.const _)))
def FL126_0(call:CC)(vs:List AV):aj (L126_0 call aj) vs=L126_0 call aj  (aj (L126_0 call aj)) vs:=aT (XL126_0) vs
def S126(call:CC)(fx:bG AV)(a0 a1 a2:AV):M AV:=ae (af (ah T 66 (.ip (ab a2)))) fun a=>ae (call 161 [a0,a]) fun b=>ae (af (aD b 0)) fun c=>ae (af (aD b 1)) fun d=>ae (aN 5 c) fun e=>ae (af (eG UnOp.not d)) fun f=>ap f (ae (af (aU T false 35 [])) fun g=>ae (ay 2 [] g) fun h=>M.pure (AV.tup [.agg [nth (ab h) 0,nth (ab h) 1],.int .i64 12])) (ae (af (aa T 145 (.ip (ab e)) 1)) fun i=>ae (af (ah T 47 i)) fun j=>ae (af (aO T 47 j)) fun k=>ae (af (aa T 66 (.ip (ab a2)) 5)) fun l=>ae (af (ah T 24 l)) fun m=>ae (af (aO T 24 m)) fun n=>ae (af (am T .neq 3 k n)) fun o=>ap o (ae (af (aU T false 35 [])) fun p=>ae (ay 2 [] p) fun q=>M.pure (AV.tup [.agg [nth (ab q) 0,nth (ab q) 1],.int .i64 13])) (ae (af (aa T 66 (.ip (ab a2)) 5)) fun r=>ae (af (ah T 24 r)) fun s=>ae (call 127 [a0,a1,s]) fun u=>ae (af (aD u 0)) fun v=>ae (af (aD u 1)) fun w=>ae (af (am T .neq 39 w (.int .i64 0))) fun x=>ap x (ae (af (aU T false 35 [])) fun y=>ae (ay 2 [] y) fun z=>M.pure (AV.tup [.agg [nth (ab z) 0,nth (ab z) 1],w])) (ae (af (aO T 47 v)) fun A=>fx (L126_0 call fx) [a0,.ip (ab e),v,A,.int .i64 0,.int .i64 0,.sl []])))
def E126(a0 a1 a2:AV):EE 126 Tryz.f126 Dv [a0,a1,a2] (fun c x=>S126 c x a0 a1 a2):=fun _ _=>by kernel_rfl
def C126(a0 a1 a2:AV):ai pg 126 [a0,a1,a2]=S126 (ai pg) aj a0 a1 a2:=(cu aF rfl rfl rfl _).trans (E126 a0 a1 a2 _ _)
def K134_0(call:CC)(fx:bG AV)(a:List AV):M AV:=ae (af (ah T 168 (nth a 1))) fun b=>ae (af (ah T 66 (nth a 2))) fun c=>ae (call 175 [nth a 0,b,c]) fun d=>ae (ay 4 [] d) fun e=>M.pure (AV.agg [nth (ab e) 0,nth (ab e) 1,nth (ab e) 2,nth (ab e) 3])
def L134_0(call:CC)(fx:bG AV)(a:RR)(b:RR)(c:List AV):M AV:=ae (af (am T .geq 3 (nth c 3) (.int .i64 0))) fun d=>ap d (ae (af (aa T 168 (nth c 1) 1)) fun e=>ae (af (ah T 22 e)) fun f=>ae (af (ak T 22 f (nth c 3))) fun g=>ae (af (ah T 9 g)) fun h=>ae (af (aa T 66 (nth c 2) 2)) fun i=>ae (af (ah T 9 i)) fun j=>ae (af (am T .eql 9 h j)) fun k=>ap k (ae (af (aa T 168 (nth c 1) 2)) fun l=>ae (af (ah T 30 l)) fun m=>ae (af (ak T 30 m (nth c 3))) fun n=>ae (af (ah T 45 n)) fun o=>ae (ay 4 [] o) fun p=>M.pure (AV.agg [nth (ab p) 0,nth (ab p) 1,nth (ab p) 2,nth (ab p) 3])) (ae (af (am T .sub 3 (nth c 3) (.int .i64 1))) fun q=>b [nth c 0,nth c 1,nth c 2,q,nth c 4,nth c 5,nth c 6,nth c 7])) (ae (af (jQ T 39 (.int .i64 12))) fun r=>ae (HX r) fun s=>a [nth c 0,nth c 1,nth c 2,nth c 4,nth c 5,nth c 6,nth c 7])
def K134_1(call:CC)(fx:bG AV)(a:RR)(b:List AV):M AV:=ap (nth b 4) (ae (af (ah T 168 (nth b 1))) fun c=>ae (af (aa T 66 (nth b 2) 5)) fun d=>ae (af (ah T 24 d)) fun e=>ae (af (ak T 24 e (.int .i64 0))) fun f=>ae (af (ah T 66 f)) fun g=>ae (af (aa T 66 (nth b 2) 0)) fun h=>ae (af (ah T 3 h)) fun i=>ae (af (am T .eql 3 i (.int .i64 9))) fun j=>ae (call 171 [nth b 0,c,g]) fun k=>ae (af (am T .eql 4 k j)) fun l=>ap l (ae (af (aa T 66 (nth b 2) 0)) fun m=>ae (af (ah T 3 m)) fun n=>ae (af (am T .eql 3 n (.int .i64 9))) fun o=>ae (call 169 [o]) fun p=>ae (ay 4 [] p) fun q=>M.pure (AV.agg [nth (ab q) 0,nth (ab q) 1,nth (ab q) 2,nth (ab q) 3])) (ae (af (ah T 168 (nth b 1))) fun r=>ae (af (aa T 66 (nth b 2) 5)) fun s=>ae (af (ah T 24 s)) fun u=>ae (af (ak T 24 u (.int .i64 1))) fun v=>ae (af (ah T 66 v)) fun w=>ae (call 171 [nth b 0,r,w]) fun x=>ae (cR (call 169 [x])) fun y=>ae (ay 4 [] y) fun z=>M.pure (AV.agg [nth (ab z) 0,nth (ab z) 1,nth (ab z) 2,nth (ab z) 3]))) (ae (af (am T .eql 3 (nth b 3) (.int .i64 10))) fun A=>ap A (ae (af (ah T 168 (nth b 1))) fun B=>ae (af (aa T 66 (nth b 2) 5)) fun C=>ae (af (ah T 24 C)) fun D=>ae (af (ak T 24 D (.int .i64 0))) fun E=>ae (af (ah T 66 E)) fun F=>ae (call 171 [nth b 0,B,F]) fun G=>ae (af (eG UnOp.not G)) fun H=>ae (cR (call 169 [H])) fun I=>ae (ay 4 [] I) fun J=>M.pure (AV.agg [nth (ab J) 0,nth (ab J) 1,nth (ab J) 2,nth (ab J) 3])) (ae (af (am T .eql 3 (nth b 3) (.int .i64 11))) fun K=>ap K (ae (af (ah T 168 (nth b 1))) fun L=>ae (af (aa T 66 (nth b 2) 5)) fun N=>ae (af (ah T 24 N)) fun O=>ae (af (ak T 24 O (.int .i64 0))) fun P=>ae (af (ah T 66 P)) fun Q=>ae (call 171 [nth b 0,L,Q]) fun R=>ap R (ae (af (ah T 168 (nth b 1))) fun S=>ae (af (aa T 66 (nth b 2) 5)) fun U=>ae (af (ah T 24 U)) fun V=>ae (af (ak T 24 V (.int .i64 1))) fun W=>ae (af (ah T 66 W)) fun X=>ae (call 134 [nth b 0,S,X]) fun Y=>ae (ay 4 [] Y) fun Z=>M.pure (AV.agg [nth (ab Z) 0,nth (ab Z) 1,nth (ab Z) 2,nth (ab Z) 3])) (ae (af (ah T 168 (nth b 1))) fun u0=>ae (af (aa T 66 (nth b 2) 5)) fun u1=>ae (af (ah T 24 u1)) fun u2=>ae (af (ak T 24 u2 (.int .i64 2))) fun u3=>ae (af (ah T 66 u3)) fun u4=>ae (call 134 [nth b 0,u0,u4]) fun u5=>ae (ay 4 [] u5) fun u6=>M.pure (AV.agg [nth (ab u6) 0,nth (ab u6) 1,nth (ab u6) 2,nth (ab u6) 3]))) (ae (af (am T .eql 3 (nth b 3) (.int .i64 12))) fun u7=>ap u7 (ae (af (ah T 168 (nth b 1))) fun u8=>ae (af (aa T 66 (nth b 2) 2)) fun u9=>ae (af (ah T 9 u9)) fun v0=>ae (af (ah T 168 (nth b 1))) fun v1=>ae (af (aa T 66 (nth b 2) 5)) fun v2=>ae (af (ah T 24 v2)) fun v3=>ae (af (ak T 24 v3 (.int .i64 0))) fun v4=>ae (af (ah T 66 v4)) fun v5=>ae (af (aa T 66 (nth b 2) 5)) fun v6=>ae (af (ah T 24 v6)) fun v7=>ae (af (ak T 24 v7 (.int .i64 1))) fun v8=>ae (af (ah T 66 v8)) fun v9=>ae (call 134 [nth b 0,v1,v5]) fun w0=>ae (cR (call 172 [u8,v0,w0])) fun w1=>ae (call 134 [nth b 0,w1,v9]) fun w2=>ae (ay 4 [] w2) fun w3=>M.pure (AV.agg [nth (ab w3) 0,nth (ab w3) 1,nth (ab w3) 2,nth (ab w3) 3])) (ae (af (am T .eql 3 (nth b 3) (.int .i64 13))) fun w4=>ap w4 (ae (af (ah T 168 (nth b 1))) fun w5=>ae (af (ah T 66 (nth b 2))) fun w6=>ae (call 173 [nth b 0,w5,w6]) fun w7=>ae (ay 4 [] w7) fun w8=>M.pure (AV.agg [nth (ab w8) 0,nth (ab w8) 1,nth (ab w8) 2,nth (ab w8) 3])) (ae (af (am T .eql 3 (nth b 3) (.int .i64 14))) fun w9=>ap w9 (ae (af (ah T 168 (nth b 1))) fun x0=>ae (af (aa T 66 (nth b 2) 5)) fun x1=>ae (af (ah T 24 x1)) fun x2=>ae (af (ak T 24 x2 (.int .i64 0))) fun x3=>ae (af (ah T 66 x3)) fun x4=>ae (call 134 [nth b 0,x0,x4]) fun x5=>ae (aN 4 x5) fun x6=>ae (af (aa T 45 (.ip (ab x6)) 2)) fun x7=>ae (af (ah T 22 x7)) fun x8=>ae (af (aa T 66 (nth b 2) 2)) fun x9=>ae (af (ah T 9 x9)) fun y0=>ae (call 98 [x8,y0]) fun y1=>ae (af (aa T 45 (.ip (ab x6)) 0)) fun y2=>ae (af (ah T 3 y2)) fun y3=>ae (af (am T .eql 3 y3 (.int .i64 2))) fun y4=>ae (ax y4 true 1 (ae (af (am T .geq 3 y1 (.int .i64 0))) fun y5=>M.pure [y5])) fun y6=>ae (af (aG y4 (nth y6 0) (.bool false))) fun y7=>ae (call 166 [y7,.int .i64 13]) fun y8=>ae (af (aa T 45 (.ip (ab x6)) 3)) fun y9=>ae (af (ah T 30 y9)) fun z0=>ae (af (ak T 30 z0 y1)) fun z1=>ae (af (ah T 45 z1)) fun z2=>ae (ay 4 [] z2) fun z3=>M.pure (AV.agg [nth (ab z3) 0,nth (ab z3) 1,nth (ab z3) 2,nth (ab z3) 3])) (ae (af (am T .eql 3 (nth b 3) (.int .i64 15))) fun z4=>ap z4 (ae (af (ah T 168 (nth b 1))) fun z5=>ae (af (ah T 66 (nth b 2))) fun z6=>ae (call 174 [nth b 0,z5,z6]) fun z7=>ae (ay 4 [] z7) fun z8=>M.pure (AV.agg [nth (ab z8) 0,nth (ab z8) 1,nth (ab z8) 2,nth (ab z8) 3])) (a [nth b 0,nth b 1,nth b 2,nth b 5,nth b 6,nth b 7,nth b 8])))))))
def K134_2(call:CC)(fx:bG AV)(a:RR)(b:List AV):M AV:=ap (nth b 4) (ae (af (aa T 66 (nth b 2) 0)) fun c=>ae (af (ah T 3 c)) fun d=>ae (af (ah T 168 (nth b 1))) fun e=>ae (af (aa T 66 (nth b 2) 5)) fun f=>ae (af (ah T 24 f)) fun g=>ae (af (ak T 24 g (.int .i64 0))) fun h=>ae (af (ah T 66 h)) fun i=>ae (af (ah T 168 (nth b 1))) fun j=>ae (af (aa T 66 (nth b 2) 5)) fun k=>ae (af (ah T 24 k)) fun l=>ae (af (ak T 24 l (.int .i64 1))) fun m=>ae (af (ah T 66 m)) fun n=>ae (call 134 [nth b 0,e,i]) fun o=>ae (call 134 [nth b 0,j,n]) fun p=>ae (call 170 [d,o,p]) fun q=>ae (ay 4 [] q) fun r=>M.pure (AV.agg [nth (ab r) 0,nth (ab r) 1,nth (ab r) 2,nth (ab r) 3])) (jn (K134_1 call fx a) fun s=>ae (af (am T .eql 3 (nth b 3) (.int .i64 8))) fun u=>ap u (s [nth b 0,nth b 1,nth b 2,nth b 3,u,nth b 5,nth b 6,nth b 7,nth b 8]) (ae (af (am T .eql 3 (nth b 3) (.int .i64 9))) fun v=>s [nth b 0,nth b 1,nth b 2,nth b 3,v,nth b 5,nth b 6,nth b 7,nth b 8]))
def XL134_0{call:CC}{a:RR}{b:Nat->RR}(c:bN a fun n=>b n):bQ (L134_0 call aj a) fun n=>L134_0 call aj (b n):=by
 intro d e f g;unfold L134_0;exact (lb fun _=>(aw (by(iterate 7 refine lb fun _=>?_);exact (aw (aL.const _) (lb fun _=>f _))) (lb fun _=>(lb fun _=>c _))))
def FL134_0(call:CC)(a:RR)(vs:List AV):aj (L134_0 call aj a) vs=L134_0 call aj a (aj (L134_0 call aj a)) vs:=aT (XL134_0 (bN.const _)) vs
def S134(call:CC)(fx:bG AV)(a0 a1 a2:AV):M AV:=ae (af (bo a0)) fun a=>ae (af (aa T 164 a 2)) fun b=>ae (aW T 3 b) fun c=>ae (af (am T .gtr 3 c (.int .i64 0))) fun d=>ae (call 166 [d,.int .i64 16]) fun e=>ae (af (bo a0)) fun f=>ae (af (aa T 164 f 2)) fun g=>ae (aW T 3 g) fun h=>ae (af (am T .sub 3 h (.int .i64 1))) fun i=>ae (af (bo a0)) fun j=>ae (af (aa T 164 j 2)) fun k=>ae (bP T 3 k i) fun l=>ae (af (aa T 66 (.ip (ab a2)) 0)) fun m=>ae (af (ah T 3 m)) fun n=>ae (call 167 [n]) fun o=>ae (af (am T .neq 3 o (.int .i64 (-2)))) fun p=>ae (ax p true 1 (ae (af (am T .eql 3 o (.int .i64 (-1)))) fun q=>M.pure [q])) fun r=>ae (ax (nth r 0) false 1 (ae (af (aa T 66 (.ip (ab a2)) 5)) fun s=>ae (af (ah T 24 s)) fun u=>ae (af (aO T 24 u)) fun v=>ae (af (am T .eql 3 o v)) fun w=>M.pure [w])) fun x=>ae (ax p true 1 (ae (af (aG (nth r 0) (.bool true) (nth x 0))) fun y=>M.pure [y])) fun z=>ae (af (aG p (nth z 0) (.bool false))) fun A=>ae (call 166 [A,.int .i64 13]) fun B=>jn (K134_0 call fx) fun C=>ae (af (aa T 66 (.ip (ab a2)) 0)) fun D=>ae (af (ah T 3 D)) fun E=>ae (af (am T .eql 3 E (.int .i64 0))) fun F=>ap F (ae (af (aa T 66 (.ip (ab a2)) 1)) fun G=>ae (af (ah T 3 G)) fun H=>ae (call 168 [H]) fun I=>ae (ay 4 [] I) fun J=>M.pure (AV.agg [nth (ab J) 0,nth (ab J) 1,nth (ab J) 2,nth (ab J) 3])) (ae (af (am T .eql 3 E (.int .i64 1))) fun K=>ap K (ae (af (aa T 66 (.ip (ab a2)) 1)) fun L=>ae (af (ah T 3 L)) fun N=>ae (af (am T .eql 3 N (.int .i64 0))) fun O=>ae (ax O false 1 (ae (af (aa T 66 (.ip (ab a2)) 1)) fun P=>ae (af (ah T 3 P)) fun Q=>ae (af (am T .eql 3 Q (.int .i64 1))) fun R=>M.pure [R])) fun S=>ae (af (aG O (.bool true) (nth S 0))) fun U=>ae (call 166 [U,.int .i64 13]) fun V=>ae (af (aa T 66 (.ip (ab a2)) 1)) fun W=>ae (af (ah T 3 W)) fun X=>ae (af (am T .eql 3 X (.int .i64 1))) fun Y=>ae (call 169 [Y]) fun Z=>ae (ay 4 [] Z) fun u0=>M.pure (AV.agg [nth (ab u0) 0,nth (ab u0) 1,nth (ab u0) 2,nth (ab u0) 3])) (ae (af (am T .eql 3 E (.int .i64 2))) fun u1=>ap u1 (ae (af (aa T 168 (.ip (ab a1)) 1)) fun u2=>ae (af (ah T 22 u2)) fun u3=>ae (af (aO T 22 u3)) fun u4=>ae (af (am T .sub 3 u4 (.int .i64 1))) fun u5=>fx (L134_0 call fx C) [a0,.ip (ab a1),.ip (ab a2),u5,.int .i64 0,.int .i64 0,.sl [],.sl []]) (jn (K134_2 call fx C) fun u6=>ae (af (am T .eql 3 E (.int .i64 3))) fun u7=>ap u7 (u6 [a0,.ip (ab a1),.ip (ab a2),E,u7,.int .i64 0,.int .i64 0,.sl [],.sl []]) (ae (af (am T .eql 3 E (.int .i64 4))) fun u8=>ap u8 (u6 [a0,.ip (ab a1),.ip (ab a2),E,u8,.int .i64 0,.int .i64 0,.sl [],.sl []]) (ae (af (am T .eql 3 E (.int .i64 5))) fun u9=>ap u9 (u6 [a0,.ip (ab a1),.ip (ab a2),E,u9,.int .i64 0,.int .i64 0,.sl [],.sl []]) (ae (af (am T .eql 3 E (.int .i64 6))) fun w0=>ap w0 (u6 [a0,.ip (ab a1),.ip (ab a2),E,w0,.int .i64 0,.int .i64 0,.sl [],.sl []]) (ae (af (am T .eql 3 E (.int .i64 7))) fun w1=>u6 [a0,.ip (ab a1),.ip (ab a2),E,w1,.int .i64 0,.int .i64 0,.sl [],.sl []])))))))
def E134(a0 a1 a2:AV):EE 134 Tryz.f134 DF [a0,a1,a2] (fun c x=>S134 c x a0 a1 a2):=fun _ _=>by kernel_rfl
def C134(a0 a1 a2:AV):ai pg 134 [a0,a1,a2]=S134 (ai pg) aj a0 a1 a2:=(cu aF rfl rfl rfl _).trans (E134 a0 a1 a2 _ _)
def S148(call:CC)(fx:bG AV)(a0 a1:AV):M AV:=ae (call 193 [a0,a1]) fun a=>ae (af (am T .geq 3 a (.int .i64 0))) fun b=>M.pure b
def E148(a0 a1:AV):EE 148 Tryz.f148 DJ [a0,a1] (fun c x=>S148 c x a0 a1):=fun _ _=>by kernel_rfl
def C148(a0 a1:AV):ai pg 148 [a0,a1]=aI (S148 (ai pg) aj (cl az a0) (cl az a1)):=(aA aF rfl rfl rfl _).trans (Pp aI (E148 (cl az a0) (cl az a1) _ _))
def S162(call:CC)(fx:bG AV)(a0 a1:AV):M AV:=ae (af (ah T 47 a1)) fun a=>ae (call 117 [a,.fn (Fn.func 163) [] [.ip (ab a0)]]) fun b=>ae (af (eG UnOp.not b)) fun c=>M.pure c
def E162(a0 a1:AV):EE 162 Tryz.f162 DT [a0,a1] (fun c x=>S162 c x a0 a1):=fun _ _=>by kernel_rfl
def C162(a0 a1:AV):ai pg 162 [a0,a1]=aI (S162 (ai pg) aj (cl az a0) (cl az a1)):=(aA aF rfl rfl rfl _).trans (Pp aI (E162 (cl az a0) (cl az a1) _ _))
def K167_0(call:CC)(fx:bG AV)(a:List AV):M AV:=ap (nth a 0) (M.pure (AV.int .i64 (-1))) (M.pure (AV.int .i64 (-2)))
def K167_1(call:CC)(fx:bG AV)(a:List AV):M AV:=ap (nth a 1) (M.pure (AV.int .i64 2)) (ae (af (am T .eql 3 (nth a 0) (.int .i64 11))) fun b=>ap b (M.pure (AV.int .i64 3)) (jn (K167_0 call fx) fun c=>ae (af (am T .eql 3 (nth a 0) (.int .i64 13))) fun d=>ap d (c [d]) (ae (af (am T .eql 3 (nth a 0) (.int .i64 15))) fun e=>c [e])))
def K167_2(call:CC)(fx:bG AV)(a:List AV):M AV:=ap (nth a 1) (M.pure (AV.int .i64 1)) (jn (K167_1 call fx) fun b=>ae (af (am T .eql 3 (nth a 0) (.int .i64 3))) fun c=>ap c (b [nth a 0,c]) (ae (af (am T .eql 3 (nth a 0) (.int .i64 4))) fun d=>ap d (b [nth a 0,d]) (ae (af (am T .eql 3 (nth a 0) (.int .i64 5))) fun e=>ap e (b [nth a 0,e]) (ae (af (am T .eql 3 (nth a 0) (.int .i64 6))) fun f=>ap f (b [nth a 0,f]) (ae (af (am T .eql 3 (nth a 0) (.int .i64 7))) fun g=>ap g (b [nth a 0,g]) (ae (af (am T .eql 3 (nth a 0) (.int .i64 8))) fun h=>ap h (b [nth a 0,h]) (ae (af (am T .eql 3 (nth a 0) (.int .i64 9))) fun i=>ap i (b [nth a 0,i]) (ae (af (am T .eql 3 (nth a 0) (.int .i64 12))) fun j=>b [nth a 0,j]))))))))
def K167_3(call:CC)(fx:bG AV)(a:List AV):M AV:=ap (nth a 1) (M.pure (AV.int .i64 0)) (jn (K167_2 call fx) fun b=>ae (af (am T .eql 3 (nth a 0) (.int .i64 10))) fun c=>ap c (b [nth a 0,c]) (ae (af (am T .eql 3 (nth a 0) (.int .i64 14))) fun d=>ap d (b [nth a 0,d]) (ae (af (am T .eql 3 (nth a 0) (.int .i64 16))) fun e=>ap e (b [nth a 0,e]) (ae (af (am T .eql 3 (nth a 0) (.int .i64 18))) fun f=>b [nth a 0,f]))))
def S167(call:CC)(fx:bG AV)(a0:AV):M AV:=jn (K167_3 call fx) fun a=>ae (af (am T .eql 3 a0 (.int .i64 0))) fun b=>ap b (a [a0,b]) (ae (af (am T .eql 3 a0 (.int .i64 1))) fun c=>ap c (a [a0,c]) (ae (af (am T .eql 3 a0 (.int .i64 2))) fun d=>ap d (a [a0,d]) (ae (af (am T .eql 3 a0 (.int .i64 17))) fun e=>a [a0,e])))
def E167(a0:AV):EE 167 Tryz.f167 DX [a0] (fun c x=>S167 c x a0):=fun _ _=>by kernel_rfl
def C167(a0:AV):ai pg 167 [a0]=aI (S167 (ai pg) aj (cl az a0)):=(aA aF rfl rfl rfl _).trans (Pp aI (E167 (cl az a0) _ _))
def S169(call:CC)(fx:bG AV)(a0:AV):M AV:=ap a0 (ae (af (aU T false 45 [(0,.int .i64 1),(1,.int .i64 1)])) fun a=>ae (ay 4 [] a) fun b=>M.pure (AV.agg [nth (ab b) 0,nth (ab b) 1,nth (ab b) 2,nth (ab b) 3])) (ae (af (aU T false 45 [(0,.int .i64 1)])) fun c=>ae (ay 4 [] c) fun d=>M.pure (AV.agg [nth (ab d) 0,nth (ab d) 1,nth (ab d) 2,nth (ab d) 3]))
def E169(a0:AV):EE 169 Tryz.f169 DZ [a0] (fun c x=>S169 c x a0):=fun _ _=>by kernel_rfl
def C169(a0:AV):ai pg 169 [a0]=aI (S169 (ai pg) aj (cl az a0)):=(aA aF rfl rfl rfl _).trans (Pp aI (E169 (cl az a0) _ _))
def L193_0(call:CC)(fx:bG AV)(a:RR)(b:List AV):M AV:=ae (af (am T .lss 3 (nth b 3) (nth b 2))) fun c=>ap c (ae (af (ak T 92 (nth b 0) (nth b 3))) fun d=>ae (af (ah T 29 d)) fun e=>ae (bu call (nth b 1) [e]) fun f=>ap f (M.pure (nth b 3)) (ae (af (am T .add 3 (nth b 3) (.int .i64 1))) fun g=>a [nth b 0,nth b 1,nth b 2,g])) (M.pure (AV.int .i64 (-1)))
def XL193_0{call:CC}:bQ (L193_0 call aj) fun _n=>L193_0 call aj  :=by
 intro a b c d;unfold L193_0;exact (lb fun _=>(aw (lb fun _=>(lb fun _=>(lb fun _=>(aw (aL.const _) (lb fun _=>c _))))) (aL.const _)))
def FL193_0(call:CC)(vs:List AV):aj (L193_0 call aj) vs=L193_0 call aj  (aj (L193_0 call aj)) vs:=aT (XL193_0) vs
def S193(call:CC)(fx:bG AV)(a0 a1:AV):M AV:=ae (af (aO T 92 a0)) fun a=>fx (L193_0 call fx) [a0,a1,a,.int .i64 0]
def E193(a0 a1:AV):EE 193 Tryz.f193 D7 [a0,a1] (fun c x=>S193 c x a0 a1):=fun _ _=>by kernel_rfl
def C193(a0 a1:AV):ai pg 193 [a0,a1]=aI (S193 (ai pg) aj (cl az a0) (cl az a1)):=(aA aF rfl rfl rfl _).trans (Pp aI (E193 (cl az a0) (cl az a1) _ _))
def S215(call:CC)(fx:bG AV)(a0 a1:AV):M AV:=ae (af (aa T 145 (.ip (ab a0)) 0)) fun a=>ae (af (ah T 9 a)) fun b=>ae (af (aa T 66 a1 2)) fun c=>ae (af (ah T 9 c)) fun d=>ae (af (am T .eql 9 b d)) fun e=>M.pure e
def E215(a0 a1:AV):EE 215 Tryz.f215 Eh [a0,a1] (fun c x=>S215 c x a0 a1):=fun _ _=>by kernel_rfl
def C215(a0 a1:AV):ai pg 215 [a0,a1]=aI (S215 (ai pg) aj (cl az a0) (cl az a1)):=(aA aF rfl rfl rfl _).trans (Pp aI (E215 (cl az a0) (cl az a1) _ _))
def S217(call:CC)(fx:bG AV)(a0:AV):M AV:=ae (af (aO T 22 a0)) fun a=>ae (af (aO T 22 a0)) fun b=>ae (af (dT T 22 a0 none (some a) (some b))) fun c=>M.pure c
def E217(a0:AV):EE 217 Tryz.f217 Ej [a0] (fun c x=>S217 c x a0):=fun _ _=>by kernel_rfl
def C217(a0:AV):ai pg 217 [a0]=aI (S217 (ai pg) aj (cl az a0)):=(aA aF rfl rfl rfl _).trans (Pp aI (E217 (cl az a0) _ _))
def L223_0(call:CC)(fx:bG AV)(a:RR)(b:List AV):M AV:=ae (af (am T .lss 3 (nth b 5) (nth b 4))) fun c=>ap c (ae (af (ak T 23 (nth b 3) (nth b 5))) fun d=>ae (af (ah T 37 d)) fun e=>ae (aN 3 e) fun f=>ae (af (aa T 37 (.ip (ab f)) 0)) fun g=>ae (af (ah T 9 g)) fun h=>ae (af (ak T 30 (nth b 1) (nth b 5))) fun i=>ae (af (ah T 45 i)) fun j=>ae (cR (call 172 [.agg [nth b 10,nth b 11,nth b 12],h,j])) fun k=>ae (ay 3 [] k) fun l=>ae (af (am T .add 3 (nth b 5) (.int .i64 1))) fun m=>a [nth b 0,nth b 1,nth b 2,nth b 3,nth b 4,m,nth b 6,nth b 7,nth b 8,nth b 9,nth (ab l) 0,nth (ab l) 1,nth (ab l) 2]) (ae (af (bo (nth b 0))) fun n=>ae (af (aa T 164 n 3)) fun o=>ae (aW T 3 o) fun p=>ae (af (am T .add 3 p (.int .i64 1))) fun q=>ae (af (bo (nth b 0))) fun r=>ae (af (aa T 164 r 3)) fun s=>ae (bP T 3 s q) fun u=>ae (af (aa T 68 (nth b 2) 5)) fun v=>ae (af (ah T 66 v)) fun w=>ae (call 134 [nth b 0,.agg [nth b 10,nth b 11,nth b 12],w]) fun x=>ae (aN 4 x) fun y=>ae (af (bo (nth b 0))) fun z=>ae (af (aa T 164 z 3)) fun A=>ae (aW T 3 A) fun B=>ae (af (am T .sub 3 B (.int .i64 1))) fun C=>ae (af (bo (nth b 0))) fun D=>ae (af (aa T 164 D 3)) fun E=>ae (bP T 3 E C) fun F=>ae (af (ah T 45 (.ip (ab y)))) fun G=>ae (ay 4 [] G) fun H=>M.pure (AV.agg [nth (ab H) 0,nth (ab H) 1,nth (ab H) 2,nth (ab H) 3]))
def K223_0(call:CC)(fx:bG AV)(a:List AV):M AV:=ae (af (aU T false 168 [(0,nth a 1)])) fun b=>ae (ay 3 [] b) fun c=>ae (af (aa T 68 (nth a 3) 2)) fun d=>ae (af (ah T 23 d)) fun e=>ae (af (aO T 23 e)) fun f=>fx (L223_0 call fx) [nth a 0,nth a 2,nth a 3,e,f,.int .i64 0,nth a 4,nth a 5,nth a 6,nth a 7,nth (ab c) 0,nth (ab c) 1,nth (ab c) 2]
def XL223_0{call:CC}:bQ (L223_0 call aj) fun _n=>L223_0 call aj  :=by
 intro a b c d;unfold L223_0;exact (lb fun _=>(aw (by(iterate 10 refine lb fun _=>?_);exact (c _)) (aL.const _)))
def FL223_0(call:CC)(vs:List AV):aj (L223_0 call aj) vs=L223_0 call aj  (aj (L223_0 call aj)) vs:=aT (XL223_0) vs
def S223(call:CC)(fx:bG AV)(a0 a1 a2 a3:AV):M AV:=ae (af (bo a0)) fun a=>ae (af (aa T 164 a 3)) fun b=>ae (aW T 3 b) fun c=>ae (af (am T .lss 3 c (.int .i64 60))) fun d=>ae (call 166 [d,.int .i64 6]) fun e=>jn (K223_0 call fx) fun f=>ae (af (aa T 68 (.ip (ab a2)) 1)) fun g=>ae (af (ah T 4 g)) fun h=>ap h (ae (af (bo a0)) fun i=>ae (af (aa T 164 i 4)) fun j=>ae (af (aa T 162 j 3)) fun k=>ae (aW T 160 k) fun l=>ae (af (bo a0)) fun m=>ae (af (aa T 164 m 0)) fun n=>ae (aW T 92 n) fun o=>ae (af (ak T 92 o a1)) fun p=>ae (af (aa T 29 p 0)) fun q=>ae (af (ah T 9 q)) fun r=>ae (af (aa T 68 (.ip (ab a2)) 0)) fun s=>ae (af (ah T 9 s)) fun u=>ae (call 249 [a3]) fun v=>ae (af (aU T false 260 [(0,r),(1,u),(2,v)])) fun w=>ae (af (aJ T 160 1 [(0,w)])) fun x=>ae (appH T 160 false l x) fun y=>ae (af (bo a0)) fun z=>ae (af (aa T 164 z 4)) fun A=>ae (af (aa T 162 A 3)) fun B=>ae (bP T 160 B y) fun C=>f [a0,a1,a3,.ip (ab a2),.int .i64 0,.int .i64 0,.sl [],.sl []]) (f [a0,a1,a3,.ip (ab a2),.int .i64 0,.int .i64 0,.sl [],.sl []])
def E223(a0 a1 a2 a3:AV):EE 223 Tryz.f223 Eo [a0,a1,a2,a3] (fun c x=>S223 c x a0 a1 a2 a3):=fun _ _=>by kernel_rfl
def C223(a0 a1 a2 a3:AV):ai pg 223 [a0,a1,a2,a3]=S223 (ai pg) aj a0 a1 a2 a3:=(cu aF rfl rfl rfl _).trans (E223 a0 a1 a2 a3 _ _)
def S224(call:CC)(fx:bG AV)(a0 a1:AV):M AV:=ae (af (aa T 37 (.ip (ab a0)) 0)) fun a=>ae (af (ah T 9 a)) fun b=>ae (af (aa T 66 a1 2)) fun c=>ae (af (ah T 9 c)) fun d=>ae (af (am T .eql 9 b d)) fun e=>M.pure e
def E224(a0 a1:AV):EE 224 Tryz.f224 Ep [a0,a1] (fun c x=>S224 c x a0 a1):=fun _ _=>by kernel_rfl
def C224(a0 a1:AV):ai pg 224 [a0,a1]=aI (S224 (ai pg) aj (cl az a0) (cl az a1)):=(aA aF rfl rfl rfl _).trans (Pp aI (E224 (cl az a0) (cl az a1) _ _))
def S247(call:CC)(fx:bG AV)(a0 a1:AV):M AV:=ae (af (aa T 29 (.ip (ab a0)) 0)) fun a=>ae (af (ah T 9 a)) fun b=>ae (af (ah T 9 a1)) fun c=>ae (af (am T .eql 9 b c)) fun d=>M.pure d
def E247(a0 a1:AV):EE 247 Tryz.f247 Er [a0,a1] (fun c x=>S247 c x a0 a1):=fun _ _=>by kernel_rfl
def C247(a0 a1:AV):ai pg 247 [a0,a1]=aI (S247 (ai pg) aj (cl az a0) (cl az a1)):=(aA aF rfl rfl rfl _).trans (Pp aI (E247 (cl az a0) (cl az a1) _ _))
@[simp] theorem FA27_0(cs:List AV):aa T 27 (.ip cs) 0=some (.ip (cs.drop 0)):=rfl
@[simp] theorem FH27_0(l k:Nat):aa T 27 (.hp l k) 0=some (.hp l (k+0)):=rfl
@[simp] theorem FA27_1(cs:List AV):aa T 27 (.ip cs) 1=some (.ip (cs.drop 1)):=rfl
@[simp] theorem FH27_1(l k:Nat):aa T 27 (.hp l k) 1=some (.hp l (k+1)):=rfl
@[simp] theorem FA27_2(cs:List AV):aa T 27 (.ip cs) 2=some (.ip (cs.drop 2)):=rfl
@[simp] theorem FH27_2(l k:Nat):aa T 27 (.hp l k) 2=some (.hp l (k+2)):=rfl
@[simp] theorem FA29_0(cs:List AV):aa T 29 (.ip cs) 0=some (.ip (cs.drop 0)):=rfl
@[simp] theorem FH29_0(l k:Nat):aa T 29 (.hp l k) 0=some (.hp l (k+0)):=rfl
@[simp] theorem FA29_1(cs:List AV):aa T 29 (.ip cs) 1=some (.ip (cs.drop 1)):=rfl
@[simp] theorem FH29_1(l k:Nat):aa T 29 (.hp l k) 1=some (.hp l (k+1)):=rfl
@[simp] theorem FA29_2(cs:List AV):aa T 29 (.ip cs) 2=some (.ip (cs.drop 2)):=rfl
@[simp] theorem FH29_2(l k:Nat):aa T 29 (.hp l k) 2=some (.hp l (k+2)):=rfl
@[simp] theorem FA29_3(cs:List AV):aa T 29 (.ip cs) 3=some (.ip (cs.drop 3)):=rfl
@[simp] theorem FH29_3(l k:Nat):aa T 29 (.hp l k) 3=some (.hp l (k+3)):=rfl
@[simp] theorem FA29_4(cs:List AV):aa T 29 (.ip cs) 4=some (.ip (cs.drop 4)):=rfl
@[simp] theorem FH29_4(l k:Nat):aa T 29 (.hp l k) 4=some (.hp l (k+4)):=rfl
@[simp] theorem FA29_5(cs:List AV):aa T 29 (.ip cs) 5=some (.ip (cs.drop 5)):=rfl
@[simp] theorem FH29_5(l k:Nat):aa T 29 (.hp l k) 5=some (.hp l (k+5)):=rfl
@[simp] theorem FA29_6(cs:List AV):aa T 29 (.ip cs) 6=some (.ip (cs.drop 6)):=rfl
@[simp] theorem FH29_6(l k:Nat):aa T 29 (.hp l k) 6=some (.hp l (k+6)):=rfl
@[simp] theorem FA35_0(cs:List AV):aa T 35 (.ip cs) 0=some (.ip (cs.drop 0)):=rfl
@[simp] theorem FH35_0(l k:Nat):aa T 35 (.hp l k) 0=some (.hp l (k+0)):=rfl
@[simp] theorem FA35_1(cs:List AV):aa T 35 (.ip cs) 1=some (.ip (cs.drop 1)):=rfl
@[simp] theorem FH35_1(l k:Nat):aa T 35 (.hp l k) 1=some (.hp l (k+1)):=rfl
@[simp] theorem FA37_0(cs:List AV):aa T 37 (.ip cs) 0=some (.ip (cs.drop 0)):=rfl
@[simp] theorem FH37_0(l k:Nat):aa T 37 (.hp l k) 0=some (.hp l (k+0)):=rfl
@[simp] theorem FA37_1(cs:List AV):aa T 37 (.ip cs) 1=some (.ip (cs.drop 1)):=rfl
@[simp] theorem FH37_1(l k:Nat):aa T 37 (.hp l k) 1=some (.hp l (k+1)):=rfl
@[simp] theorem FA45_0(cs:List AV):aa T 45 (.ip cs) 0=some (.ip (cs.drop 0)):=rfl
@[simp] theorem FH45_0(l k:Nat):aa T 45 (.hp l k) 0=some (.hp l (k+0)):=rfl
@[simp] theorem FA45_1(cs:List AV):aa T 45 (.ip cs) 1=some (.ip (cs.drop 1)):=rfl
@[simp] theorem FH45_1(l k:Nat):aa T 45 (.hp l k) 1=some (.hp l (k+1)):=rfl
@[simp] theorem FA45_2(cs:List AV):aa T 45 (.ip cs) 2=some (.ip (cs.drop 2)):=rfl
@[simp] theorem FH45_2(l k:Nat):aa T 45 (.hp l k) 2=some (.hp l (k+2)):=rfl
@[simp] theorem FA45_3(cs:List AV):aa T 45 (.ip cs) 3=some (.ip (cs.drop 3)):=rfl
@[simp] theorem FH45_3(l k:Nat):aa T 45 (.hp l k) 3=some (.hp l (k+3)):=rfl
@[simp] theorem FA66_0(cs:List AV):aa T 66 (.ip cs) 0=some (.ip (cs.drop 0)):=rfl
@[simp] theorem FH66_0(l k:Nat):aa T 66 (.hp l k) 0=some (.hp l (k+0)):=rfl
@[simp] theorem FA66_1(cs:List AV):aa T 66 (.ip cs) 1=some (.ip (cs.drop 1)):=rfl
@[simp] theorem FH66_1(l k:Nat):aa T 66 (.hp l k) 1=some (.hp l (k+1)):=rfl
@[simp] theorem FA66_2(cs:List AV):aa T 66 (.ip cs) 2=some (.ip (cs.drop 2)):=rfl
@[simp] theorem FH66_2(l k:Nat):aa T 66 (.hp l k) 2=some (.hp l (k+2)):=rfl
@[simp] theorem FA66_3(cs:List AV):aa T 66 (.ip cs) 3=some (.ip (cs.drop 3)):=rfl
@[simp] theorem FH66_3(l k:Nat):aa T 66 (.hp l k) 3=some (.hp l (k+3)):=rfl
@[simp] theorem FA66_4(cs:List AV):aa T 66 (.ip cs) 4=some (.ip (cs.drop 4)):=rfl
@[simp] theorem FH66_4(l k:Nat):aa T 66 (.hp l k) 4=some (.hp l (k+4)):=rfl
@[simp] theorem FA66_5(cs:List AV):aa T 66 (.ip cs) 5=some (.ip (cs.drop 5)):=rfl
@[simp] theorem FH66_5(l k:Nat):aa T 66 (.hp l k) 5=some (.hp l (k+5)):=rfl
@[simp] theorem FA68_0(cs:List AV):aa T 68 (.ip cs) 0=some (.ip (cs.drop 0)):=rfl
@[simp] theorem FH68_0(l k:Nat):aa T 68 (.hp l k) 0=some (.hp l (k+0)):=rfl
@[simp] theorem FA68_1(cs:List AV):aa T 68 (.ip cs) 1=some (.ip (cs.drop 1)):=rfl
@[simp] theorem FH68_1(l k:Nat):aa T 68 (.hp l k) 1=some (.hp l (k+1)):=rfl
@[simp] theorem FA68_2(cs:List AV):aa T 68 (.ip cs) 2=some (.ip (cs.drop 2)):=rfl
@[simp] theorem FH68_2(l k:Nat):aa T 68 (.hp l k) 2=some (.hp l (k+2)):=rfl
@[simp] theorem FA68_3(cs:List AV):aa T 68 (.ip cs) 3=some (.ip (cs.drop 3)):=rfl
@[simp] theorem FH68_3(l k:Nat):aa T 68 (.hp l k) 3=some (.hp l (k+3)):=rfl
@[simp] theorem FA68_4(cs:List AV):aa T 68 (.ip cs) 4=some (.ip (cs.drop 5)):=rfl
@[simp] theorem FH68_4(l k:Nat):aa T 68 (.hp l k) 4=some (.hp l (k+5)):=rfl
@[simp] theorem FA68_5(cs:List AV):aa T 68 (.ip cs) 5=some (.ip (cs.drop 6)):=rfl
@[simp] theorem FH68_5(l k:Nat):aa T 68 (.hp l k) 5=some (.hp l (k+6)):=rfl
@[simp] theorem FA85_0(cs:List AV):aa T 85 (.ip cs) 0=some (.ip (cs.drop 0)):=rfl
@[simp] theorem FH85_0(l k:Nat):aa T 85 (.hp l k) 0=some (.hp l (k+0)):=rfl
@[simp] theorem FA94_1(cs:List AV):aa T 94 (.ip cs) 1=some (.ip (cs.drop 1)):=rfl
@[simp] theorem FH94_1(l k:Nat):aa T 94 (.hp l k) 1=some (.hp l (k+1)):=rfl
@[simp] theorem FA103_0(cs:List AV):aa T 103 (.ip cs) 0=some (.ip (cs.drop 0)):=rfl
@[simp] theorem FH103_0(l k:Nat):aa T 103 (.hp l k) 0=some (.hp l (k+0)):=rfl
@[simp] theorem FA103_1(cs:List AV):aa T 103 (.ip cs) 1=some (.ip (cs.drop 1)):=rfl
@[simp] theorem FH103_1(l k:Nat):aa T 103 (.hp l k) 1=some (.hp l (k+1)):=rfl
@[simp] theorem FA107_0(cs:List AV):aa T 107 (.ip cs) 0=some (.ip (cs.drop 0)):=rfl
@[simp] theorem FH107_0(l k:Nat):aa T 107 (.hp l k) 0=some (.hp l (k+0)):=rfl
@[simp] theorem FA107_1(cs:List AV):aa T 107 (.ip cs) 1=some (.ip (cs.drop 9)):=rfl
@[simp] theorem FH107_1(l k:Nat):aa T 107 (.hp l k) 1=some (.hp l (k+9)):=rfl
@[simp] theorem FA107_2(cs:List AV):aa T 107 (.ip cs) 2=some (.ip (cs.drop 10)):=rfl
@[simp] theorem FH107_2(l k:Nat):aa T 107 (.hp l k) 2=some (.hp l (k+10)):=rfl
@[simp] theorem FA145_0(cs:List AV):aa T 145 (.ip cs) 0=some (.ip (cs.drop 0)):=rfl
@[simp] theorem FH145_0(l k:Nat):aa T 145 (.hp l k) 0=some (.hp l (k+0)):=rfl
@[simp] theorem FA145_1(cs:List AV):aa T 145 (.ip cs) 1=some (.ip (cs.drop 1)):=rfl
@[simp] theorem FH145_1(l k:Nat):aa T 145 (.hp l k) 1=some (.hp l (k+1)):=rfl
@[simp] theorem FA145_2(cs:List AV):aa T 145 (.ip cs) 2=some (.ip (cs.drop 2)):=rfl
@[simp] theorem FH145_2(l k:Nat):aa T 145 (.hp l k) 2=some (.hp l (k+2)):=rfl
@[simp] theorem FA145_3(cs:List AV):aa T 145 (.ip cs) 3=some (.ip (cs.drop 4)):=rfl
@[simp] theorem FH145_3(l k:Nat):aa T 145 (.hp l k) 3=some (.hp l (k+4)):=rfl
@[simp] theorem FA162_2(cs:List AV):aa T 162 (.ip cs) 2=some (.ip (cs.drop 5)):=rfl
@[simp] theorem FH162_2(l k:Nat):aa T 162 (.hp l k) 2=some (.hp l (k+5)):=rfl
@[simp] theorem FA162_3(cs:List AV):aa T 162 (.ip cs) 3=some (.ip (cs.drop 6)):=rfl
@[simp] theorem FH162_3(l k:Nat):aa T 162 (.hp l k) 3=some (.hp l (k+6)):=rfl
@[simp] theorem FA162_4(cs:List AV):aa T 162 (.ip cs) 4=some (.ip (cs.drop 7)):=rfl
@[simp] theorem FH162_4(l k:Nat):aa T 162 (.hp l k) 4=some (.hp l (k+7)):=rfl
@[simp] theorem FA164_0(cs:List AV):aa T 164 (.ip cs) 0=some (.ip (cs.drop 0)):=rfl
@[simp] theorem FH164_0(l k:Nat):aa T 164 (.hp l k) 0=some (.hp l (k+0)):=rfl
@[simp] theorem FA164_1(cs:List AV):aa T 164 (.ip cs) 1=some (.ip (cs.drop 1)):=rfl
@[simp] theorem FH164_1(l k:Nat):aa T 164 (.hp l k) 1=some (.hp l (k+1)):=rfl
@[simp] theorem FA164_2(cs:List AV):aa T 164 (.ip cs) 2=some (.ip (cs.drop 2)):=rfl
@[simp] theorem FH164_2(l k:Nat):aa T 164 (.hp l k) 2=some (.hp l (k+2)):=rfl
@[simp] theorem FA164_3(cs:List AV):aa T 164 (.ip cs) 3=some (.ip (cs.drop 3)):=rfl
@[simp] theorem FH164_3(l k:Nat):aa T 164 (.hp l k) 3=some (.hp l (k+3)):=rfl
@[simp] theorem FA164_4(cs:List AV):aa T 164 (.ip cs) 4=some (.ip (cs.drop 4)):=rfl
@[simp] theorem FH164_4(l k:Nat):aa T 164 (.hp l k) 4=some (.hp l (k+4)):=rfl
@[simp] theorem FA168_0(cs:List AV):aa T 168 (.ip cs) 0=some (.ip (cs.drop 0)):=rfl
@[simp] theorem FH168_0(l k:Nat):aa T 168 (.hp l k) 0=some (.hp l (k+0)):=rfl
@[simp] theorem FA168_1(cs:List AV):aa T 168 (.ip cs) 1=some (.ip (cs.drop 1)):=rfl
@[simp] theorem FH168_1(l k:Nat):aa T 168 (.hp l k) 1=some (.hp l (k+1)):=rfl
@[simp] theorem FA168_2(cs:List AV):aa T 168 (.ip cs) 2=some (.ip (cs.drop 2)):=rfl
@[simp] theorem FH168_2(l k:Nat):aa T 168 (.hp l k) 2=some (.hp l (k+2)):=rfl
@[simp] theorem LD3(x:AV)(l:List AV):ah T 3 (.ip (x:: l))=some x:=rfl
@[simp] theorem LD4(x:AV)(l:List AV):ah T 4 (.ip (x:: l))=some x:=rfl
@[simp] theorem LD9(x:AV)(l:List AV):ah T 9 (.ip (x:: l))=some x:=rfl
@[simp] theorem LD22(x:AV)(l:List AV):ah T 22 (.ip (x:: l))=some x:=rfl
@[simp] theorem LD23(x:AV)(l:List AV):ah T 23 (.ip (x:: l))=some x:=rfl
@[simp] theorem LD24(x:AV)(l:List AV):ah T 24 (.ip (x:: l))=some x:=rfl
@[simp] theorem LD25(x:AV)(l:List AV):ah T 25 (.ip (x:: l))=some x:=rfl
@[simp] theorem LD27(cs:List AV):ah T 27 (.ip cs)=if 3<=cs.length then some (.agg (cs.take 3))else none:=rfl
@[simp] theorem LD29(cs:List AV):ah T 29 (.ip cs)=if 9<=cs.length then some (.agg (cs.take 9))else none:=rfl
@[simp] theorem LD30(x:AV)(l:List AV):ah T 30 (.ip (x:: l))=some x:=rfl
@[simp] theorem LD35(cs:List AV):ah T 35 (.ip cs)=if 2<=cs.length then some (.agg (cs.take 2))else none:=rfl
@[simp] theorem LD37(cs:List AV):ah T 37 (.ip cs)=if 3<=cs.length then some (.agg (cs.take 3))else none:=rfl
@[simp] theorem LD45(cs:List AV):ah T 45 (.ip cs)=if 4<=cs.length then some (.agg (cs.take 4))else none:=rfl
@[simp] theorem LD47(x:AV)(l:List AV):ah T 47 (.ip (x:: l))=some x:=rfl
@[simp] theorem LD66(cs:List AV):ah T 66 (.ip cs)=if 6<=cs.length then some (.agg (cs.take 6))else none:=rfl
@[simp] theorem LD68(cs:List AV):ah T 68 (.ip cs)=if 12<=cs.length then some (.agg (cs.take 12))else none:=rfl
@[simp] theorem LD89(x:AV)(l:List AV):ah T 89 (.ip (x:: l))=some x:=rfl
@[simp] theorem LD92(x:AV)(l:List AV):ah T 92 (.ip (x:: l))=some x:=rfl
@[simp] theorem LD101(x:AV)(l:List AV):ah T 101 (.ip (x:: l))=some x:=rfl
@[simp] theorem LD103(cs:List AV):ah T 103 (.ip cs)=if 2<=cs.length then some (.agg (cs.take 2))else none:=rfl
@[simp] theorem LD105(x:AV)(l:List AV):ah T 105 (.ip (x:: l))=some x:=rfl
@[simp] theorem LD145(cs:List AV):ah T 145 (.ip cs)=if 5<=cs.length then some (.agg (cs.take 5))else none:=rfl
@[simp] theorem LD157(x:AV)(l:List AV):ah T 157 (.ip (x:: l))=some x:=rfl
@[simp] theorem LD158(x:AV)(l:List AV):ah T 158 (.ip (x:: l))=some x:=rfl
@[simp] theorem LD159(x:AV)(l:List AV):ah T 159 (.ip (x:: l))=some x:=rfl
@[simp] theorem LD160(x:AV)(l:List AV):ah T 160 (.ip (x:: l))=some x:=rfl
@[simp] theorem LD168(cs:List AV):ah T 168 (.ip cs)=if 3<=cs.length then some (.agg (cs.take 3))else none:=rfl
@[simp] theorem Nk(s:a7):aO T 9 (.str s)=some (.int .i64 s.length):=rfl
@[simp] theorem Lq(es:List AV):aO T 22 (.sl es)=some (.int .i64 es.length):=rfl
@[simp] theorem Nv:aO T 22 .hn=some (.int .i64 0):=rfl
@[simp] theorem Nm(l k n s:Nat)(a:Bool):aO T 22 (.hs l k n s a)=some (.int .i64 n):=rfl
@[simp] theorem nU(l:List a7):aO T 22 (strs l)=some (.int .i64 l.length):=(Lq _).trans (by simp)
@[simp] theorem Lr(es:List AV):aO T 23 (.sl es)=some (.int .i64 es.length):=rfl
@[simp] theorem Nw:aO T 23 .hn=some (.int .i64 0):=rfl
@[simp] theorem Nn(l k n s:Nat)(a:Bool):aO T 23 (.hs l k n s a)=some (.int .i64 n):=rfl
@[simp] theorem dO(l:List bd):aO T 23 (aK l)=some (.int .i64 l.length):=(Lr _).trans (by simp[fF])
@[simp] theorem Ls(es:List AV):aO T 24 (.sl es)=some (.int .i64 es.length):=rfl
@[simp] theorem Nx:aO T 24 .hn=some (.int .i64 0):=rfl
@[simp] theorem Np(l k n s:Nat)(a:Bool):aO T 24 (.hs l k n s a)=some (.int .i64 n):=rfl
@[simp] theorem tU(l:List Exp):aO T 24 (bX l)=some (.int .i64 l.length):=(Ls _).trans (by simp[iO])
@[simp] theorem Lt(es:List AV):aO T 25 (.sl es)=some (.int .i64 es.length):=rfl
@[simp] theorem Ny:aO T 25 .hn=some (.int .i64 0):=rfl
@[simp] theorem Nq(l k n s:Nat)(a:Bool):aO T 25 (.hs l k n s a)=some (.int .i64 n):=rfl
@[simp] theorem yB(l:List Fun):aO T 25 (gC l)=some (.int .i64 l.length):=(Lt _).trans (by simp)
@[simp] theorem Lu(es:List AV):aO T 30 (.sl es)=some (.int .i64 es.length):=rfl
@[simp] theorem Nz:aO T 30 .hn=some (.int .i64 0):=rfl
@[simp] theorem Nr(l k n s:Nat)(a:Bool):aO T 30 (.hs l k n s a)=some (.int .i64 n):=rfl
@[simp] theorem Dd(l:List Val):aO T 30 (vals l)=some (.int .i64 l.length):=(Lu _).trans (by simp[eB])
@[simp] theorem Lv(es:List AV):aO T 47 (.sl es)=some (.int .i64 es.length):=rfl
@[simp] theorem NA:aO T 47 .hn=some (.int .i64 0):=rfl
@[simp] theorem Ns(l k n s:Nat)(a:Bool):aO T 47 (.hs l k n s a)=some (.int .i64 n):=rfl
@[simp] theorem Nl(l:List Ty):aO T 47 (im l)=some (.int .i64 l.length):=(Lv _).trans (by simp)
@[simp] theorem Lw(es:List AV):aO T 92 (.sl es)=some (.int .i64 es.length):=rfl
@[simp] theorem NB:aO T 92 .hn=some (.int .i64 0):=rfl
@[simp] theorem Nt(l k n s:Nat)(a:Bool):aO T 92 (.hs l k n s a)=some (.int .i64 n):=rfl
@[simp] theorem yC(l:List Mod):aO T 92 (fZ l)=some (.int .i64 l.length):=(Lw _).trans (by simp)
@[simp] theorem Lx(es:List AV):aO T 97 (.sl es)=some (.int .i64 es.length):=rfl
@[simp] theorem NC:aO T 97 .hn=some (.int .i64 0):=rfl
@[simp] theorem Nu(l k n s:Nat)(a:Bool):aO T 97 (.hs l k n s a)=some (.int .i64 n):=rfl
@[simp] theorem JF(l:List Face):aO T 97 (faces l)=some (.int .i64 l.length):=(Lx _).trans (by simp)
@[simp] theorem JD(es:List AV):aO T 101 (.sl es)=some (.int .i64 es.length):=rfl
@[simp] theorem M5:aO T 101 .hn=some (.int .i64 0):=rfl
@[simp] theorem M3(l k n s:Nat)(a:Bool):aO T 101 (.hs l k n s a)=some (.int .i64 n):=rfl
@[simp] theorem M2(l:List Sig):aO T 101 (sigs l)=some (.int .i64 l.length):=(JD _).trans (by simp)
@[simp] theorem JE(es:List AV):aO T 158 (.sl es)=some (.int .i64 es.length):=rfl
@[simp] theorem M6:aO T 158 .hn=some (.int .i64 0):=rfl
@[simp] theorem M4(l k n s:Nat)(a:Bool):aO T 158 (.hs l k n s a)=some (.int .i64 n):=rfl
@[simp] theorem GP(l:List Int):aO T 158 (ints l)=some (.int .i64 l.length):=(JE _).trans (by simp)
def p7{l:List a7}{n:Int}(h0:0<=n)(h:n<(l.length:Int)):ak T 22 (strs l) (.int .i64 n)=some (.ip (ab (AV.str l[n.toNat]!))):=cz (T:=T) (t:=22) (e:=9) rfl rfl rfl (fun _=>by first|rfl|(simp;done)|(simp;rfl)) h0 h
def iK{l:List bd}{n:Int}(h0:0<=n)(h:n<(l.length:Int)):ak T 23 (aK l) (.int .i64 n)=some (.ip (ab (bw l[n.toNat]!))):=by rw[aK,fF];exact cz (T:=T) (t:=23) (e:=37) rfl rfl rfl (fun _=>by first|rfl|(simp;done)|(simp;rfl)) h0 h
def kH{l:List Exp}{n:Int}(h0:0<=n)(h:n<(l.length:Int)):ak T 24 (bX l) (.int .i64 n)=some (.ip (ab (Exp.av l[n.toNat]!))):=by rw[bX,iO];exact cz (T:=T) (t:=24) (e:=66) rfl rfl rfl (fun _=>by first|rfl|(simp;done)|(simp;rfl)) h0 h
def yA{l:List Fun}{n:Int}(h0:0<=n)(h:n<(l.length:Int)):ak T 25 (gC l) (.int .i64 n)=some (.ip (ab (Fun.av l[n.toNat]!))):=cz (T:=T) (t:=25) (e:=68) rfl rfl rfl (fun _=>by first|rfl|(simp;done)|(simp;rfl)) h0 h
def p8{l:List Val}{n:Int}(h0:0<=n)(h:n<(l.length:Int)):ak T 30 (vals l) (.int .i64 n)=some (.ip (ab (Val.av l[n.toNat]!))):=by rw[vals,eB];exact cz (T:=T) (t:=30) (e:=45) rfl rfl rfl (fun _=>by first|rfl|(simp;done)|(simp;rfl)) h0 h
def tT{l:List Ty}{n:Int}(h0:0<=n)(h:n<(l.length:Int)):ak T 47 (im l) (.int .i64 n)=some (.ip (ab (Ty.av l[n.toNat]!))):=cz (T:=T) (t:=47) (e:=35) rfl rfl rfl (fun _=>by first|rfl|(simp;done)|(simp;rfl)) h0 h
def BD{l:List Mod}{n:Int}(h0:0<=n)(h:n<(l.length:Int)):ak T 92 (fZ l) (.int .i64 n)=some (.ip (ab (Mod.av l[n.toNat]!))):=cz (T:=T) (t:=92) (e:=29) rfl rfl rfl (fun _=>by first|rfl|(simp;done)|(simp;rfl)) h0 h
def Nj{l:List Face}{n:Int}(h0:0<=n)(h:n<(l.length:Int)):ak T 97 (faces l) (.int .i64 n)=some (.ip (ab (Face.av l[n.toNat]!))):=cz (T:=T) (t:=97) (e:=103) rfl rfl rfl (fun _=>by first|rfl|(simp;done)|(simp;rfl)) h0 h
def Dc{l:List Sig}{n:Int}(h0:0<=n)(h:n<(l.length:Int)):ak T 101 (sigs l) (.int .i64 n)=some (.ip (ab (Sig.av l[n.toNat]!))):=cz (T:=T) (t:=101) (e:=145) rfl rfl rfl (fun _=>by first|rfl|(simp;done)|(simp;rfl)) h0 h
def Lp{l:List Int}{n:Int}(h0:0<=n)(h:n<(l.length:Int)):ak T 158 (ints l) (.int .i64 n)=some (.ip (ab (AV.int .i64 l[n.toNat]!))):=cz (T:=T) (t:=158) (e:=3) rfl rfl rfl (fun _=>by first|rfl|(simp;done)|(simp;rfl)) h0 h
def Jw{a b:List a7}(h:(a.length+b.length)*16<=140737488355328):cQ T 22 (strs a) (strs b)=some (strs (a++b)):=by
 have:=kU (T:=T) (t:=22) (e:=9) rfl rfl rfl (f:=AV.str) (fun _=>by first|rfl|(simp;done)|(simp;rfl)) (a:=a) (b:=b) h (by decide)
 simpa [strs]using this
def Jy{a b:List bd}(h:(a.length+b.length)*48<=140737488355328):cQ T 23 (aK a) (aK b)=some (aK (a++b)):=by
 have:=kU (T:=T) (t:=23) (e:=37) rfl rfl rfl (f:=bw) (fun _=>by first|rfl|(simp;done)|(simp;rfl)) (a:=a) (b:=b) h (by decide)
 simpa [aK,fF]using this
def BC{a b:List Val}(h:(a.length+b.length)*64<=140737488355328):cQ T 30 (vals a) (vals b)=some (vals (a++b)):=by
 have:=kU (T:=T) (t:=30) (e:=45) rfl rfl rfl (f:=Val.av) (fun _=>by first|rfl|(simp;done)|(simp;rfl)) (a:=a) (b:=b) h (by decide)
 simpa [vals,eB]using this
def Lk{a b:List Ty}(h:(a.length+b.length)*32<=140737488355328):cQ T 47 (im a) (im b)=some (im (a++b)):=by
 have:=kU (T:=T) (t:=47) (e:=35) rfl rfl rfl (f:=Ty.av) (fun _=>by first|rfl|(simp;done)|(simp;rfl)) (a:=a) (b:=b) h (by decide)
 simpa [im]using this
def Nh{a b:List Vars}(h:(a.length+b.length)*40<=140737488355328):cQ T 89 (fc a) (fc b)=some (fc (a++b)):=by
 have:=kU (T:=T) (t:=89) (e:=94) rfl rfl rfl (f:=Vars.av) (fun _=>by first|rfl|(simp;done)|(simp;rfl)) (a:=a) (b:=b) h (by decide)
 simpa [fc]using this
def EA(l:List a7)(i k:Nat)(hk:k=i+1)(h:k<l.length):yH (l.drop i)=(bH (l[i]'(by omega)) l[k]&&yH (l.drop k)):=by
 subst hk;have e1:l.drop i=l[i]:: l.drop (i+1):=PC (by omega);have e2:l.drop (i+1)=l[i+1]:: l.drop (i+2):=PC h;rw[e1,e2];rfl
def HC(call)(l:List a7)(hb:l.length<=4611686018427387904):∀(n:Nat)(i:Int),l.length-i.toNat=n->1<=i->aj (L135_0 call aj) [strs l,.int .i64 i]=M.pure (.bool (yH (l.drop (i.toNat-1)))):=by
 intro n
 induction n with
 | zero=>
  intro i hn hi;rw[FL135_0];simp only[L135_0];have h1:¬(i<(l.length:Int)):=by omega
  have h2:yH (l.drop (i.toNat-1))=true:=by
   have:(l.drop (i.toNat-1)).length<=1:=by simp;omega
   match hq:l.drop (i.toNat-1),this with
   |[],_=>rfl
   |[x],_=>rfl
   |x:: y:: r,h=>simp at h
  simp[h1,h2]
 |succ n ih=>
  intro i hn hi;have h1:i<(l.length:Int):=by omega
  rw[FL135_0];simp only[L135_0];simp (disch:=omega) [h1,bq,p7];rw[ih (i+1) (by omega) (by omega),EA l (i.toNat-1) i.toNat (by omega) (by omega),show (i+1).toNat-1=i.toNat by omega];cases bH l[i.toNat-1] l[i.toNat]<;>simp
def t135(l:List a7)(hb:l.length<=4611686018427387904):ai pg 135 [strs l]=M.pure (.bool (yH l)):=by
 rw[C135];simp[S135,HC (ai pg) l hb (l.length-1) 1 rfl (by omega)]
def HE(f:AV)(F:Val->Bool)(l:List Val)(hb:l.length<=4611686018427387904)(hf:∀x∈l,bu (ai pg) f [Val.av x]=M.pure (.bool (F x))):∀(n:Nat)(i:Int),l.length-i.toNat=n->0<=i->i<=l.length->
  aj (L164_0 (ai pg) aj) [vals l,f,.int .i64 l.length,.int .i64 i]=M.pure (.int .i64 (aV F (l.drop i.toNat) i)):=by
 intro n
 induction n with
 |zero=>
  intro i hn hi hl;rw[FL164_0];simp only[L164_0];have h1:¬(i<(l.length:Int)):=by omega
  have h2:l.drop i.toNat=[]:=PD (by omega);simp[h1,h2,aV]
 |succ n ih=>
  intro i hn hi hl;have h1:i<(l.length:Int):=by omega
  have hlt:i.toNat<l.length:=by omega
  have h2:aV F (l.drop i.toNat) i=if F l[i.toNat]=true then i else aV F (l.drop (i.toNat+1)) (i+1):=by rw[PC hlt];rfl
  have h3:=hf l[i.toNat] (Px hlt);have h4:=ih (i+1) (by omega) (by omega) (by omega);rw[show (i+1).toNat=i.toNat+1 by omega]at h4;rw[FL164_0];simp only[L164_0];simp (disch:=omega) [h1,bq,p8,h3,h2];cases F l[i.toNat]
  ·simpa using h4
  ·simp
def t164(f:AV)(F:Val->Bool)(l:List Val)(hb:l.length<=4611686018427387904)(hc:∀g,cl g f=f)(hf:∀x∈l,bu (ai pg) f [Val.av x]=M.pure (.bool (F x))):ai pg 164 [vals l,f]=M.pure (.int .i64 (aV F l 0)):=by
 rw[C164];simp[S164,hc,HE f F l hb hf l.length 0 rfl (by omega) (by omega)]
def t130(f:AV)(F:Val->Bool)(l:List Val)(hb:l.length<=4611686018427387904)(hc:∀g,cl g f=f)(hf:∀x∈l,bu (ai pg) f [Val.av x]=M.pure (.bool (F x))):ai pg 130 [vals l,f]=M.pure (.bool (l.any F)):=by
 rw[C130];simp[S130,hc,t164 f F l hb hc hf,jL]
theorem t86:∀(d:Nat),d<=4->∀(v:Val),v.sz<=4611686018427387904->ai pg 86 [v.av,.int .i64 d]=M.pure (.bool (bF d v))
 |0,_,v,_=>by
  rw[C86];simp[S86,bF]
 | d+1,hd,v,hv=>by
  have ih:=t86 d (by omega);have h1:=t135 v.names (QC v.sz_names hv);have hf:∀x∈v.values,bu (ai pg) (.fn (.func 136) [] [.ip [.int .i64 ((d:Int)+1)]]) [x.av]=M.pure (.bool !(bF d x)):=by
   intro x hx;have hsz:=OZ hx
   have:=ih x (by omega)
   show ai pg 136 [x.av,.ip [.int .i64 ((d:Int)+1)]]=_;rw[C136];simp (disch:=omega) [S136,cl,dp,bq,this,show (d:Int)+1-1=d by omega]
  have h2:=t130 (.fn (.func 136) [] [.ip [.int .i64 ((d:Int)+1)]]) (fun x=>!(bF d x)) v.values (by have:=v.sz_len;omega) (fun g=>rfl) hf;have h0:¬((d:Int)+1=0):=by omega
  rw[C86];simp[S86,bF,h0,h1,h2];have hall:(!v.values.any fun x=>!bF d x)=v.values.all (bF d):=by simp[RL]
  rw[hall];split
  ·rfl
  ·congr 2;rw[show (v.kind== 2)=decide (v.kind=2)from rfl,show (v.n== 0)=decide (v.n=0)from rfl,show (v.names.length== v.values.length)=decide (v.names.length=v.values.length) by rw[QN];simp,
    show (!decide ((8:Int)<(v.names.length:Int)))=decide (v.names.length<=8) by rw[QN];simp;omega]
mutual
def xW:Val->Val->Bool
 |.mk k n ns vs,.mk k' n' ns' vs'=>k== k'&&n== n'&&ns== ns'&&lG vs vs'
def lG:List Val->List Val->Bool
 |[],[]=>true
 |v:: vs,w:: ws=>xW v w&&lG vs ws
 |_,_=>false
end
def t49(v:Val)(hv:v.sz<=4611686018427387904):ai pg 49 [v.av]=M.pure (.bool (bF 4 v)):=by
 rw[C49]
 have:=t86 4 (by omega) v hv
 simp at this;simp[S49,this]
def HF(f:AV)(F:Mod->Bool)(l:List Mod)(hb:l.length<=4611686018427387904)(hf:∀x∈l,bu (ai pg) f [Mod.av x]=M.pure (.bool (F x))):∀(n:Nat)(i:Int),l.length-i.toNat=n->0<=i->i<=l.length->
  aj (L193_0 (ai pg) aj) [fZ l,f,.int .i64 l.length,.int .i64 i]=M.pure (.int .i64 (aV F (l.drop i.toNat) i)):=by
 intro n
 induction n with
 |zero=>
  intro i hn hi hl;rw[FL193_0];simp only[L193_0];have h1:¬(i<(l.length:Int)):=by omega
  have h2:l.drop i.toNat=[]:=PD (by omega);simp[h1,h2,aV]
 |succ n ih=>
  intro i hn hi hl;have h1:i<(l.length:Int):=by omega
  have hlt:i.toNat<l.length:=by omega
  have h2:aV F (l.drop i.toNat) i=if F l[i.toNat]=true then i else aV F (l.drop (i.toNat+1)) (i+1):=by rw[PC hlt];rfl
  have h3:=hf l[i.toNat] (Px hlt);have h4:=ih (i+1) (by omega) (by omega) (by omega);rw[show (i+1).toNat=i.toNat+1 by omega]at h4;rw[FL193_0];simp only[L193_0];simp (disch:=omega) [h1,bq,BD,h3,h2];cases F l[i.toNat]
  ·simpa using h4
  ·simp
def t193(f:AV)(F:Mod->Bool)(l:List Mod)(hb:l.length<=4611686018427387904)(hc:∀g,cl g f=f)(hf:∀x∈l,bu (ai pg) f [Mod.av x]=M.pure (.bool (F x))):ai pg 193 [fZ l,f]=M.pure (.int .i64 (aV F l 0)):=by
 rw[C193];simp[S193,hc,HF f F l hb hf l.length 0 rfl (by omega) (by omega)]
def t148(f:AV)(F:Mod->Bool)(l:List Mod)(hb:l.length<=4611686018427387904)(hc:∀g,cl g f=f)(hf:∀x∈l,bu (ai pg) f [Mod.av x]=M.pure (.bool (F x))):ai pg 148 [fZ l,f]=M.pure (.bool (l.any F)):=by
 rw[C148];simp[S148,hc,t193 f F l hb hc hf,jL]
def HH(f:AV)(F:Fun->Bool)(l:List Fun)(hb:l.length<=4611686018427387904)(hf:∀x∈l,bu (ai pg) f [Fun.av x]=M.pure (.bool (F x))):∀(n:Nat)(i:Int),l.length-i.toNat=n->0<=i->i<=l.length->
  aj (L212_0 (ai pg) aj) [gC l,f,.int .i64 l.length,.int .i64 i]=M.pure (.int .i64 (aV F (l.drop i.toNat) i)):=by
 intro n
 induction n with
 |zero=>
  intro i hn hi hl;rw[FL212_0];simp only[L212_0];have h1:¬(i<(l.length:Int)):=by omega
  have h2:l.drop i.toNat=[]:=PD (by omega);simp[h1,h2,aV]
 |succ n ih=>
  intro i hn hi hl;have h1:i<(l.length:Int):=by omega
  have hlt:i.toNat<l.length:=by omega
  have h2:aV F (l.drop i.toNat) i=if F l[i.toNat]=true then i else aV F (l.drop (i.toNat+1)) (i+1):=by rw[PC hlt];rfl
  have h3:=hf l[i.toNat] (Px hlt);have h4:=ih (i+1) (by omega) (by omega) (by omega);rw[show (i+1).toNat=i.toNat+1 by omega]at h4;rw[FL212_0];simp only[L212_0];simp (disch:=omega) [h1,bq,yA,h3,h2];cases F l[i.toNat]
  ·simpa using h4
  ·simp
def t212(f:AV)(F:Fun->Bool)(l:List Fun)(hb:l.length<=4611686018427387904)(hc:∀g,cl g f=f)(hf:∀x∈l,bu (ai pg) f [Fun.av x]=M.pure (.bool (F x))):ai pg 212 [gC l,f]=M.pure (.int .i64 (aV F l 0)):=by
 rw[C212];simp[S212,hc,HH f F l hb hf l.length 0 rfl (by omega) (by omega)]
def KB(f:AV)(F:bd->Bool)(l:List bd)(hb:l.length<=4611686018427387904)(hf:∀x∈l,bu (ai pg) f [bw x]=M.pure (.bool (F x))):∀(n:Nat)(i:Int),l.length-i.toNat=n->0<=i->i<=l.length->
  aj (L81_0 (ai pg) aj) [aK l,f,.int .i64 l.length,.int .i64 i]=M.pure (.int .i64 (aV F (l.drop i.toNat) i)):=by
 intro n
 induction n with
 |zero=>
  intro i hn hi hl;rw[FL81_0];simp only[L81_0];have h1:¬(i<(l.length:Int)):=by omega
  have h2:l.drop i.toNat=[]:=PD (by omega);simp[h1,h2,aV]
 |succ n ih=>
  intro i hn hi hl;have h1:i<(l.length:Int):=by omega
  have hlt:i.toNat<l.length:=by omega
  have h2:aV F (l.drop i.toNat) i=if F l[i.toNat]=true then i else aV F (l.drop (i.toNat+1)) (i+1):=by rw[PC hlt];rfl
  have h3:=hf l[i.toNat] (Px hlt);have h4:=ih (i+1) (by omega) (by omega) (by omega);rw[show (i+1).toNat=i.toNat+1 by omega]at h4;rw[FL81_0];simp only[L81_0];simp (disch:=omega) [h1,bq,iK,h3,h2];cases F l[i.toNat]
  ·simpa using h4
  ·simp
def t81(f:AV)(F:bd->Bool)(l:List bd)(hb:l.length<=4611686018427387904)(hc:∀g,cl g f=f)(hf:∀x∈l,bu (ai pg) f [bw x]=M.pure (.bool (F x))):ai pg 81 [aK l,f]=M.pure (.int .i64 (aV F l 0)):=by
 rw[C81];simp[S81,hc,KB f F l hb hf l.length 0 rfl (by omega) (by omega)]
def t247(m:Mod)(s:a7):ai pg 247 [m.av,.ip [.str s]]=M.pure (.bool (m.name== s)):=by
 rw[C247];simp[S247,cl,dp]
def t248(f:Fun)(s:a7):ai pg 248 [f.av,.ip [.str s]]=M.pure (.bool (f.name== s)):=by
 rw[C248];simp[S248,cl,dp]
def t149(m w:Mod):ai pg 149 [m.av,.ip (ab w.av)]=M.pure (.bool (m.name== w.name)):=by
 rw[C149];simp[S149,cl,dp]
def MW(p:List Mod)(hp:p.length<=4611686018427387904)(s:a7):ai pg 193 [fZ p,.fn (.func 247) [] [.ip [.str s]]]=M.pure (.int .i64 (tn p s)):=
 t193 _ _ p hp (fun g=>rfl) (fun m _=>t247 m s)
def MX(p:List Fun)(hp:p.length<=4611686018427387904)(s:a7):ai pg 212 [gC p,.fn (.func 248) [] [.ip [.str s]]]=M.pure (.int .i64 (kD p s)):=
 t212 _ _ p hp (fun g=>rfl) (fun m _=>t248 m s)
def t168(n:Int):ai pg 168 [.int .i64 n]=M.pure (Val.mk 0 n [] []).av:=by
 rw[C168];rfl
def t169(b:Bool):ai pg 169 [.bool b]=M.pure (fI b).av:=by
 rw[C169];cases b<;>rfl
def t166(b:Bool)(n:Int):ai pg 166 [.bool b,.int .i64 n]=if b=true then M.pure (.tup [])else d9 (.iface 39 (.int .i64 n)):=by
 rw[C166];cases b<;>rfl
def J6(l:List a7):dT T 22 (strs l) none (some (.int .i64 l.length)) (some (.int .i64 l.length))=some (strs l):=by
 have:=px (T:=T) (t:=22) (e:=9) rfl rfl rfl (l.map AV.str)
 simpa [strs]using this
def J5(l:List Val):dT T 30 (vals l) none (some (.int .i64 l.length)) (some (.int .i64 l.length))=some (vals l):=by
 have:=px (T:=T) (t:=30) (e:=45) rfl rfl rfl (eb l)
 simpa [vals,eB]using this
def t217(l:List a7):ai pg 217 [strs l]=M.pure (strs l):=by
 rw[C217];simp[S217,J6,bI (a:=strs l) fun g=>mW g l]
def t218(l:List Val):ai pg 218 [vals l]=M.pure (vals l):=by
 rw[C218];simp[S218,J5]
def bD(o:Int)(ns:List a7)(vs:List Val):AV:=.agg [.int .i64 o,strs ns,vals vs]
@[simp] theorem ek(o:Int)(ns:List a7)(vs:List Val):ab (bD o ns vs)=[.int .i64 o,strs ns,vals vs]:=rfl
theorem bO(o:Int)(ns:List a7)(vs:List Val):AV.agg [.int .i64 o,strs ns,vals vs]=bD o ns vs:=rfl
def wj(g)(o:Int)(ns:List a7)(vs:List Val):cl g (bD o ns vs)=bD o ns vs:=by
 simp[bD,cl,dp,mW,jk]
def mN(o:Int)(ns:List a7)(vs:List Val):b9 3 (bD o ns vs)=true:=by simp[b9,ba,strs,vals,bD,cM,ab]
def zq(o:Int)(ns:List a7)(vs:List Val):aI (M.pure (bD o ns vs))=M.pure (bD o ns vs):=bI fun g=>wj g o ns vs
set_option maxHeartbeats 1000000 in
def t167(n:Int):ai pg 167 [.int .i64 n]=M.pure (.int .i64 (aQ n)):=by
 rw[C167];unfold aQ;simp only[S167,K167_0,K167_1,K167_2,K167_3,cl,qS,gQ,ao,au,aH,aM,PR];by_cases h0:n=0
 ·simp[h0]
 by_cases h1:n=1
 ·simp[h1]
 by_cases h2:n=2
 ·simp[h2]
 by_cases h17:n=17
 ·simp[h17]
 by_cases h10:n=10
 ·simp[h10]
 by_cases h14:n=14
 ·simp[h14]
 by_cases h16:n=16
 ·simp[h16]
 by_cases h18:n=18
 ·simp[h18]
 by_cases h3:n=3
 ·simp[h3]
 by_cases h4:n=4
 ·simp[h4]
 by_cases h5:n=5
 ·simp[h5]
 by_cases h6:n=6
 ·simp[h6]
 by_cases h7:n=7
 ·simp[h7]
 by_cases h8:n=8
 ·simp[h8]
 by_cases h9:n=9
 ·simp[h9]
 by_cases h12:n=12
 ·simp[h12]
 by_cases h11:n=11
 ·simp[h11]
 by_cases h13:n=13
 ·simp[h13]
 by_cases h15:n=15
 ·simp[h15]
 simp[h0,h1,h2,h17,h10,h14,h16,h18,h3,h4,h5,h6,h7,h8,h9,h12,h11,h13,h15]
theorem t172(o:Int)(ns:List a7)(vs:List Val)(s:a7)(v:Val)(h1:ns.length<=1099511627776)(h2:vs.length<=1099511627776):
  ai pg 172 [bD o ns vs,.str s,v.av]=M.pure (bD o (ns++[s]) (vs++[v])):=by
 have hb1:aJ T 22 1 [(0,.str s)]=some (strs [s]):=rfl;have hb2:aJ T 30 1 [(0,v.av)]=some (vals [v]):=by rw[v.av_eq];simp[vals,eb,v.av_eq];rfl
 have ha1:cQ T 22 (strs ns) (strs [s])=some (strs (ns++[s])):=Jw (by simp;omega);have ha2:cQ T 30 (vals vs) (vals [v])=some (vals (vs++[v])):=BC (by simp;omega);have hb3:aU T false 168 [(0,.int .i64 o),(1,strs (ns++[s])),(2,vals (vs++[v]))]=some (bD o (ns++[s]) (vs++[v])):=rfl;rw[C172,wj];simp[S172,cl,t217,t218,hb1,hb2,ha1,ha2,hb3,bO,mN,zq]
def m0(e:Int):AV:=.iface 39 (.int .i64 e)
def cy(b:Bool)(e:Int)(x:M AV):M AV:=if b=true then x else d9 (m0 e)
def be(b:Bool)(e:Int)(f:AV->M AV):ae (ai pg 166 [.bool b,.int .i64 e]) f=cy b e (f (.tup [])):=by
 rw[t166];unfold cy;cases b<;>rfl
def cYm0:X Val->M AV:=fun x=>match x ⟨0,0,[],[],[],[]⟩with
 |.ok v _=>M.pure v.av
 |.er e _=>d9 (m0 e)
def t170(op:Int)(a b:Val)(h:op=3\/op=4\/op=5\/op=6\/op=7):ai pg 170 [.int .i64 op,a.av,b.av]=cYm0 (kJ op a b):=by
 rw[C170];unfold kJ;have hn:=t168;have ht:=t169;simp only[S170,gQ,ao,au,eq];by_cases h7:op=7
 ·by_cases hk:a.kind=b.kind
  ·by_cases h2:a.kind=2
   ·have h2':b.kind=2:=by omega
    simp[h7,hk,h2',be,cy,cYm0,X.er]
   ·have h2':¬b.kind=2:=by omega
    simp[h7,hk,h2',be,cy,cYm0,X.ok,ht]
  ·simp[h7,hk,be,cy,cYm0,X.er]
 ·by_cases ha:a.kind=0
  ·by_cases hb:b.kind=0
   ·simp only[h7,ha,hb,QG,RG,PF,PE,PR,FA45_0,FA45_1,PT,LD3,ao,gQ,eW,aB,oG,aH,be,cy,Ry,P6,au,dj,ue,GY,bV,hn,ht];by_cases h3:op=3
    ·simp[h3,cYm0,X.ok,lu,wr];rfl
    by_cases h4:op=4
    ·simp[h4,cYm0,X.ok,lu,wr];rfl
    by_cases h5:op=5
    ·simp[h5,cYm0,X.ok,lu,wr];rfl
    simp[h3,h4,h5,cYm0,X.ok]
   ·simp[h7,ha,hb,be,cy,cYm0,X.er]
  ·simp[h7,ha,be,cy,cYm0,X.er]
def t98(l:List a7)(s:a7)(hb:l.length<=1099511627776):ai pg 98 [strs l,.str s]=M.pure (.int .i64 (aV (fun x=>s== x) l 0)):=by
 have hl:∀(n:Nat)(i:Int),l.length-i.toNat=n->0<=i->i<=l.length->aj (L98_0 (ai pg) aj) [strs l,.str s,.int .i64 l.length,.int .i64 i]=M.pure (.int .i64 (aV (fun x=>s== x) (l.drop i.toNat) i)):=by
  intro n
  induction n with
  |zero=>
   intro i hn hi hl;rw[FL98_0];simp only[L98_0];have h1:¬(i<(l.length:Int)):=by omega
   have h2:l.drop i.toNat=[]:=PD (by omega);simp[h1,h2,aV]
  | succ n ih=>
   intro i hn hi hl;have h1:i<(l.length:Int):=by omega
   have hlt:i.toNat<l.length:=by omega
   have h2:aV (fun x=>s== x) (l.drop i.toNat) i=if(s== l[i.toNat])=true then i else aV (fun x=>s== x) (l.drop (i.toNat+1)) (i+1):=by rw[PC hlt];rfl
   have h4:=ih (i+1) (by omega) (by omega) (by omega);rw[show (i+1).toNat=i.toNat+1 by omega]at h4;rw[FL98_0];simp only[L98_0];simp (disch:=omega) [h1,bq,p7,h2];by_cases h:s=l[i.toNat]
   ·simp[h]
   ·simp[h];simpa using h4
 rw[C98];simp[S98,cl,hl l.length 0 rfl (by omega) (by omega)]
def t220:∀(n:Nat)(v:Val),v.sz<=n->v.sz<=1099511627776->ai pg 220 [v.av]=M.pure (.int .i64 (fh v:Nat)):=by
 intro n
 induction n with
 |zero=>intro v h;have:=v.sz_pos;omega
 | succ n ih=>
  intro v hn hv;have hlen:=v.sz_len;have hlv:∀(l:List Val),bY l<=1099511627776->eJ l<=1099511627776:=by
   intro l
   induction l with
   |nil=>intro _;simp[eJ]
   | cons x l ih2=>
    intro h;simp only[bY]at h
    have:=ih2 (by omega)
    have hx:∀(k:Nat)(y:Val),y.sz<=k->fh y<=y.sz:=by
     intro k
     induction k with
     |zero=>intro y hy;have:=y.sz_pos;omega
     |succ k ihk=>
      intro y hy;rw[jM];have h1:=y.sz_values;have h2:eJ y.values<=bY y.values:=(iY _ _).2 fun z hz=>QC (ihk z (by have:=OZ hz;omega)) (je hz);omega
    simp only[eJ]
    have:=hx _ x (Pw _)
    omega
  have hl:∀(B A:List Val)(c:Nat),A++B=v.values->c<=1099511627776->aj (L220_0 (ai pg) aj) [.int .i64 (c:Nat),vals v.values,.int .i64 v.values.length,.int .i64 A.length]=M.pure (.int .i64 ((max c (eJ B)+1:Nat))):=by
   intro B
   induction B with
   |nil=>
    intro A c e hc;simp only[Qm]at e;subst e;rw[FL220_0];simp (disch:=omega) [L220_0,eJ,bq]
   | cons x B ih2=>
    intro A c e hc;have hll:A.length+(B.length+1)=v.values.length:=by rw[<- e];simp
    have h1:(A.length:Int)<(v.values.length:Int):=by omega
    have hx:v.values[A.length]! = x:=by
     rw[<- e,Pz _ _ (by simp)];simp
    have hm:x∈v.values:=by rw[<- e];simp
    have hx':v.values[A.length]'(by omega)=x:=by rw[<- hx,Pz]
    have h3:=ih x (by have:=OZ hm;omega) (by have:=OZ hm;omega);have hxb:fh x<=1099511627776:=QC ((iY v.values _).1 (hlv v.values (by have:=v.sz_values;omega)) x hm) (Pw _);have h4:=ih2 (A++[x]) (max c (fh x)) (by rw[<- e];simp) (by omega);rw[FL220_0];have hmx:(max (c:Int) (fh x:Int))=((max c (fh x):Nat):Int):=by omega
    simp (disch:=omega) [L220_0,h1,bq,p8,hx',h3,hmx]at h4 |-;rw[h4];simp only[eJ]
  rw[C220]
  have:=hl v.values [] 0 rfl (by omega)
  simp at this;simp[S220,this,jM]
def t224(f:bd)(e:Exp):ai pg 224 [bw f,.ip (ab e.av)]=M.pure (.bool (f.1== e.s)):=by
 rw[C224];simp[S224,cl,dp]
def N6(l:List bd)(hl:l.length<=1099511627776)(e:Exp):ai pg 81 [aK l,.fn (.func 224) [] [.ip (ab e.av)]]=M.pure (.int .i64 (eh l e.s)):=
 t81 _ _ l (by omega) (fun g=>by simp[cl,dp]) (fun f _=>t224 f e)
end
end Go.Proofs.YtihmmkncokjbaaaGreatDoor
