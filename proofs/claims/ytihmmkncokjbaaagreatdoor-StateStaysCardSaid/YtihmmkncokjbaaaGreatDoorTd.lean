/- What the functions of the seat compute, part 4: the texts of the claim, one behind the other. Conditions: bounds, as each theorem names them. -/
import Derived.Test.YtihmmkncokjbaaaGreatDoorTc
set_option linter.defProp false
set_option linter.unusedSimpArgs false
set_option linter.unusedVariables false
namespace Go.Proofs.YtihmmkncokjbaaaGreatDoor
open Go Go.Av Go.Av.Ap
set_option maxRecDepth 100000
noncomputable section
def L14_0(call:CC)(fx:bP AV)(a:RR)(b:List AV):M AV:=ae (af (aK T 30 (nth b 0))) fun c=>ae (af (am T .lss 3 (nth b 2) c)) fun d=>az d (ae (af (ak T 30 (nth b 0) (nth b 2))) fun e=>ae (af (ah T 45 e)) fun f=>ae (af (ak T 30 (nth b 1) (nth b 2))) fun g=>ae (af (ah T 45 g)) fun h=>ae (cy (call 21 [f,h])) fun i=>ae (af (gS UnOp.not i)) fun j=>az j (M.pure (AV.bool false)) (ae (af (am T .add 3 (nth b 2) (.int .i64 1))) fun k=>a [nth b 0,nth b 1,k])) (M.pure (AV.bool true))
def XL14_0{call:CC}:b9 (L14_0 call aj) fun _n=>L14_0 call aj  :=by
 intro a b c d;unfold L14_0;exact (lb fun _=>(lb fun _=>(aB (by(iterate 6 refine lb fun _=>?_);exact (aB (aI.const _) (lb fun _=>c _))) (aI.const _))))
def FL14_0(call:CC)(vs:List AV):aj (L14_0 call aj) vs=L14_0 call aj  (aj (L14_0 call aj)) vs:=bo (XL14_0) vs
def S14(call:CC)(fx:bP AV)(a0 a1:AV):M AV:=ae (af (aK T 30 a0)) fun a=>ae (af (aK T 30 a1)) fun b=>ae (af (am T .neq 3 a b)) fun c=>az c (M.pure (AV.bool false)) (fx (L14_0 call fx) [a0,a1,.int .i64 0])
def E14(a0 a1:AV):EE 14 Tryz.f14 Ce [a0,a1] (fun c x=>S14 c x a0 a1):=fun _ _=>by kernel_rfl
def C14(a0 a1:AV):ai pg 14 [a0,a1]=aH (S14 (ai pg) aj (cl au a0) (cl au a1)):=(ax aE rfl rfl rfl _).trans (H8 aH (E14 (cl au a0) (cl au a1) _ _))
def S23(call:CC)(fx:bP AV)(a0:AV):M AV:=ae (af (ah T 35 (.ip (aa a0)))) fun a=>ae (call 56 [a]) fun b=>M.pure b
def E23(a0:AV):EE 23 Tryz.f23 Cj [a0] (fun c x=>S23 c x a0):=fun _ _=>by kernel_rfl
def C23(a0:AV):ai pg 23 [a0]=aH (S23 (ai pg) aj (cl au a0)):=(ax aE rfl rfl rfl _).trans (H8 aH (E23 (cl au a0) _ _))
def S27(call:CC)(fx:bP AV)(a0 a1:AV):M AV:=ae (af (ah T 45 (.ip (aa a0)))) fun a=>ae (af (ah T 45 (.ip (aa a1)))) fun b=>ae (call 62 [a,b]) fun c=>M.pure c
def E27(a0 a1:AV):EE 27 Tryz.f27 Ck [a0,a1] (fun c x=>S27 c x a0 a1):=fun _ _=>by kernel_rfl
def C27(a0 a1:AV):ai pg 27 [a0,a1]=aH (S27 (ai pg) aj (cl au a0) (cl au a1)):=(ax aE rfl rfl rfl _).trans (H8 aH (E27 (cl au a0) (cl au a1) _ _))
def S39(call:CC)(fx:bP AV)(a0 a1:AV):M AV:=ae (af (ah T 35 (.ip (aa a0)))) fun a=>ae (call 23 [a]) fun b=>ae (aw b true 1 (ae (af (ah T 35 (.ip (aa a1)))) fun c=>ae (call 23 [c]) fun d=>M.pure [d])) fun e=>ae (af (aF b (nth e 0) (.bool false))) fun f=>ae (aw f true 1 (ae (af (ah T 35 (.ip (aa a0)))) fun g=>ae (af (ah T 35 (.ip (aa a1)))) fun h=>ae (call 79 [g,h]) fun i=>M.pure [i])) fun j=>ae (af (aF f (nth j 0) (.bool false))) fun k=>M.pure k
def E39(a0 a1:AV):EE 39 Tryz.f39 Cl [a0,a1] (fun c x=>S39 c x a0 a1):=fun _ _=>by kernel_rfl
def C39(a0 a1:AV):ai pg 39 [a0,a1]=aH (S39 (ai pg) aj (cl au a0) (cl au a1)):=(ax aE rfl rfl rfl _).trans (H8 aH (E39 (cl au a0) (cl au a1) _ _))
def L40_0(call:CC)(fx:bP AV)(a:RR)(b:List AV):M AV:=ae (af (aK T 24 (nth b 0))) fun c=>ae (af (am T .lss 3 (nth b 1) c)) fun d=>ae (aw d true 1 (ae (af (am T .lss 3 (nth b 1) (.int .i64 9))) fun e=>M.pure [e])) fun f=>ae (af (aF d (nth f 0) (.bool false))) fun g=>az g (ae (af (ak T 24 (nth b 0) (nth b 1))) fun h=>ae (af (ah T 66 h)) fun i=>ae (call 80 [i,.int .i64 50,.int .i64 16]) fun j=>ae (af (am T .gtr 3 j (.int .i64 50))) fun k=>az k (M.pure (AV.bool false)) (ae (af (am T .add 3 (nth b 1) (.int .i64 1))) fun l=>a [nth b 0,l])) (ae (af (aK T 24 (nth b 0))) fun m=>ae (af (am T .leq 3 m (.int .i64 8))) fun n=>M.pure n)
def XL40_0{call:CC}:b9 (L40_0 call aj) fun _n=>L40_0 call aj  :=by
 intro a b c d;unfold L40_0;exact (lb fun _=>(lb fun _=>(lb fun _=>(lb fun _=>(aB (lb fun _=>(lb fun _=>(lb fun _=>(lb fun _=>(aB (aI.const _) (lb fun _=>c _)))))) (aI.const _))))))
def FL40_0(call:CC)(vs:List AV):aj (L40_0 call aj) vs=L40_0 call aj  (aj (L40_0 call aj)) vs:=bo (XL40_0) vs
def S40(call:CC)(fx:bP AV)(a0:AV):M AV:=fx (L40_0 call fx) [a0,.int .i64 0]
def E40(a0:AV):EE 40 Tryz.f40 Cm [a0] (fun c x=>S40 c x a0):=fun _ _=>by kernel_rfl
def C40(a0:AV):ai pg 40 [a0]=aH (S40 (ai pg) aj (cl au a0)):=(ax aE rfl rfl rfl _).trans (H8 aH (E40 (cl au a0) _ _))
def L41_0(call:CC)(fx:bP AV)(a:RR)(b:List AV):M AV:=ae (af (aK T 23 (nth b 0))) fun c=>ae (af (am T .lss 3 (nth b 1) c)) fun d=>ae (aw d true 1 (ae (af (am T .lss 3 (nth b 1) (.int .i64 9))) fun e=>M.pure [e])) fun f=>ae (af (aF d (nth f 0) (.bool false))) fun g=>az g (ae (af (ak T 23 (nth b 0) (nth b 1))) fun h=>ae (af (ab T 37 h 0)) fun i=>ae (af (ah T 9 i)) fun j=>ae (af (aK T 9 j)) fun k=>ae (af (am T .gtr 3 k (.int .i64 60))) fun l=>ae (aw l false 1 (ae (af (ak T 23 (nth b 0) (nth b 1))) fun m=>ae (af (ab T 37 m 1)) fun n=>ae (af (ah T 35 n)) fun o=>ae (af (aL T 47 1 [(0,o)])) fun p=>ae (call 16 [p]) fun q=>ae (af (gS UnOp.not q)) fun r=>M.pure [r])) fun s=>ae (af (aF l (.bool true) (nth s 0))) fun u=>az u (M.pure (AV.bool false)) (ae (af (am T .add 3 (nth b 1) (.int .i64 1))) fun v=>a [nth b 0,v])) (ae (af (aK T 23 (nth b 0))) fun w=>ae (af (am T .leq 3 w (.int .i64 8))) fun x=>M.pure x)
def XL41_0{call:CC}:b9 (L41_0 call aj) fun _n=>L41_0 call aj  :=by
 intro a b c d;unfold L41_0;exact (lb fun _=>(lb fun _=>(lb fun _=>(lb fun _=>(aB (by(iterate 7 refine lb fun _=>?_);exact (aB (aI.const _) (lb fun _=>c _))) (aI.const _))))))
def FL41_0(call:CC)(vs:List AV):aj (L41_0 call aj) vs=L41_0 call aj  (aj (L41_0 call aj)) vs:=bo (XL41_0) vs
def S41(call:CC)(fx:bP AV)(a0:AV):M AV:=fx (L41_0 call fx) [a0,.int .i64 0]
def E41(a0:AV):EE 41 Tryz.f41 Cn [a0] (fun c x=>S41 c x a0):=fun _ _=>by kernel_rfl
def C41(a0:AV):ai pg 41 [a0]=aH (S41 (ai pg) aj (cl au a0)):=(ax aE rfl rfl rfl _).trans (H8 aH (E41 (cl au a0) _ _))
def L44_0(call:CC)(fx:bP AV)(a:RR)(b:List AV):M AV:=ae (af (am T .lss 3 (nth b 5) (nth b 4))) fun c=>az c (ae (af (ak T 23 (nth b 3) (nth b 5))) fun d=>ae (af (ah T 37 d)) fun e=>ae (be 3 e) fun f=>ae (call 81 [nth b 0,.fn (Fn.func 82) [] [.ip (aa f)]]) fun g=>ae (af (am T .lss 3 g (.int .i64 0))) fun h=>ae (aw h false 1 (ae (af (ab T 37 (.ip (aa f)) 1)) fun i=>ae (af (ah T 35 i)) fun j=>ae (af (ak T 30 (nth b 1) g)) fun k=>ae (af (ah T 45 k)) fun l=>ae (cy (call 20 [j,l])) fun m=>ae (af (gS UnOp.not m)) fun n=>M.pure [n])) fun o=>ae (af (aF h (.bool true) (nth o 0))) fun p=>az p (M.pure (AV.tup [.sl [],.int .i64 7])) (ae (af (ak T 30 (nth b 1) g)) fun q=>ae (af (ah T 45 q)) fun r=>ae (af (aL T 30 1 [(0,r)])) fun s=>ae (af (db T 30 (nth b 2) s)) fun u=>ae (af (am T .add 3 (nth b 5) (.int .i64 1))) fun v=>a [nth b 0,nth b 1,u,nth b 3,nth b 4,v])) (M.pure (AV.tup [nth b 2,.int .i64 0]))
def XL44_0{call:CC}:b9 (L44_0 call aj) fun _n=>L44_0 call aj  :=by
 intro a b c d;unfold L44_0;exact (lb fun _=>(aB (by(iterate 7 refine lb fun _=>?_);exact (aB (aI.const _) (by(iterate 5 refine lb fun _=>?_);exact (c _)))) (aI.const _)))
def FL44_0(call:CC)(vs:List AV):aj (L44_0 call aj) vs=L44_0 call aj  (aj (L44_0 call aj)) vs:=bo (XL44_0) vs
def S44(call:CC)(fx:bP AV)(a0 a1 a2:AV):M AV:=ae (af (aK T 23 a1)) fun a=>fx (L44_0 call fx) [a0,a2,.sl [],a1,a,.int .i64 0]
def E44(a0 a1 a2:AV):EE 44 Tryz.f44 Cq [a0,a1,a2] (fun c x=>S44 c x a0 a1 a2):=fun _ _=>by kernel_rfl
def C44(a0 a1 a2:AV):ai pg 44 [a0,a1,a2]=aH (S44 (ai pg) aj (cl au a0) (cl au a1) (cl au a2)):=(ax aE rfl rfl rfl _).trans (H8 aH (E44 (cl au a0) (cl au a1) (cl au a2) _ _))
def L80_0(call:CC)(fx:bP AV)(a:RR)(b:List AV):M AV:=ae (af (ab T 66 (nth b 2) 5)) fun c=>ae (af (ah T 24 c)) fun d=>ae (af (aK T 24 d)) fun e=>ae (af (am T .lss 3 (nth b 4) e)) fun f=>ae (aw f true 1 (ae (af (am T .leq 3 (nth b 3) (nth b 0))) fun g=>M.pure [g])) fun h=>ae (af (aF f (nth h 0) (.bool false))) fun i=>az i (ae (af (ab T 66 (nth b 2) 5)) fun j=>ae (af (ah T 24 j)) fun k=>ae (af (ak T 24 k (nth b 4))) fun l=>ae (af (ah T 66 l)) fun m=>ae (af (am T .sub 3 (nth b 0) (nth b 3))) fun n=>ae (af (am T .sub 3 (nth b 1) (.int .i64 1))) fun o=>ae (call 80 [m,n,o]) fun p=>ae (af (am T .add 3 (nth b 3) p)) fun q=>ae (af (am T .add 3 (nth b 4) (.int .i64 1))) fun r=>a [nth b 0,nth b 1,nth b 2,q,r]) (M.pure (nth b 3))
def XL80_0{call:CC}:b9 (L80_0 call aj) fun _n=>L80_0 call aj  :=by
 intro a b c d;unfold L80_0;exact (by(iterate 6 refine lb fun _=>?_);exact (aB (by(iterate 9 refine lb fun _=>?_);exact (c _)) (aI.const _)))
def FL80_0(call:CC)(vs:List AV):aj (L80_0 call aj) vs=L80_0 call aj  (aj (L80_0 call aj)) vs:=bo (XL80_0) vs
def S80(call:CC)(fx:bP AV)(a0 a1 a2:AV):M AV:=ae (af (am T .lss 3 a2 (.int .i64 1))) fun a=>ae (aw a false 1 (ae (af (ab T 66 (.ip (aa a0)) 4)) fun b=>ae (af (ah T 22 b)) fun c=>ae (af (aK T 22 c)) fun d=>ae (af (am T .gtr 3 d (.int .i64 12))) fun e=>M.pure [e])) fun f=>ae (af (aF a (.bool true) (nth f 0))) fun g=>ae (aw g false 1 (ae (af (ab T 66 (.ip (aa a0)) 2)) fun h=>ae (af (ah T 9 h)) fun i=>ae (af (aK T 9 i)) fun j=>ae (af (am T .gtr 3 j (.int .i64 60))) fun k=>M.pure [k])) fun l=>ae (af (aF g (.bool true) (nth l 0))) fun m=>ae (aw m false 1 (ae (af (ab T 66 (.ip (aa a0)) 3)) fun n=>ae (af (ah T 9 n)) fun o=>ae (af (aK T 9 o)) fun p=>ae (af (am T .gtr 3 p (.int .i64 60))) fun q=>M.pure [q])) fun r=>ae (af (aF m (.bool true) (nth r 0))) fun s=>az s (ae (af (am T .add 3 a1 (.int .i64 1))) fun u=>M.pure u) (fx (L80_0 call fx) [a1,a2,.ip (aa a0),.int .i64 1,.int .i64 0])
def E80(a0 a1 a2:AV):EE 80 Tryz.f80 CE [a0,a1,a2] (fun c x=>S80 c x a0 a1 a2):=fun _ _=>by kernel_rfl
def C80(a0 a1 a2:AV):ai pg 80 [a0,a1,a2]=aH (S80 (ai pg) aj (cl au a0) (cl au a1) (cl au a2)):=(ax aE rfl rfl rfl _).trans (H8 aH (E80 (cl au a0) (cl au a1) (cl au a2) _ _))
def S82(call:CC)(fx:bP AV)(a0 a1:AV):M AV:=ae (af (ab T 37 (.ip (aa a0)) 0)) fun a=>ae (af (ah T 9 a)) fun b=>ae (af (ab T 37 a1 0)) fun c=>ae (af (ah T 9 c)) fun d=>ae (af (am T .eql 9 b d)) fun e=>M.pure e
def E82(a0 a1:AV):EE 82 Tryz.f82 CG [a0,a1] (fun c x=>S82 c x a0 a1):=fun _ _=>by kernel_rfl
def C82(a0 a1:AV):ai pg 82 [a0,a1]=aH (S82 (ai pg) aj (cl au a0) (cl au a1)):=(ax aE rfl rfl rfl _).trans (H8 aH (E82 (cl au a0) (cl au a1) _ _))
def S84(call:CC)(fx:bP AV)(a0 a1:AV):M AV:=ae (af (ab T 37 (.ip (aa a0)) 0)) fun a=>ae (af (ah T 9 a)) fun b=>ae (af (ab T 37 (.ip (aa a1)) 0)) fun c=>ae (af (ah T 9 c)) fun d=>ae (af (am T .eql 9 b d)) fun e=>ae (aw e true 1 (ae (af (ab T 37 (.ip (aa a0)) 1)) fun f=>ae (af (ah T 35 f)) fun g=>ae (af (ab T 37 (.ip (aa a1)) 1)) fun h=>ae (af (ah T 35 h)) fun i=>ae (call 39 [g,i]) fun j=>M.pure [j])) fun k=>ae (af (aF e (nth k 0) (.bool false))) fun l=>M.pure l
def E84(a0 a1:AV):EE 84 Tryz.f84 CI [a0,a1] (fun c x=>S84 c x a0 a1):=fun _ _=>by kernel_rfl
def C84(a0 a1:AV):ai pg 84 [a0,a1]=aH (S84 (ai pg) aj (cl au a0) (cl au a1)):=(ax aE rfl rfl rfl _).trans (H8 aH (E84 (cl au a0) (cl au a1) _ _))
def S97(call:CC)(fx:bP AV)(a0 a1:AV):M AV:=ae (af (ab T 45 a1 2)) fun a=>ae (af (ah T 22 a)) fun b=>ae (af (ab T 37 (.ip (aa a0)) 0)) fun c=>ae (af (ah T 9 c)) fun d=>ae (call 98 [b,d]) fun e=>ae (af (am T .lss 3 e (.int .i64 0))) fun f=>ae (aw f false 1 (ae (af (ab T 37 (.ip (aa a0)) 1)) fun g=>ae (af (ah T 35 g)) fun h=>ae (af (ab T 45 a1 3)) fun i=>ae (af (ah T 30 i)) fun j=>ae (af (ak T 30 j e)) fun k=>ae (af (ah T 45 k)) fun l=>ae (cy (call 55 [h,l])) fun m=>ae (af (gS UnOp.not m)) fun n=>M.pure [n])) fun o=>ae (af (aF f (.bool true) (nth o 0))) fun p=>M.pure p
def E97(a0 a1:AV):EE 97 Tryz.f97 CM [a0,a1] (fun c x=>S97 c x a0 a1):=fun _ _=>by kernel_rfl
def C97(a0 a1:AV):ai pg 97 [a0,a1]=aH (S97 (ai pg) aj (cl au a0) (cl au a1)):=(ax aE rfl rfl rfl _).trans (H8 aH (E97 (cl au a0) (cl au a1) _ _))
def L99_0(call:CC)(fx:bP AV)(a:RR)(b:List AV):M AV:=ae (af (am T .lss 3 (nth b 4) (nth b 3))) fun c=>az c (ae (af (ak T 23 (nth b 2) (nth b 4))) fun d=>ae (af (ah T 37 d)) fun e=>ae (be 3 e) fun f=>ae (af (ab T 37 (.ip (aa f)) 0)) fun g=>ae (af (ah T 9 g)) fun h=>ae (cy (call 119 [h])) fun i=>ae (af (gS UnOp.not i)) fun j=>ae (aw j false 1 (ae (af (am T .gtr 3 (nth b 4) (.int .i64 0))) fun k=>M.pure [k])) fun l=>ae (aw (nth l 0) true 1 (ae (af (ab T 37 (.ip (aa f)) 0)) fun m=>ae (af (ah T 9 m)) fun n=>ae (af (ab T 35 (nth b 1) 1)) fun o=>ae (af (ah T 23 o)) fun p=>ae (af (am T .sub 3 (nth b 4) (.int .i64 1))) fun q=>ae (af (ak T 23 p q)) fun r=>ae (af (ab T 37 r 0)) fun s=>ae (af (ah T 9 s)) fun u=>ae (af (am T .leq 9 n u)) fun v=>M.pure [v])) fun w=>ae (aw j false 1 (ae (af (aF (nth l 0) (nth w 0) (.bool false))) fun x=>M.pure [x])) fun y=>ae (af (aF j (.bool true) (nth y 0))) fun z=>ae (aw z false 1 (ae (af (ab T 37 (.ip (aa f)) 1)) fun A=>ae (af (ah T 35 A)) fun B=>ae (af (am T .sub 3 (nth b 0) (.int .i64 1))) fun C=>ae (cy (call 99 [B,C])) fun D=>ae (af (gS UnOp.not D)) fun E=>M.pure [E])) fun F=>ae (af (aF z (.bool true) (nth F 0))) fun G=>az G (M.pure (AV.bool false)) (ae (af (am T .add 3 (nth b 4) (.int .i64 1))) fun H=>a [nth b 0,nth b 1,nth b 2,nth b 3,H])) (M.pure (AV.bool true))
def XL99_0{call:CC}:b9 (L99_0 call aj) fun _n=>L99_0 call aj  :=by
 intro a b c d;unfold L99_0;exact (lb fun _=>(aB (by(iterate 13 refine lb fun _=>?_);exact (aB (aI.const _) (lb fun _=>c _))) (aI.const _)))
def FL99_0(call:CC)(vs:List AV):aj (L99_0 call aj) vs=L99_0 call aj  (aj (L99_0 call aj)) vs:=bo (XL99_0) vs
def S99(call:CC)(fx:bP AV)(a0 a1:AV):M AV:=ae (af (am T .eql 3 a1 (.int .i64 0))) fun a=>ae (aw a false 1 (ae (af (ab T 35 (.ip (aa a0)) 0)) fun b=>ae (af (ah T 3 b)) fun c=>ae (af (am T .lss 3 c (.int .i64 0))) fun d=>M.pure [d])) fun e=>ae (af (aF a (.bool true) (nth e 0))) fun f=>ae (aw f false 1 (ae (af (ab T 35 (.ip (aa a0)) 0)) fun g=>ae (af (ah T 3 g)) fun h=>ae (af (am T .geq 3 h (.int .i64 3))) fun i=>M.pure [i])) fun j=>ae (af (aF f (.bool true) (nth j 0))) fun k=>ae (aw k false 1 (ae (af (ab T 35 (.ip (aa a0)) 1)) fun l=>ae (af (ah T 23 l)) fun m=>ae (af (aK T 23 m)) fun n=>ae (af (am T .gtr 3 n (.int .i64 8))) fun o=>M.pure [o])) fun p=>ae (af (aF k (.bool true) (nth p 0))) fun q=>ae (aw q false 1 (ae (af (ab T 35 (.ip (aa a0)) 0)) fun r=>ae (af (ah T 3 r)) fun s=>ae (af (am T .neq 3 s (.int .i64 2))) fun u=>M.pure [u])) fun v=>ae (aw (nth v 0) true 1 (ae (af (ab T 35 (.ip (aa a0)) 1)) fun w=>ae (af (ah T 23 w)) fun x=>ae (af (aK T 23 x)) fun y=>ae (af (am T .gtr 3 y (.int .i64 0))) fun z=>M.pure [z])) fun A=>ae (aw q false 1 (ae (af (aF (nth v 0) (nth A 0) (.bool false))) fun B=>M.pure [B])) fun C=>ae (af (aF q (.bool true) (nth C 0))) fun D=>az D (M.pure (AV.bool false)) (ae (af (ab T 35 (.ip (aa a0)) 1)) fun E=>ae (af (ah T 23 E)) fun F=>ae (af (aK T 23 F)) fun G=>fx (L99_0 call fx) [a1,.ip (aa a0),F,G,.int .i64 0])
def E99(a0 a1:AV):EE 99 Tryz.f99 CO [a0,a1] (fun c x=>S99 c x a0 a1):=fun _ _=>by kernel_rfl
def C99(a0 a1:AV):ai pg 99 [a0,a1]=aH (S99 (ai pg) aj (cl au a0) (cl au a1)):=(ax aE rfl rfl rfl _).trans (H8 aH (E99 (cl au a0) (cl au a1) _ _))
def S129(call:CC)(fx:bP AV)(a0 a1:AV):M AV:=ae (af (ab T 37 (.ip (aa a0)) 0)) fun a=>ae (af (ah T 9 a)) fun b=>ae (af (ab T 37 (.ip (aa a1)) 0)) fun c=>ae (af (ah T 9 c)) fun d=>ae (af (am T .eql 9 b d)) fun e=>ae (aw e true 1 (ae (af (ab T 37 (.ip (aa a0)) 1)) fun f=>ae (af (ah T 35 f)) fun g=>ae (af (ab T 37 (.ip (aa a1)) 1)) fun h=>ae (af (ah T 35 h)) fun i=>ae (call 79 [g,i]) fun j=>M.pure [j])) fun k=>ae (af (aF e (nth k 0) (.bool false))) fun l=>M.pure l
def E129(a0 a1:AV):EE 129 Tryz.f129 xL [a0,a1] (fun c x=>S129 c x a0 a1):=fun _ _=>by kernel_rfl
def C129(a0 a1:AV):ai pg 129 [a0,a1]=aH (S129 (ai pg) aj (cl au a0) (cl au a1)):=(ax aE rfl rfl rfl _).trans (H8 aH (E129 (cl au a0) (cl au a1) _ _))
def S133(call:CC)(fx:bP AV)(a0 a1 a2 a3:AV):M AV:=ae (af (ah T 157 a0)) fun a=>ae (af (ah T 22 a1)) fun b=>ae (af (ah T 30 a2)) fun c=>ae (af (cj T false 168 [(0,.int .i64 (-1)),(1,b),(2,c)])) fun d=>ae (af (ah T 66 a3)) fun e=>ae (call 134 [a,d,e]) fun f=>ae (aD 4 [] f) fun g=>M.pure (AV.agg [nth (aa g) 0,nth (aa g) 1,nth (aa g) 2,nth (aa g) 3])
def E133(a0 a1 a2 a3:AV):EE 133 Tryz.f133 xO [a0,a1,a2,a3] (fun c x=>S133 c x a0 a1 a2 a3):=fun _ _=>by kernel_rfl
def C133(a0 a1 a2 a3:AV):ai pg 133 [a0,a1,a2,a3]=S133 (ai pg) aj a0 a1 a2 a3:=(cP aE rfl rfl rfl _).trans (E133 a0 a1 a2 a3 _ _)
def L173_0(call:CC)(fx:bP AV)(a:RR)(b:List AV):M AV:=ae (af (am T .lss 3 (nth b 4) (nth b 3))) fun c=>az c (ae (af (ak T 24 (nth b 2) (nth b 4))) fun d=>ae (af (ah T 66 d)) fun e=>ae (be 6 e) fun f=>ae (af (ah T 168 (nth b 1))) fun g=>ae (af (ah T 66 (.ip (aa f)))) fun h=>ae (call 134 [nth b 0,g,h]) fun i=>ae (af (aL T 30 1 [(0,i)])) fun j=>ae (af (db T 30 (nth b 12) j)) fun k=>ae (gm k) fun l=>ae (af (am T .add 3 (nth b 4) (.int .i64 1))) fun m=>a [nth b 0,nth b 1,nth b 2,nth b 3,m,nth b 5,nth b 6,nth b 7,nth b 8,nth b 9,nth b 10,nth b 11,k]) (ae (call 220 [.agg [nth b 9,nth b 10,nth b 11,nth b 12]]) fun n=>ae (af (am T .leq 3 n (.int .i64 4))) fun o=>ae (call 166 [o,.int .i64 6]) fun p=>ae (aD 4 [] (.agg [nth b 9,nth b 10,nth b 11,nth b 12])) fun q=>M.pure (AV.agg [nth (aa q) 0,nth (aa q) 1,nth (aa q) 2,nth (aa q) 3]))
def XL173_0{call:CC}:b9 (L173_0 call aj) fun _n=>L173_0 call aj  :=by
 intro a b c d;unfold L173_0;exact (lb fun _=>(aB (by(iterate 10 refine lb fun _=>?_);exact (c _)) (aI.const _)))
def FL173_0(call:CC)(vs:List AV):aj (L173_0 call aj) vs=L173_0 call aj  (aj (L173_0 call aj)) vs:=bo (XL173_0) vs
def S173(call:CC)(fx:bP AV)(a0 a1 a2:AV):M AV:=ae (af (ab T 66 (.ip (aa a2)) 4)) fun a=>ae (af (ah T 22 a)) fun b=>ae (af (aK T 22 b)) fun c=>ae (af (ab T 66 (.ip (aa a2)) 5)) fun d=>ae (af (ah T 24 d)) fun e=>ae (af (aK T 24 e)) fun f=>ae (af (am T .eql 3 c f)) fun g=>ae (aw g true 1 (ae (af (ab T 66 (.ip (aa a2)) 4)) fun h=>ae (af (ah T 22 h)) fun i=>ae (call 135 [i]) fun j=>M.pure [j])) fun k=>ae (af (aF g (nth k 0) (.bool false))) fun l=>ae (call 166 [l,.int .i64 13]) fun m=>ae (af (ab T 66 (.ip (aa a2)) 4)) fun n=>ae (af (ah T 22 n)) fun o=>ae (af (aK T 22 o)) fun p=>ae (af (am T .leq 3 p (.int .i64 8))) fun q=>ae (call 166 [q,.int .i64 6]) fun r=>ae (af (ab T 66 (.ip (aa a2)) 4)) fun s=>ae (af (ah T 22 s)) fun u=>ae (call 219 [u]) fun v=>ae (af (cj T true 45 [(0,.int .i64 2),(2,v)])) fun w=>ae (aD 4 [3] w) fun x=>ae (af (ab T 66 (.ip (aa a2)) 5)) fun y=>ae (af (ah T 24 y)) fun z=>ae (af (aK T 24 z)) fun A=>fx (L173_0 call fx) [a0,.ip (aa a1),z,A,.int .i64 0,.int .i64 0,.int .i64 0,.sl [],.sl [],nth (aa x) 0,nth (aa x) 1,nth (aa x) 2,.sl []]
def E173(a0 a1 a2:AV):EE 173 Tryz.f173 yc [a0,a1,a2] (fun c x=>S173 c x a0 a1 a2):=fun _ _=>by kernel_rfl
def C173(a0 a1 a2:AV):ai pg 173 [a0,a1,a2]=S173 (ai pg) aj a0 a1 a2:=(cP aE rfl rfl rfl _).trans (E173 a0 a1 a2 _ _)
def S207(call:CC)(fx:bP AV)(a0:AV):M AV:=ae (call 205 [a0]) fun a=>ae (aw a false 1 (ae (call 208 [a0]) fun b=>M.pure [b])) fun c=>ae (af (aF a (.bool true) (nth c 0))) fun d=>M.pure d
def E207(a0:AV):EE 207 Tryz.f207 yi [a0] (fun c x=>S207 c x a0):=fun _ _=>by kernel_rfl
def C207(a0:AV):ai pg 207 [a0]=aH (S207 (ai pg) aj (cl au a0)):=(ax aE rfl rfl rfl _).trans (H8 aH (E207 (cl au a0) _ _))
def L212_0(call:CC)(fx:bP AV)(a:RR)(b:List AV):M AV:=ae (af (am T .lss 3 (nth b 3) (nth b 2))) fun c=>az c (ae (af (ak T 25 (nth b 0) (nth b 3))) fun d=>ae (af (ah T 68 d)) fun e=>ae (bW call (nth b 1) [e]) fun f=>az f (M.pure (nth b 3)) (ae (af (am T .add 3 (nth b 3) (.int .i64 1))) fun g=>a [nth b 0,nth b 1,nth b 2,g])) (M.pure (AV.int .i64 (-1)))
def XL212_0{call:CC}:b9 (L212_0 call aj) fun _n=>L212_0 call aj  :=by
 intro a b c d;unfold L212_0;exact (lb fun _=>(aB (lb fun _=>(lb fun _=>(lb fun _=>(aB (aI.const _) (lb fun _=>c _))))) (aI.const _)))
def FL212_0(call:CC)(vs:List AV):aj (L212_0 call aj) vs=L212_0 call aj  (aj (L212_0 call aj)) vs:=bo (XL212_0) vs
def S212(call:CC)(fx:bP AV)(a0 a1:AV):M AV:=ae (af (aK T 25 a0)) fun a=>fx (L212_0 call fx) [a0,a1,a,.int .i64 0]
def E212(a0 a1:AV):EE 212 Tryz.f212 yk [a0,a1] (fun c x=>S212 c x a0 a1):=fun _ _=>by kernel_rfl
def C212(a0 a1:AV):ai pg 212 [a0,a1]=aH (S212 (ai pg) aj (cl au a0) (cl au a1)):=(ax aE rfl rfl rfl _).trans (H8 aH (E212 (cl au a0) (cl au a1) _ _))
def L223_0(call:CC)(fx:bP AV)(a:RR)(b:List AV):M AV:=ae (af (am T .lss 3 (nth b 5) (nth b 4))) fun c=>az c (ae (af (ak T 23 (nth b 3) (nth b 5))) fun d=>ae (af (ah T 37 d)) fun e=>ae (be 3 e) fun f=>ae (af (ab T 37 (.ip (aa f)) 0)) fun g=>ae (af (ah T 9 g)) fun h=>ae (af (ak T 30 (nth b 1) (nth b 5))) fun i=>ae (af (ah T 45 i)) fun j=>ae (cy (call 172 [.agg [nth b 10,nth b 11,nth b 12],h,j])) fun k=>ae (aD 3 [] k) fun l=>ae (af (am T .add 3 (nth b 5) (.int .i64 1))) fun m=>a [nth b 0,nth b 1,nth b 2,nth b 3,nth b 4,m,nth b 6,nth b 7,nth b 8,nth b 9,nth (aa l) 0,nth (aa l) 1,nth (aa l) 2]) (ae (af (bT (nth b 0))) fun n=>ae (af (ab T 164 n 3)) fun o=>ae (bO T 3 o) fun p=>ae (af (am T .add 3 p (.int .i64 1))) fun q=>ae (af (bT (nth b 0))) fun r=>ae (af (ab T 164 r 3)) fun s=>ae (cZ T 3 s q) fun u=>ae (af (ab T 68 (nth b 2) 5)) fun v=>ae (af (ah T 66 v)) fun w=>ae (call 134 [nth b 0,.agg [nth b 10,nth b 11,nth b 12],w]) fun x=>ae (be 4 x) fun y=>ae (af (bT (nth b 0))) fun z=>ae (af (ab T 164 z 3)) fun A=>ae (bO T 3 A) fun B=>ae (af (am T .sub 3 B (.int .i64 1))) fun C=>ae (af (bT (nth b 0))) fun D=>ae (af (ab T 164 D 3)) fun E=>ae (cZ T 3 E C) fun F=>ae (af (ah T 45 (.ip (aa y)))) fun G=>ae (aD 4 [] G) fun H=>M.pure (AV.agg [nth (aa H) 0,nth (aa H) 1,nth (aa H) 2,nth (aa H) 3]))
def K223_0(call:CC)(fx:bP AV)(a:List AV):M AV:=ae (af (cj T false 168 [(0,nth a 1)])) fun b=>ae (aD 3 [] b) fun c=>ae (af (ab T 68 (nth a 3) 2)) fun d=>ae (af (ah T 23 d)) fun e=>ae (af (aK T 23 e)) fun f=>fx (L223_0 call fx) [nth a 0,nth a 2,nth a 3,e,f,.int .i64 0,nth a 4,nth a 5,nth a 6,nth a 7,nth (aa c) 0,nth (aa c) 1,nth (aa c) 2]
def XL223_0{call:CC}:b9 (L223_0 call aj) fun _n=>L223_0 call aj  :=by
 intro a b c d;unfold L223_0;exact (lb fun _=>(aB (by(iterate 10 refine lb fun _=>?_);exact (c _)) (aI.const _)))
def FL223_0(call:CC)(vs:List AV):aj (L223_0 call aj) vs=L223_0 call aj  (aj (L223_0 call aj)) vs:=bo (XL223_0) vs
def S223(call:CC)(fx:bP AV)(a0 a1 a2 a3:AV):M AV:=ae (af (bT a0)) fun a=>ae (af (ab T 164 a 3)) fun b=>ae (bO T 3 b) fun c=>ae (af (am T .lss 3 c (.int .i64 60))) fun d=>ae (call 166 [d,.int .i64 6]) fun e=>jn (K223_0 call fx) fun f=>ae (af (ab T 68 (.ip (aa a2)) 1)) fun g=>ae (af (ah T 4 g)) fun h=>az h (ae (af (bT a0)) fun i=>ae (af (ab T 164 i 4)) fun j=>ae (af (ab T 162 j 3)) fun k=>ae (bO T 160 k) fun l=>ae (af (bT a0)) fun m=>ae (af (ab T 164 m 0)) fun n=>ae (bO T 92 n) fun o=>ae (af (ak T 92 o a1)) fun p=>ae (af (ab T 29 p 0)) fun q=>ae (af (ah T 9 q)) fun r=>ae (af (ab T 68 (.ip (aa a2)) 0)) fun s=>ae (af (ah T 9 s)) fun u=>ae (call 249 [a3]) fun v=>ae (af (cj T false 260 [(0,r),(1,u),(2,v)])) fun w=>ae (af (aL T 160 1 [(0,w)])) fun x=>ae (appH T 160 false l x) fun y=>ae (af (bT a0)) fun z=>ae (af (ab T 164 z 4)) fun A=>ae (af (ab T 162 A 3)) fun B=>ae (cZ T 160 B y) fun C=>f [a0,a1,a3,.ip (aa a2),.int .i64 0,.int .i64 0,.sl [],.sl []]) (f [a0,a1,a3,.ip (aa a2),.int .i64 0,.int .i64 0,.sl [],.sl []])
def E223(a0 a1 a2 a3:AV):EE 223 Tryz.f223 yq [a0,a1,a2,a3] (fun c x=>S223 c x a0 a1 a2 a3):=fun _ _=>by kernel_rfl
def C223(a0 a1 a2 a3:AV):ai pg 223 [a0,a1,a2,a3]=S223 (ai pg) aj a0 a1 a2 a3:=(cP aE rfl rfl rfl _).trans (E223 a0 a1 a2 a3 _ _)
def S13(call:CC)(fx:bP AV)(a0 a1 a2:AV):M AV:=ae (af (ab T 29 (.ip (aa a1)) 2)) fun a=>ae (af (ah T 23 a)) fun b=>ae (call 43 [b,a2]) fun c=>ae (af (gS UnOp.not c)) fun d=>az d (M.pure (AV.tup [.sl [],.int .i64 1])) (ae (af (ab T 29 (.ip (aa a1)) 5)) fun e=>ae (af (ah T 4 e)) fun f=>ae (af (gS UnOp.not f)) fun g=>az g (ae (af (ab T 29 (.ip (aa a1)) 2)) fun h=>ae (af (ah T 23 h)) fun i=>ae (af (ab T 29 (.ip (aa a0)) 2)) fun j=>ae (af (ah T 23 j)) fun k=>ae (call 44 [i,k,a2]) fun l=>ae (af (bi l 0)) fun m=>ae (af (bi l 1)) fun n=>M.pure (AV.tup [m,n])) (ae (af (ah T 29 (.ip (aa a0)))) fun o=>ae (af (ah T 29 (.ip (aa a1)))) fun p=>ae (call 45 [o,p]) fun q=>ae (af (gS UnOp.not q)) fun r=>az r (M.pure (AV.tup [.sl [],.int .i64 27])) (ae (af (ab T 29 (.ip (aa a1)) 2)) fun s=>ae (af (ah T 23 s)) fun u=>ae (af (ab T 29 (.ip (aa a0)) 2)) fun v=>ae (af (ah T 23 v)) fun w=>ae (af (ab T 29 (.ip (aa a1)) 6)) fun x=>ae (af (ab T 27 x 2)) fun y=>ae (af (ah T 24 y)) fun z=>ae (call 46 [u,w,a2,z]) fun A=>ae (af (bi A 0)) fun B=>ae (af (bi A 1)) fun C=>M.pure (AV.tup [B,C]))))
def E13(a0 a1 a2:AV):EE 13 Tryz.f13 Cd [a0,a1,a2] (fun c x=>S13 c x a0 a1 a2):=fun _ _=>by kernel_rfl
def C13(a0 a1 a2:AV):ai pg 13 [a0,a1,a2]=aH (S13 (ai pg) aj (cl au a0) (cl au a1) (cl au a2)):=(ax aE rfl rfl rfl _).trans (H8 aH (E13 (cl au a0) (cl au a1) (cl au a2) _ _))
def S15(call:CC)(fx:bP AV)(a0 a1 a2:AV):M AV:=ae (af (ah T 29 (.ip (aa a0)))) fun a=>ae (af (ah T 29 (.ip (aa a1)))) fun b=>ae (call 12 [a,b,a2]) fun c=>ae (af (bi c 0)) fun d=>ae (af (bi c 1)) fun e=>ae (af (am T .neq 39 e (.int .i64 0))) fun f=>az f (M.pure (AV.bool false)) (ae (af (ah T 29 (.ip (aa a0)))) fun g=>ae (af (ah T 29 (.ip (aa a1)))) fun h=>ae (call 13 [g,h,d]) fun i=>ae (af (bi i 0)) fun j=>ae (af (bi i 1)) fun k=>ae (af (am T .eql 39 k (.int .i64 0))) fun l=>ae (aw l true 1 (ae (call 47 [j,a2,.fn (Fn.func 27) [] []]) fun m=>M.pure [m])) fun n=>ae (af (aF l (nth n 0) (.bool false))) fun o=>M.pure o)
def E15(a0 a1 a2:AV):EE 15 Tryz.f15 Cf [a0,a1,a2] (fun c x=>S15 c x a0 a1 a2):=fun _ _=>by kernel_rfl
def C15(a0 a1 a2:AV):ai pg 15 [a0,a1,a2]=aH (S15 (ai pg) aj (cl au a0) (cl au a1) (cl au a2)):=(ax aE rfl rfl rfl _).trans (H8 aH (E15 (cl au a0) (cl au a1) (cl au a2) _ _))
def S20(call:CC)(fx:bP AV)(a0 a1:AV):M AV:=ae (af (ah T 35 (.ip (aa a0)))) fun a=>ae (call 23 [a]) fun b=>ae (aw b true 1 (ae (af (ah T 45 (.ip (aa a1)))) fun c=>ae (call 49 [c]) fun d=>M.pure [d])) fun e=>ae (af (aF b (nth e 0) (.bool false))) fun f=>ae (aw f true 1 (ae (af (ah T 35 (.ip (aa a0)))) fun g=>ae (af (ah T 45 (.ip (aa a1)))) fun h=>ae (call 55 [g,h]) fun i=>M.pure [i])) fun j=>ae (af (aF f (nth j 0) (.bool false))) fun k=>M.pure k
def E20(a0 a1:AV):EE 20 Tryz.f20 Ch [a0,a1] (fun c x=>S20 c x a0 a1):=fun _ _=>by kernel_rfl
def C20(a0 a1:AV):ai pg 20 [a0,a1]=aH (S20 (ai pg) aj (cl au a0) (cl au a1)):=(ax aE rfl rfl rfl _).trans (H8 aH (E20 (cl au a0) (cl au a1) _ _))
def L46_0(call:CC)(fx:bP AV)(a:RR)(b:List AV):M AV:=ae (af (am T .lss 3 (nth b 6) (nth b 5))) fun c=>az c (ae (af (ak T 23 (nth b 4) (nth b 6))) fun d=>ae (af (ah T 37 d)) fun e=>ae (be 3 e) fun f=>ae (af (ak T 24 (nth b 1) (nth b 6))) fun g=>ae (af (ah T 66 g)) fun h=>ae (call 85 [h,nth b 2,nth b 0]) fun i=>ae (af (bi i 0)) fun j=>ae (af (bi i 1)) fun k=>ae (be 4 j) fun l=>ae (af (am T .neq 39 k (.int .i64 0))) fun m=>az m (M.pure (AV.tup [.sl [],k])) (ae (af (ab T 37 (.ip (aa f)) 1)) fun n=>ae (af (ah T 35 n)) fun o=>ae (af (ah T 45 (.ip (aa l)))) fun p=>ae (call 20 [o,p]) fun q=>ae (af (gS UnOp.not q)) fun r=>az r (M.pure (AV.tup [.sl [],.int .i64 13])) (ae (af (ah T 45 (.ip (aa l)))) fun s=>ae (af (aL T 30 1 [(0,s)])) fun u=>ae (af (db T 30 (nth b 3) u)) fun v=>ae (af (am T .add 3 (nth b 6) (.int .i64 1))) fun w=>a [nth b 0,nth b 1,nth b 2,v,nth b 4,nth b 5,w]))) (M.pure (AV.tup [nth b 3,.int .i64 0]))
def L46_1(call:CC)(fx:bP AV)(a:RR)(b:List AV):M AV:=ae (af (am T .lss 3 (nth b 6) (nth b 5))) fun c=>az c (ae (af (ak T 23 (nth b 4) (nth b 6))) fun d=>ae (af (ah T 37 d)) fun e=>ae (be 3 e) fun f=>ae (af (ab T 37 (.ip (aa f)) 0)) fun g=>ae (af (ah T 9 g)) fun h=>ae (af (aL T 22 1 [(0,h)])) fun i=>ae (af (db T 22 (nth b 3) i)) fun j=>ae (af (am T .add 3 (nth b 6) (.int .i64 1))) fun k=>a [nth b 0,nth b 1,nth b 2,j,nth b 4,nth b 5,k]) (ae (af (aK T 23 (nth b 0))) fun l=>fx (L46_0 call fx) [nth b 1,nth b 2,nth b 3,.sl [],nth b 0,l,.int .i64 0])
def XL46_0{call:CC}:b9 (L46_0 call aj) fun _n=>L46_0 call aj  :=by
 intro a b c d;unfold L46_0;exact (lb fun _=>(aB (by(iterate 10 refine lb fun _=>?_);exact (aB (aI.const _) (by(iterate 5 refine lb fun _=>?_);exact (aB (aI.const _) (lb fun _=>(lb fun _=>(lb fun _=>(lb fun _=>c _)))))))) (aI.const _)))
def FL46_0(call:CC)(vs:List AV):aj (L46_0 call aj) vs=L46_0 call aj  (aj (L46_0 call aj)) vs:=bo (XL46_0) vs
def XL46_1{call:CC}:b9 (L46_1 call aj) fun _n=>L46_1 call aj  :=by
 intro a b c d;unfold L46_1;exact (lb fun _=>(aB (by(iterate 8 refine lb fun _=>?_);exact (c _)) (aI.const _)))
def FL46_1(call:CC)(vs:List AV):aj (L46_1 call aj) vs=L46_1 call aj  (aj (L46_1 call aj)) vs:=bo (XL46_1) vs
def S46(call:CC)(fx:bP AV)(a0 a1 a2 a3:AV):M AV:=ae (af (aK T 23 a0)) fun a=>fx (L46_1 call fx) [a1,a2,a3,.sl [],a0,a,.int .i64 0]
def E46(a0 a1 a2 a3:AV):EE 46 Tryz.f46 Cs [a0,a1,a2,a3] (fun c x=>S46 c x a0 a1 a2 a3):=fun _ _=>by kernel_rfl
def C46(a0 a1 a2 a3:AV):ai pg 46 [a0,a1,a2,a3]=aH (S46 (ai pg) aj (cl au a0) (cl au a1) (cl au a2) (cl au a3)):=(ax aE rfl rfl rfl _).trans (H8 aH (E46 (cl au a0) (cl au a1) (cl au a2) (cl au a3) _ _))
def S55(call:CC)(fx:bP AV)(a0 a1:AV):M AV:=ae (af (ab T 35 (.ip (aa a0)) 0)) fun a=>ae (af (ah T 3 a)) fun b=>ae (af (ab T 45 (.ip (aa a1)) 0)) fun c=>ae (af (ah T 3 c)) fun d=>ae (af (am T .eql 3 b d)) fun e=>ae (aw e true 1 (ae (af (ab T 35 (.ip (aa a0)) 1)) fun f=>ae (af (ah T 23 f)) fun g=>ae (call 96 [g,.fn (Fn.func 97) [] [.ip (aa a1)]]) fun h=>ae (af (gS UnOp.not h)) fun i=>M.pure [i])) fun j=>ae (af (aF e (nth j 0) (.bool false))) fun k=>M.pure k
def E55(a0 a1:AV):EE 55 Tryz.f55 Cw [a0,a1] (fun c x=>S55 c x a0 a1):=fun _ _=>by kernel_rfl
def C55(a0 a1:AV):ai pg 55 [a0,a1]=aH (S55 (ai pg) aj (cl au a0) (cl au a1)):=(ax aE rfl rfl rfl _).trans (H8 aH (E55 (cl au a0) (cl au a1) _ _))
def S79(call:CC)(fx:bP AV)(a0 a1:AV):M AV:=ae (af (ab T 35 (.ip (aa a0)) 0)) fun a=>ae (af (ah T 3 a)) fun b=>ae (af (ab T 35 (.ip (aa a1)) 0)) fun c=>ae (af (ah T 3 c)) fun d=>ae (af (am T .eql 3 b d)) fun e=>ae (aw e true 1 (ae (af (ab T 35 (.ip (aa a0)) 1)) fun f=>ae (af (ah T 23 f)) fun g=>ae (af (ab T 35 (.ip (aa a1)) 1)) fun h=>ae (af (ah T 23 h)) fun i=>ae (call 83 [g,i,.fn (Fn.func 129) [] []]) fun j=>M.pure [j])) fun k=>ae (af (aF e (nth k 0) (.bool false))) fun l=>M.pure l
def E79(a0 a1:AV):EE 79 Tryz.f79 CB [a0,a1] (fun c x=>S79 c x a0 a1):=fun _ _=>by kernel_rfl
def C79(a0 a1:AV):ai pg 79 [a0,a1]=aH (S79 (ai pg) aj (cl au a0) (cl au a1)):=(ax aE rfl rfl rfl _).trans (H8 aH (E79 (cl au a0) (cl au a1) _ _))
def S85(call:CC)(fx:bP AV)(a0 a1 a2:AV):M AV:=ae (af (ah T 22 (.ip (aa a1)))) fun a=>ae (af (aK T 22 a)) fun b=>ae (af (ah T 30 (.ip (aa a2)))) fun c=>ae (af (aK T 30 c)) fun d=>ae (af (am T .neq 3 b d)) fun e=>ae (aw e false 1 (ae (af (ah T 30 (.ip (aa a2)))) fun f=>ae (call 130 [f,.fn (Fn.func 131) [] []]) fun g=>M.pure [g])) fun h=>ae (af (aF e (.bool true) (nth h 0))) fun i=>az i (ae (af (cj T false 45 [])) fun j=>ae (aD 4 [] j) fun k=>M.pure (AV.tup [.agg [nth (aa k) 0,nth (aa k) 1,nth (aa k) 2,nth (aa k) 3],.int .i64 1])) (ae (af (cj T true 164 [(2,.int .i64 100000)])) fun l=>ae (newH (aa l)) fun m=>ae (be 1 m) fun n=>ae (call 132 [.fn (Fn.func 133) [] [.ip (aa n),.ip (aa a1),.ip (aa a2),.ip (aa a0)]]) fun o=>ae (af (bi o 0)) fun p=>ae (af (bi o 1)) fun q=>ae (aD 4 [] p) fun r=>M.pure (AV.tup [.agg [nth (aa r) 0,nth (aa r) 1,nth (aa r) 2,nth (aa r) 3],q]))
def E85(a0 a1 a2:AV):EE 85 Tryz.f85 CJ [a0,a1,a2] (fun c x=>S85 c x a0 a1 a2):=fun _ _=>by kernel_rfl
def C85(a0 a1 a2:AV):ai pg 85 [a0,a1,a2]=aH (S85 (ai pg) aj (cl au a0) (cl au a1) (cl au a2)):=(ax aE rfl rfl rfl _).trans (H8 aH (E85 (cl au a0) (cl au a1) (cl au a2) _ _))
def S96(call:CC)(fx:bP AV)(a0 a1:AV):M AV:=ae (call 81 [a0,a1]) fun a=>ae (af (am T .geq 3 a (.int .i64 0))) fun b=>M.pure b
def E96(a0 a1:AV):EE 96 Tryz.f96 CL [a0,a1] (fun c x=>S96 c x a0 a1):=fun _ _=>by kernel_rfl
def C96(a0 a1:AV):ai pg 96 [a0,a1]=aH (S96 (ai pg) aj (cl au a0) (cl au a1)):=(ax aE rfl rfl rfl _).trans (H8 aH (E96 (cl au a0) (cl au a1) _ _))
def S119(call:CC)(fx:bP AV)(a0:AV):M AV:=ae (call 158 [a0]) fun a=>ae (aw a true 1 (ae (af (am T .add 9 (.str [32]) a0)) fun b=>ae (af (am T .add 9 b (.str [32]))) fun c=>ae (call 159 [.str [32,97,110,100,32,98,97,99,107,32,98,111,111,108,32,99,108,111,99,107,32,101,108,115,101,32,102,97,108,115,101,32,102,105,108,101,115,32,102,110,32,102,111,114,119,97,114,100,32,103,101,116,32,105,102,32,105,110,32,105,110,116,32,108,101,116,32,109,111,100,117,108,101,32,109,111,118,101,32,110,101,116,32,110,111,116,32,111,114,32,112,117,98,32,115,101,99,114,101,116,115,32,115,101,116,32,116,104,101,110,32,116,114,117,101,32,117,115,101,32,118,97,114,32],c]) fun d=>ae (af (gS UnOp.not d)) fun e=>M.pure [e])) fun f=>ae (af (aF a (nth f 0) (.bool false))) fun g=>M.pure g
def E119(a0:AV):EE 119 Tryz.f119 xK [a0] (fun c x=>S119 c x a0):=fun _ _=>by kernel_rfl
def C119(a0:AV):ai pg 119 [a0]=aH (S119 (ai pg) aj (cl au a0)):=(ax aE rfl rfl rfl _).trans (H8 aH (E119 (cl au a0) _ _))
def S131(call:CC)(fx:bP AV)(a0:AV):M AV:=ae (af (ah T 45 (.ip (aa a0)))) fun a=>ae (call 49 [a]) fun b=>ae (af (gS UnOp.not b)) fun c=>M.pure c
def E131(a0:AV):EE 131 Tryz.f131 xN [a0] (fun c x=>S131 c x a0):=fun _ _=>by kernel_rfl
def C131(a0:AV):ai pg 131 [a0]=aH (S131 (ai pg) aj (cl au a0)):=(ax aE rfl rfl rfl _).trans (H8 aH (E131 (cl au a0) _ _))
def K134_0(call:CC)(fx:bP AV)(a:List AV):M AV:=ae (af (ah T 168 (nth a 1))) fun b=>ae (af (ah T 66 (nth a 2))) fun c=>ae (call 175 [nth a 0,b,c]) fun d=>ae (aD 4 [] d) fun e=>M.pure (AV.agg [nth (aa e) 0,nth (aa e) 1,nth (aa e) 2,nth (aa e) 3])
def L134_0(call:CC)(fx:bP AV)(a:RR)(b:RR)(c:List AV):M AV:=ae (af (am T .geq 3 (nth c 3) (.int .i64 0))) fun d=>az d (ae (af (ab T 168 (nth c 1) 1)) fun e=>ae (af (ah T 22 e)) fun f=>ae (af (ak T 22 f (nth c 3))) fun g=>ae (af (ah T 9 g)) fun h=>ae (af (ab T 66 (nth c 2) 2)) fun i=>ae (af (ah T 9 i)) fun j=>ae (af (am T .eql 9 h j)) fun k=>az k (ae (af (ab T 168 (nth c 1) 2)) fun l=>ae (af (ah T 30 l)) fun m=>ae (af (ak T 30 m (nth c 3))) fun n=>ae (af (ah T 45 n)) fun o=>ae (aD 4 [] o) fun p=>M.pure (AV.agg [nth (aa p) 0,nth (aa p) 1,nth (aa p) 2,nth (aa p) 3])) (ae (af (am T .sub 3 (nth c 3) (.int .i64 1))) fun q=>b [nth c 0,nth c 1,nth c 2,q,nth c 4,nth c 5,nth c 6,nth c 7])) (ae (af (gL T 39 (.int .i64 12))) fun r=>ae (BM r) fun s=>a [nth c 0,nth c 1,nth c 2,nth c 4,nth c 5,nth c 6,nth c 7])
def K134_1(call:CC)(fx:bP AV)(a:RR)(b:List AV):M AV:=az (nth b 4) (ae (af (ah T 168 (nth b 1))) fun c=>ae (af (ab T 66 (nth b 2) 5)) fun d=>ae (af (ah T 24 d)) fun e=>ae (af (ak T 24 e (.int .i64 0))) fun f=>ae (af (ah T 66 f)) fun g=>ae (af (ab T 66 (nth b 2) 0)) fun h=>ae (af (ah T 3 h)) fun i=>ae (af (am T .eql 3 i (.int .i64 9))) fun j=>ae (call 171 [nth b 0,c,g]) fun k=>ae (af (am T .eql 4 k j)) fun l=>az l (ae (af (ab T 66 (nth b 2) 0)) fun m=>ae (af (ah T 3 m)) fun n=>ae (af (am T .eql 3 n (.int .i64 9))) fun o=>ae (call 169 [o]) fun p=>ae (aD 4 [] p) fun q=>M.pure (AV.agg [nth (aa q) 0,nth (aa q) 1,nth (aa q) 2,nth (aa q) 3])) (ae (af (ah T 168 (nth b 1))) fun r=>ae (af (ab T 66 (nth b 2) 5)) fun s=>ae (af (ah T 24 s)) fun u=>ae (af (ak T 24 u (.int .i64 1))) fun v=>ae (af (ah T 66 v)) fun w=>ae (call 171 [nth b 0,r,w]) fun x=>ae (cy (call 169 [x])) fun y=>ae (aD 4 [] y) fun z=>M.pure (AV.agg [nth (aa z) 0,nth (aa z) 1,nth (aa z) 2,nth (aa z) 3]))) (ae (af (am T .eql 3 (nth b 3) (.int .i64 10))) fun A=>az A (ae (af (ah T 168 (nth b 1))) fun B=>ae (af (ab T 66 (nth b 2) 5)) fun C=>ae (af (ah T 24 C)) fun D=>ae (af (ak T 24 D (.int .i64 0))) fun E=>ae (af (ah T 66 E)) fun F=>ae (call 171 [nth b 0,B,F]) fun G=>ae (af (gS UnOp.not G)) fun H=>ae (cy (call 169 [H])) fun I=>ae (aD 4 [] I) fun J=>M.pure (AV.agg [nth (aa J) 0,nth (aa J) 1,nth (aa J) 2,nth (aa J) 3])) (ae (af (am T .eql 3 (nth b 3) (.int .i64 11))) fun K=>az K (ae (af (ah T 168 (nth b 1))) fun L=>ae (af (ab T 66 (nth b 2) 5)) fun N=>ae (af (ah T 24 N)) fun O=>ae (af (ak T 24 O (.int .i64 0))) fun P=>ae (af (ah T 66 P)) fun Q=>ae (call 171 [nth b 0,L,Q]) fun R=>az R (ae (af (ah T 168 (nth b 1))) fun S=>ae (af (ab T 66 (nth b 2) 5)) fun U=>ae (af (ah T 24 U)) fun V=>ae (af (ak T 24 V (.int .i64 1))) fun W=>ae (af (ah T 66 W)) fun X=>ae (call 134 [nth b 0,S,X]) fun Y=>ae (aD 4 [] Y) fun Z=>M.pure (AV.agg [nth (aa Z) 0,nth (aa Z) 1,nth (aa Z) 2,nth (aa Z) 3])) (ae (af (ah T 168 (nth b 1))) fun u0=>ae (af (ab T 66 (nth b 2) 5)) fun u1=>ae (af (ah T 24 u1)) fun u2=>ae (af (ak T 24 u2 (.int .i64 2))) fun u3=>ae (af (ah T 66 u3)) fun u4=>ae (call 134 [nth b 0,u0,u4]) fun u5=>ae (aD 4 [] u5) fun u6=>M.pure (AV.agg [nth (aa u6) 0,nth (aa u6) 1,nth (aa u6) 2,nth (aa u6) 3]))) (ae (af (am T .eql 3 (nth b 3) (.int .i64 12))) fun u7=>az u7 (ae (af (ah T 168 (nth b 1))) fun u8=>ae (af (ab T 66 (nth b 2) 2)) fun u9=>ae (af (ah T 9 u9)) fun v0=>ae (af (ah T 168 (nth b 1))) fun v1=>ae (af (ab T 66 (nth b 2) 5)) fun v2=>ae (af (ah T 24 v2)) fun v3=>ae (af (ak T 24 v3 (.int .i64 0))) fun v4=>ae (af (ah T 66 v4)) fun v5=>ae (af (ab T 66 (nth b 2) 5)) fun v6=>ae (af (ah T 24 v6)) fun v7=>ae (af (ak T 24 v7 (.int .i64 1))) fun v8=>ae (af (ah T 66 v8)) fun v9=>ae (call 134 [nth b 0,v1,v5]) fun w0=>ae (cy (call 172 [u8,v0,w0])) fun w1=>ae (call 134 [nth b 0,w1,v9]) fun w2=>ae (aD 4 [] w2) fun w3=>M.pure (AV.agg [nth (aa w3) 0,nth (aa w3) 1,nth (aa w3) 2,nth (aa w3) 3])) (ae (af (am T .eql 3 (nth b 3) (.int .i64 13))) fun w4=>az w4 (ae (af (ah T 168 (nth b 1))) fun w5=>ae (af (ah T 66 (nth b 2))) fun w6=>ae (call 173 [nth b 0,w5,w6]) fun w7=>ae (aD 4 [] w7) fun w8=>M.pure (AV.agg [nth (aa w8) 0,nth (aa w8) 1,nth (aa w8) 2,nth (aa w8) 3])) (ae (af (am T .eql 3 (nth b 3) (.int .i64 14))) fun w9=>az w9 (ae (af (ah T 168 (nth b 1))) fun x0=>ae (af (ab T 66 (nth b 2) 5)) fun x1=>ae (af (ah T 24 x1)) fun x2=>ae (af (ak T 24 x2 (.int .i64 0))) fun x3=>ae (af (ah T 66 x3)) fun x4=>ae (call 134 [nth b 0,x0,x4]) fun x5=>ae (be 4 x5) fun x6=>ae (af (ab T 45 (.ip (aa x6)) 2)) fun x7=>ae (af (ah T 22 x7)) fun x8=>ae (af (ab T 66 (nth b 2) 2)) fun x9=>ae (af (ah T 9 x9)) fun y0=>ae (call 98 [x8,y0]) fun y1=>ae (af (ab T 45 (.ip (aa x6)) 0)) fun y2=>ae (af (ah T 3 y2)) fun y3=>ae (af (am T .eql 3 y3 (.int .i64 2))) fun y4=>ae (aw y4 true 1 (ae (af (am T .geq 3 y1 (.int .i64 0))) fun y5=>M.pure [y5])) fun y6=>ae (af (aF y4 (nth y6 0) (.bool false))) fun y7=>ae (call 166 [y7,.int .i64 13]) fun y8=>ae (af (ab T 45 (.ip (aa x6)) 3)) fun y9=>ae (af (ah T 30 y9)) fun z0=>ae (af (ak T 30 z0 y1)) fun z1=>ae (af (ah T 45 z1)) fun z2=>ae (aD 4 [] z2) fun z3=>M.pure (AV.agg [nth (aa z3) 0,nth (aa z3) 1,nth (aa z3) 2,nth (aa z3) 3])) (ae (af (am T .eql 3 (nth b 3) (.int .i64 15))) fun z4=>az z4 (ae (af (ah T 168 (nth b 1))) fun z5=>ae (af (ah T 66 (nth b 2))) fun z6=>ae (call 174 [nth b 0,z5,z6]) fun z7=>ae (aD 4 [] z7) fun z8=>M.pure (AV.agg [nth (aa z8) 0,nth (aa z8) 1,nth (aa z8) 2,nth (aa z8) 3])) (a [nth b 0,nth b 1,nth b 2,nth b 5,nth b 6,nth b 7,nth b 8])))))))
def K134_2(call:CC)(fx:bP AV)(a:RR)(b:List AV):M AV:=az (nth b 4) (ae (af (ab T 66 (nth b 2) 0)) fun c=>ae (af (ah T 3 c)) fun d=>ae (af (ah T 168 (nth b 1))) fun e=>ae (af (ab T 66 (nth b 2) 5)) fun f=>ae (af (ah T 24 f)) fun g=>ae (af (ak T 24 g (.int .i64 0))) fun h=>ae (af (ah T 66 h)) fun i=>ae (af (ah T 168 (nth b 1))) fun j=>ae (af (ab T 66 (nth b 2) 5)) fun k=>ae (af (ah T 24 k)) fun l=>ae (af (ak T 24 l (.int .i64 1))) fun m=>ae (af (ah T 66 m)) fun n=>ae (call 134 [nth b 0,e,i]) fun o=>ae (call 134 [nth b 0,j,n]) fun p=>ae (call 170 [d,o,p]) fun q=>ae (aD 4 [] q) fun r=>M.pure (AV.agg [nth (aa r) 0,nth (aa r) 1,nth (aa r) 2,nth (aa r) 3])) (jn (K134_1 call fx a) fun s=>ae (af (am T .eql 3 (nth b 3) (.int .i64 8))) fun u=>az u (s [nth b 0,nth b 1,nth b 2,nth b 3,u,nth b 5,nth b 6,nth b 7,nth b 8]) (ae (af (am T .eql 3 (nth b 3) (.int .i64 9))) fun v=>s [nth b 0,nth b 1,nth b 2,nth b 3,v,nth b 5,nth b 6,nth b 7,nth b 8]))
def XL134_0{call:CC}{a:RR}{b:Nat->RR}(c:bz a fun n=>b n):b9 (L134_0 call aj a) fun n=>L134_0 call aj (b n):=by
 intro d e f g;unfold L134_0;exact (lb fun _=>(aB (by(iterate 7 refine lb fun _=>?_);exact (aB (aI.const _) (lb fun _=>f _))) (lb fun _=>(lb fun _=>c _))))
def FL134_0(call:CC)(a:RR)(vs:List AV):aj (L134_0 call aj a) vs=L134_0 call aj a (aj (L134_0 call aj a)) vs:=bo (XL134_0 (bz.const _)) vs
def S134(call:CC)(fx:bP AV)(a0 a1 a2:AV):M AV:=ae (af (bT a0)) fun a=>ae (af (ab T 164 a 2)) fun b=>ae (bO T 3 b) fun c=>ae (af (am T .gtr 3 c (.int .i64 0))) fun d=>ae (call 166 [d,.int .i64 16]) fun e=>ae (af (bT a0)) fun f=>ae (af (ab T 164 f 2)) fun g=>ae (bO T 3 g) fun h=>ae (af (am T .sub 3 h (.int .i64 1))) fun i=>ae (af (bT a0)) fun j=>ae (af (ab T 164 j 2)) fun k=>ae (cZ T 3 k i) fun l=>ae (af (ab T 66 (.ip (aa a2)) 0)) fun m=>ae (af (ah T 3 m)) fun n=>ae (call 167 [n]) fun o=>ae (af (am T .neq 3 o (.int .i64 (-2)))) fun p=>ae (aw p true 1 (ae (af (am T .eql 3 o (.int .i64 (-1)))) fun q=>M.pure [q])) fun r=>ae (aw (nth r 0) false 1 (ae (af (ab T 66 (.ip (aa a2)) 5)) fun s=>ae (af (ah T 24 s)) fun u=>ae (af (aK T 24 u)) fun v=>ae (af (am T .eql 3 o v)) fun w=>M.pure [w])) fun x=>ae (aw p true 1 (ae (af (aF (nth r 0) (.bool true) (nth x 0))) fun y=>M.pure [y])) fun z=>ae (af (aF p (nth z 0) (.bool false))) fun A=>ae (call 166 [A,.int .i64 13]) fun B=>jn (K134_0 call fx) fun C=>ae (af (ab T 66 (.ip (aa a2)) 0)) fun D=>ae (af (ah T 3 D)) fun E=>ae (af (am T .eql 3 E (.int .i64 0))) fun F=>az F (ae (af (ab T 66 (.ip (aa a2)) 1)) fun G=>ae (af (ah T 3 G)) fun H=>ae (call 168 [H]) fun I=>ae (aD 4 [] I) fun J=>M.pure (AV.agg [nth (aa J) 0,nth (aa J) 1,nth (aa J) 2,nth (aa J) 3])) (ae (af (am T .eql 3 E (.int .i64 1))) fun K=>az K (ae (af (ab T 66 (.ip (aa a2)) 1)) fun L=>ae (af (ah T 3 L)) fun N=>ae (af (am T .eql 3 N (.int .i64 0))) fun O=>ae (aw O false 1 (ae (af (ab T 66 (.ip (aa a2)) 1)) fun P=>ae (af (ah T 3 P)) fun Q=>ae (af (am T .eql 3 Q (.int .i64 1))) fun R=>M.pure [R])) fun S=>ae (af (aF O (.bool true) (nth S 0))) fun U=>ae (call 166 [U,.int .i64 13]) fun V=>ae (af (ab T 66 (.ip (aa a2)) 1)) fun W=>ae (af (ah T 3 W)) fun X=>ae (af (am T .eql 3 X (.int .i64 1))) fun Y=>ae (call 169 [Y]) fun Z=>ae (aD 4 [] Z) fun u0=>M.pure (AV.agg [nth (aa u0) 0,nth (aa u0) 1,nth (aa u0) 2,nth (aa u0) 3])) (ae (af (am T .eql 3 E (.int .i64 2))) fun u1=>az u1 (ae (af (ab T 168 (.ip (aa a1)) 1)) fun u2=>ae (af (ah T 22 u2)) fun u3=>ae (af (aK T 22 u3)) fun u4=>ae (af (am T .sub 3 u4 (.int .i64 1))) fun u5=>fx (L134_0 call fx C) [a0,.ip (aa a1),.ip (aa a2),u5,.int .i64 0,.int .i64 0,.sl [],.sl []]) (jn (K134_2 call fx C) fun u6=>ae (af (am T .eql 3 E (.int .i64 3))) fun u7=>az u7 (u6 [a0,.ip (aa a1),.ip (aa a2),E,u7,.int .i64 0,.int .i64 0,.sl [],.sl []]) (ae (af (am T .eql 3 E (.int .i64 4))) fun u8=>az u8 (u6 [a0,.ip (aa a1),.ip (aa a2),E,u8,.int .i64 0,.int .i64 0,.sl [],.sl []]) (ae (af (am T .eql 3 E (.int .i64 5))) fun u9=>az u9 (u6 [a0,.ip (aa a1),.ip (aa a2),E,u9,.int .i64 0,.int .i64 0,.sl [],.sl []]) (ae (af (am T .eql 3 E (.int .i64 6))) fun w0=>az w0 (u6 [a0,.ip (aa a1),.ip (aa a2),E,w0,.int .i64 0,.int .i64 0,.sl [],.sl []]) (ae (af (am T .eql 3 E (.int .i64 7))) fun w1=>u6 [a0,.ip (aa a1),.ip (aa a2),E,w1,.int .i64 0,.int .i64 0,.sl [],.sl []])))))))
def E134(a0 a1 a2:AV):EE 134 Tryz.f134 xP [a0,a1,a2] (fun c x=>S134 c x a0 a1 a2):=fun _ _=>by kernel_rfl
def C134(a0 a1 a2:AV):ai pg 134 [a0,a1,a2]=S134 (ai pg) aj a0 a1 a2:=(cP aE rfl rfl rfl _).trans (E134 a0 a1 a2 _ _)
def S136(call:CC)(fx:bP AV)(a0 a1:AV):M AV:=ae (af (ah T 45 (.ip (aa a0)))) fun a=>ae (af (ah T 3 a1)) fun b=>ae (af (am T .sub 3 b (.int .i64 1))) fun c=>ae (call 86 [a,c]) fun d=>ae (af (gS UnOp.not d)) fun e=>M.pure e
def E136(a0 a1:AV):EE 136 Tryz.f136 xR [a0,a1] (fun c x=>S136 c x a0 a1):=fun _ _=>by kernel_rfl
def C136(a0 a1:AV):ai pg 136 [a0,a1]=aH (S136 (ai pg) aj (cl au a0) (cl au a1)):=(ax aE rfl rfl rfl _).trans (H8 aH (E136 (cl au a0) (cl au a1) _ _))
def S158(call:CC)(fx:bP AV)(a0:AV):M AV:=ae (af (am T .eql 9 a0 (.str []))) fun a=>ae (aw a false 1 (ae (af (eJ T 9 a0 (.int .i64 0))) fun b=>ae (call 205 [b]) fun c=>ae (af (gS UnOp.not c)) fun d=>M.pure [d])) fun e=>ae (af (aF a (.bool true) (nth e 0))) fun f=>ae (aw f false 1 (ae (af (aK T 9 a0)) fun g=>ae (af (am T .gtr 3 g (.int .i64 20))) fun h=>M.pure [h])) fun i=>ae (af (aF f (.bool true) (nth i 0))) fun j=>az j (M.pure (AV.bool false)) (ae (call 206 [a0,.fn (Fn.func 207) [] []]) fun k=>ae (af (aK T 9 a0)) fun l=>ae (af (am T .eql 3 k l)) fun m=>M.pure m)
def E158(a0:AV):EE 158 Tryz.f158 xT [a0] (fun c x=>S158 c x a0):=fun _ _=>by kernel_rfl
def C158(a0:AV):ai pg 158 [a0]=aH (S158 (ai pg) aj (cl au a0)):=(ax aE rfl rfl rfl _).trans (H8 aH (E158 (cl au a0) _ _))
def K167_0(call:CC)(fx:bP AV)(a:List AV):M AV:=az (nth a 0) (M.pure (AV.int .i64 (-1))) (M.pure (AV.int .i64 (-2)))
def K167_1(call:CC)(fx:bP AV)(a:List AV):M AV:=az (nth a 1) (M.pure (AV.int .i64 2)) (ae (af (am T .eql 3 (nth a 0) (.int .i64 11))) fun b=>az b (M.pure (AV.int .i64 3)) (jn (K167_0 call fx) fun c=>ae (af (am T .eql 3 (nth a 0) (.int .i64 13))) fun d=>az d (c [d]) (ae (af (am T .eql 3 (nth a 0) (.int .i64 15))) fun e=>c [e])))
def K167_2(call:CC)(fx:bP AV)(a:List AV):M AV:=az (nth a 1) (M.pure (AV.int .i64 1)) (jn (K167_1 call fx) fun b=>ae (af (am T .eql 3 (nth a 0) (.int .i64 3))) fun c=>az c (b [nth a 0,c]) (ae (af (am T .eql 3 (nth a 0) (.int .i64 4))) fun d=>az d (b [nth a 0,d]) (ae (af (am T .eql 3 (nth a 0) (.int .i64 5))) fun e=>az e (b [nth a 0,e]) (ae (af (am T .eql 3 (nth a 0) (.int .i64 6))) fun f=>az f (b [nth a 0,f]) (ae (af (am T .eql 3 (nth a 0) (.int .i64 7))) fun g=>az g (b [nth a 0,g]) (ae (af (am T .eql 3 (nth a 0) (.int .i64 8))) fun h=>az h (b [nth a 0,h]) (ae (af (am T .eql 3 (nth a 0) (.int .i64 9))) fun i=>az i (b [nth a 0,i]) (ae (af (am T .eql 3 (nth a 0) (.int .i64 12))) fun j=>b [nth a 0,j]))))))))
def K167_3(call:CC)(fx:bP AV)(a:List AV):M AV:=az (nth a 1) (M.pure (AV.int .i64 0)) (jn (K167_2 call fx) fun b=>ae (af (am T .eql 3 (nth a 0) (.int .i64 10))) fun c=>az c (b [nth a 0,c]) (ae (af (am T .eql 3 (nth a 0) (.int .i64 14))) fun d=>az d (b [nth a 0,d]) (ae (af (am T .eql 3 (nth a 0) (.int .i64 16))) fun e=>az e (b [nth a 0,e]) (ae (af (am T .eql 3 (nth a 0) (.int .i64 18))) fun f=>b [nth a 0,f]))))
def S167(call:CC)(fx:bP AV)(a0:AV):M AV:=jn (K167_3 call fx) fun a=>ae (af (am T .eql 3 a0 (.int .i64 0))) fun b=>az b (a [a0,b]) (ae (af (am T .eql 3 a0 (.int .i64 1))) fun c=>az c (a [a0,c]) (ae (af (am T .eql 3 a0 (.int .i64 2))) fun d=>az d (a [a0,d]) (ae (af (am T .eql 3 a0 (.int .i64 17))) fun e=>a [a0,e])))
def E167(a0:AV):EE 167 Tryz.f167 xW [a0] (fun c x=>S167 c x a0):=fun _ _=>by kernel_rfl
def C167(a0:AV):ai pg 167 [a0]=aH (S167 (ai pg) aj (cl au a0)):=(ax aE rfl rfl rfl _).trans (H8 aH (E167 (cl au a0) _ _))
def S169(call:CC)(fx:bP AV)(a0:AV):M AV:=az a0 (ae (af (cj T false 45 [(0,.int .i64 1),(1,.int .i64 1)])) fun a=>ae (aD 4 [] a) fun b=>M.pure (AV.agg [nth (aa b) 0,nth (aa b) 1,nth (aa b) 2,nth (aa b) 3])) (ae (af (cj T false 45 [(0,.int .i64 1)])) fun c=>ae (aD 4 [] c) fun d=>M.pure (AV.agg [nth (aa d) 0,nth (aa d) 1,nth (aa d) 2,nth (aa d) 3]))
def E169(a0:AV):EE 169 Tryz.f169 xY [a0] (fun c x=>S169 c x a0):=fun _ _=>by kernel_rfl
def C169(a0:AV):ai pg 169 [a0]=aH (S169 (ai pg) aj (cl au a0)):=(ax aE rfl rfl rfl _).trans (H8 aH (E169 (cl au a0) _ _))
def L193_0(call:CC)(fx:bP AV)(a:RR)(b:List AV):M AV:=ae (af (am T .lss 3 (nth b 3) (nth b 2))) fun c=>az c (ae (af (ak T 92 (nth b 0) (nth b 3))) fun d=>ae (af (ah T 29 d)) fun e=>ae (bW call (nth b 1) [e]) fun f=>az f (M.pure (nth b 3)) (ae (af (am T .add 3 (nth b 3) (.int .i64 1))) fun g=>a [nth b 0,nth b 1,nth b 2,g])) (M.pure (AV.int .i64 (-1)))
def XL193_0{call:CC}:b9 (L193_0 call aj) fun _n=>L193_0 call aj  :=by
 intro a b c d;unfold L193_0;exact (lb fun _=>(aB (lb fun _=>(lb fun _=>(lb fun _=>(aB (aI.const _) (lb fun _=>c _))))) (aI.const _)))
def FL193_0(call:CC)(vs:List AV):aj (L193_0 call aj) vs=L193_0 call aj  (aj (L193_0 call aj)) vs:=bo (XL193_0) vs
def S193(call:CC)(fx:bP AV)(a0 a1:AV):M AV:=ae (af (aK T 92 a0)) fun a=>fx (L193_0 call fx) [a0,a1,a,.int .i64 0]
def E193(a0 a1:AV):EE 193 Tryz.f193 yf [a0,a1] (fun c x=>S193 c x a0 a1):=fun _ _=>by kernel_rfl
def C193(a0 a1:AV):ai pg 193 [a0,a1]=aH (S193 (ai pg) aj (cl au a0) (cl au a1)):=(ax aE rfl rfl rfl _).trans (H8 aH (E193 (cl au a0) (cl au a1) _ _))
def S205(call:CC)(fx:bP AV)(a0:AV):M AV:=ae (af (am T .geq 5 a0 (.int .u8 97))) fun a=>ae (aw a true 1 (ae (af (am T .leq 5 a0 (.int .u8 122))) fun b=>M.pure [b])) fun c=>ae (af (aF a (nth c 0) (.bool false))) fun d=>M.pure d
def E205(a0:AV):EE 205 Tryz.f205 yg [a0] (fun c x=>S205 c x a0):=fun _ _=>by kernel_rfl
def C205(a0:AV):ai pg 205 [a0]=aH (S205 (ai pg) aj (cl au a0)):=(ax aE rfl rfl rfl _).trans (H8 aH (E205 (cl au a0) _ _))
def S217(call:CC)(fx:bP AV)(a0:AV):M AV:=ae (af (aK T 22 a0)) fun a=>ae (af (aK T 22 a0)) fun b=>ae (af (dM T 22 a0 none (some a) (some b))) fun c=>M.pure c
def E217(a0:AV):EE 217 Tryz.f217 yl [a0] (fun c x=>S217 c x a0):=fun _ _=>by kernel_rfl
def C217(a0:AV):ai pg 217 [a0]=aH (S217 (ai pg) aj (cl au a0)):=(ax aE rfl rfl rfl _).trans (H8 aH (E217 (cl au a0) _ _))
def S222(call:CC)(fx:bP AV)(a0 a1 a2:AV):M AV:=ae (af (am T .lss 3 a1 (.int .i64 0))) fun a=>az a (ae (af (cj T false 68 [])) fun b=>ae (aD 12 [] b) fun c=>M.pure (AV.tup [.agg [nth (aa c) 0,nth (aa c) 1,nth (aa c) 2,nth (aa c) 3,nth (aa c) 4,nth (aa c) 5,nth (aa c) 6,nth (aa c) 7,nth (aa c) 8,nth (aa c) 9,nth (aa c) 10,nth (aa c) 11],.bool false])) (ae (af (bT a0)) fun d=>ae (af (ab T 164 d 0)) fun e=>ae (bO T 92 e) fun f=>ae (af (ak T 92 f a1)) fun g=>ae (af (ab T 29 g 4)) fun h=>ae (af (ah T 25 h)) fun i=>ae (call 212 [i,.fn (Fn.func 248) [] [.ip (aa a2)]]) fun j=>ae (af (am T .lss 3 j (.int .i64 0))) fun k=>az k (ae (af (cj T false 68 [])) fun l=>ae (aD 12 [] l) fun m=>M.pure (AV.tup [.agg [nth (aa m) 0,nth (aa m) 1,nth (aa m) 2,nth (aa m) 3,nth (aa m) 4,nth (aa m) 5,nth (aa m) 6,nth (aa m) 7,nth (aa m) 8,nth (aa m) 9,nth (aa m) 10,nth (aa m) 11],.bool false])) (ae (af (ak T 25 i j)) fun n=>ae (af (ah T 68 n)) fun o=>ae (aD 12 [] o) fun p=>M.pure (AV.tup [.agg [nth (aa p) 0,nth (aa p) 1,nth (aa p) 2,nth (aa p) 3,nth (aa p) 4,nth (aa p) 5,nth (aa p) 6,nth (aa p) 7,nth (aa p) 8,nth (aa p) 9,nth (aa p) 10,nth (aa p) 11],.bool true])))
def E222(a0 a1 a2:AV):EE 222 Tryz.f222 yp [a0,a1,a2] (fun c x=>S222 c x a0 a1 a2):=fun _ _=>by kernel_rfl
def C222(a0 a1 a2:AV):ai pg 222 [a0,a1,a2]=S222 (ai pg) aj a0 a1 a2:=(cP aE rfl rfl rfl _).trans (E222 a0 a1 a2 _ _)
def S247(call:CC)(fx:bP AV)(a0 a1:AV):M AV:=ae (af (ab T 29 (.ip (aa a0)) 0)) fun a=>ae (af (ah T 9 a)) fun b=>ae (af (ah T 9 a1)) fun c=>ae (af (am T .eql 9 b c)) fun d=>M.pure d
def E247(a0 a1:AV):EE 247 Tryz.f247 yt [a0,a1] (fun c x=>S247 c x a0 a1):=fun _ _=>by kernel_rfl
def C247(a0 a1:AV):ai pg 247 [a0,a1]=aH (S247 (ai pg) aj (cl au a0) (cl au a1)):=(ax aE rfl rfl rfl _).trans (H8 aH (E247 (cl au a0) (cl au a1) _ _))
@[simp] theorem FA27_0(cs:List AV):ab T 27 (.ip cs) 0=some (.ip (cs.drop 0)):=rfl
@[simp] theorem FH27_0(l k:Nat):ab T 27 (.hp l k) 0=some (.hp l (k+0)):=rfl
@[simp] theorem FA27_1(cs:List AV):ab T 27 (.ip cs) 1=some (.ip (cs.drop 1)):=rfl
@[simp] theorem FH27_1(l k:Nat):ab T 27 (.hp l k) 1=some (.hp l (k+1)):=rfl
@[simp] theorem FA27_2(cs:List AV):ab T 27 (.ip cs) 2=some (.ip (cs.drop 2)):=rfl
@[simp] theorem FH27_2(l k:Nat):ab T 27 (.hp l k) 2=some (.hp l (k+2)):=rfl
@[simp] theorem FA29_0(cs:List AV):ab T 29 (.ip cs) 0=some (.ip (cs.drop 0)):=rfl
@[simp] theorem FH29_0(l k:Nat):ab T 29 (.hp l k) 0=some (.hp l (k+0)):=rfl
@[simp] theorem FA29_1(cs:List AV):ab T 29 (.ip cs) 1=some (.ip (cs.drop 1)):=rfl
@[simp] theorem FH29_1(l k:Nat):ab T 29 (.hp l k) 1=some (.hp l (k+1)):=rfl
@[simp] theorem FA29_2(cs:List AV):ab T 29 (.ip cs) 2=some (.ip (cs.drop 2)):=rfl
@[simp] theorem FH29_2(l k:Nat):ab T 29 (.hp l k) 2=some (.hp l (k+2)):=rfl
@[simp] theorem FA29_3(cs:List AV):ab T 29 (.ip cs) 3=some (.ip (cs.drop 3)):=rfl
@[simp] theorem FH29_3(l k:Nat):ab T 29 (.hp l k) 3=some (.hp l (k+3)):=rfl
@[simp] theorem FA29_4(cs:List AV):ab T 29 (.ip cs) 4=some (.ip (cs.drop 4)):=rfl
@[simp] theorem FH29_4(l k:Nat):ab T 29 (.hp l k) 4=some (.hp l (k+4)):=rfl
@[simp] theorem FA29_5(cs:List AV):ab T 29 (.ip cs) 5=some (.ip (cs.drop 5)):=rfl
@[simp] theorem FH29_5(l k:Nat):ab T 29 (.hp l k) 5=some (.hp l (k+5)):=rfl
@[simp] theorem FA29_6(cs:List AV):ab T 29 (.ip cs) 6=some (.ip (cs.drop 6)):=rfl
@[simp] theorem FH29_6(l k:Nat):ab T 29 (.hp l k) 6=some (.hp l (k+6)):=rfl
@[simp] theorem FA35_0(cs:List AV):ab T 35 (.ip cs) 0=some (.ip (cs.drop 0)):=rfl
@[simp] theorem FH35_0(l k:Nat):ab T 35 (.hp l k) 0=some (.hp l (k+0)):=rfl
@[simp] theorem FA35_1(cs:List AV):ab T 35 (.ip cs) 1=some (.ip (cs.drop 1)):=rfl
@[simp] theorem FH35_1(l k:Nat):ab T 35 (.hp l k) 1=some (.hp l (k+1)):=rfl
@[simp] theorem FA37_0(cs:List AV):ab T 37 (.ip cs) 0=some (.ip (cs.drop 0)):=rfl
@[simp] theorem FH37_0(l k:Nat):ab T 37 (.hp l k) 0=some (.hp l (k+0)):=rfl
@[simp] theorem FA37_1(cs:List AV):ab T 37 (.ip cs) 1=some (.ip (cs.drop 1)):=rfl
@[simp] theorem FH37_1(l k:Nat):ab T 37 (.hp l k) 1=some (.hp l (k+1)):=rfl
@[simp] theorem FA45_0(cs:List AV):ab T 45 (.ip cs) 0=some (.ip (cs.drop 0)):=rfl
@[simp] theorem FH45_0(l k:Nat):ab T 45 (.hp l k) 0=some (.hp l (k+0)):=rfl
@[simp] theorem FA45_1(cs:List AV):ab T 45 (.ip cs) 1=some (.ip (cs.drop 1)):=rfl
@[simp] theorem FH45_1(l k:Nat):ab T 45 (.hp l k) 1=some (.hp l (k+1)):=rfl
@[simp] theorem FA45_2(cs:List AV):ab T 45 (.ip cs) 2=some (.ip (cs.drop 2)):=rfl
@[simp] theorem FH45_2(l k:Nat):ab T 45 (.hp l k) 2=some (.hp l (k+2)):=rfl
@[simp] theorem FA45_3(cs:List AV):ab T 45 (.ip cs) 3=some (.ip (cs.drop 3)):=rfl
@[simp] theorem FH45_3(l k:Nat):ab T 45 (.hp l k) 3=some (.hp l (k+3)):=rfl
@[simp] theorem FA66_0(cs:List AV):ab T 66 (.ip cs) 0=some (.ip (cs.drop 0)):=rfl
@[simp] theorem FH66_0(l k:Nat):ab T 66 (.hp l k) 0=some (.hp l (k+0)):=rfl
@[simp] theorem FA66_1(cs:List AV):ab T 66 (.ip cs) 1=some (.ip (cs.drop 1)):=rfl
@[simp] theorem FH66_1(l k:Nat):ab T 66 (.hp l k) 1=some (.hp l (k+1)):=rfl
@[simp] theorem FA66_2(cs:List AV):ab T 66 (.ip cs) 2=some (.ip (cs.drop 2)):=rfl
@[simp] theorem FH66_2(l k:Nat):ab T 66 (.hp l k) 2=some (.hp l (k+2)):=rfl
@[simp] theorem FA66_3(cs:List AV):ab T 66 (.ip cs) 3=some (.ip (cs.drop 3)):=rfl
@[simp] theorem FH66_3(l k:Nat):ab T 66 (.hp l k) 3=some (.hp l (k+3)):=rfl
@[simp] theorem FA66_4(cs:List AV):ab T 66 (.ip cs) 4=some (.ip (cs.drop 4)):=rfl
@[simp] theorem FH66_4(l k:Nat):ab T 66 (.hp l k) 4=some (.hp l (k+4)):=rfl
@[simp] theorem FA66_5(cs:List AV):ab T 66 (.ip cs) 5=some (.ip (cs.drop 5)):=rfl
@[simp] theorem FH66_5(l k:Nat):ab T 66 (.hp l k) 5=some (.hp l (k+5)):=rfl
@[simp] theorem FA68_0(cs:List AV):ab T 68 (.ip cs) 0=some (.ip (cs.drop 0)):=rfl
@[simp] theorem FH68_0(l k:Nat):ab T 68 (.hp l k) 0=some (.hp l (k+0)):=rfl
@[simp] theorem FA68_1(cs:List AV):ab T 68 (.ip cs) 1=some (.ip (cs.drop 1)):=rfl
@[simp] theorem FH68_1(l k:Nat):ab T 68 (.hp l k) 1=some (.hp l (k+1)):=rfl
@[simp] theorem FA68_2(cs:List AV):ab T 68 (.ip cs) 2=some (.ip (cs.drop 2)):=rfl
@[simp] theorem FH68_2(l k:Nat):ab T 68 (.hp l k) 2=some (.hp l (k+2)):=rfl
@[simp] theorem FA68_3(cs:List AV):ab T 68 (.ip cs) 3=some (.ip (cs.drop 3)):=rfl
@[simp] theorem FH68_3(l k:Nat):ab T 68 (.hp l k) 3=some (.hp l (k+3)):=rfl
@[simp] theorem FA68_5(cs:List AV):ab T 68 (.ip cs) 5=some (.ip (cs.drop 6)):=rfl
@[simp] theorem FH68_5(l k:Nat):ab T 68 (.hp l k) 5=some (.hp l (k+6)):=rfl
@[simp] theorem FA85_0(cs:List AV):ab T 85 (.ip cs) 0=some (.ip (cs.drop 0)):=rfl
@[simp] theorem FH85_0(l k:Nat):ab T 85 (.hp l k) 0=some (.hp l (k+0)):=rfl
@[simp] theorem FA94_1(cs:List AV):ab T 94 (.ip cs) 1=some (.ip (cs.drop 1)):=rfl
@[simp] theorem FH94_1(l k:Nat):ab T 94 (.hp l k) 1=some (.hp l (k+1)):=rfl
@[simp] theorem FA162_2(cs:List AV):ab T 162 (.ip cs) 2=some (.ip (cs.drop 5)):=rfl
@[simp] theorem FH162_2(l k:Nat):ab T 162 (.hp l k) 2=some (.hp l (k+5)):=rfl
@[simp] theorem FA162_3(cs:List AV):ab T 162 (.ip cs) 3=some (.ip (cs.drop 6)):=rfl
@[simp] theorem FH162_3(l k:Nat):ab T 162 (.hp l k) 3=some (.hp l (k+6)):=rfl
@[simp] theorem FA162_4(cs:List AV):ab T 162 (.ip cs) 4=some (.ip (cs.drop 7)):=rfl
@[simp] theorem FH162_4(l k:Nat):ab T 162 (.hp l k) 4=some (.hp l (k+7)):=rfl
@[simp] theorem FA164_0(cs:List AV):ab T 164 (.ip cs) 0=some (.ip (cs.drop 0)):=rfl
@[simp] theorem FH164_0(l k:Nat):ab T 164 (.hp l k) 0=some (.hp l (k+0)):=rfl
@[simp] theorem FA164_1(cs:List AV):ab T 164 (.ip cs) 1=some (.ip (cs.drop 1)):=rfl
@[simp] theorem FH164_1(l k:Nat):ab T 164 (.hp l k) 1=some (.hp l (k+1)):=rfl
@[simp] theorem FA164_2(cs:List AV):ab T 164 (.ip cs) 2=some (.ip (cs.drop 2)):=rfl
@[simp] theorem FH164_2(l k:Nat):ab T 164 (.hp l k) 2=some (.hp l (k+2)):=rfl
@[simp] theorem FA164_3(cs:List AV):ab T 164 (.ip cs) 3=some (.ip (cs.drop 3)):=rfl
@[simp] theorem FH164_3(l k:Nat):ab T 164 (.hp l k) 3=some (.hp l (k+3)):=rfl
@[simp] theorem FA164_4(cs:List AV):ab T 164 (.ip cs) 4=some (.ip (cs.drop 4)):=rfl
@[simp] theorem FH164_4(l k:Nat):ab T 164 (.hp l k) 4=some (.hp l (k+4)):=rfl
@[simp] theorem FA168_0(cs:List AV):ab T 168 (.ip cs) 0=some (.ip (cs.drop 0)):=rfl
@[simp] theorem FH168_0(l k:Nat):ab T 168 (.hp l k) 0=some (.hp l (k+0)):=rfl
@[simp] theorem FA168_1(cs:List AV):ab T 168 (.ip cs) 1=some (.ip (cs.drop 1)):=rfl
@[simp] theorem FH168_1(l k:Nat):ab T 168 (.hp l k) 1=some (.hp l (k+1)):=rfl
@[simp] theorem FA168_2(cs:List AV):ab T 168 (.ip cs) 2=some (.ip (cs.drop 2)):=rfl
@[simp] theorem FH168_2(l k:Nat):ab T 168 (.hp l k) 2=some (.hp l (k+2)):=rfl
@[simp] theorem LD3(x:AV)(l:List AV):ah T 3 (.ip (x:: l))=some x:=rfl
@[simp] theorem LD4(x:AV)(l:List AV):ah T 4 (.ip (x:: l))=some x:=rfl
@[simp] theorem LD9(x:AV)(l:List AV):ah T 9 (.ip (x:: l))=some x:=rfl
@[simp] theorem LD22(x:AV)(l:List AV):ah T 22 (.ip (x:: l))=some x:=rfl
@[simp] theorem LD23(x:AV)(l:List AV):ah T 23 (.ip (x:: l))=some x:=rfl
@[simp] theorem LD24(x:AV)(l:List AV):ah T 24 (.ip (x:: l))=some x:=rfl
@[simp] theorem LD25(x:AV)(l:List AV):ah T 25 (.ip (x:: l))=some x:=rfl
@[simp] theorem LD27(cs:List AV):ah T 27 (.ip cs)=if 3<=cs.length then some (.agg (cs.take 3))else none:=rfl
@[simp] theorem LD29(cs:List AV):ah T 29 (.ip cs)=if 9<=cs.length then some (.agg (cs.take 9))else none:=rfl
@[simp] theorem LD30(x:AV)(l:List AV):ah T 30 (.ip (x:: l))=some x:=rfl
@[simp] theorem LD35(cs:List AV):ah T 35 (.ip cs)=if 2<=cs.length then some (.agg (cs.take 2))else none:=rfl
@[simp] theorem LD37(cs:List AV):ah T 37 (.ip cs)=if 3<=cs.length then some (.agg (cs.take 3))else none:=rfl
@[simp] theorem LD45(cs:List AV):ah T 45 (.ip cs)=if 4<=cs.length then some (.agg (cs.take 4))else none:=rfl
@[simp] theorem LD66(cs:List AV):ah T 66 (.ip cs)=if 6<=cs.length then some (.agg (cs.take 6))else none:=rfl
@[simp] theorem LD68(cs:List AV):ah T 68 (.ip cs)=if 12<=cs.length then some (.agg (cs.take 12))else none:=rfl
@[simp] theorem LD89(x:AV)(l:List AV):ah T 89 (.ip (x:: l))=some x:=rfl
@[simp] theorem LD92(x:AV)(l:List AV):ah T 92 (.ip (x:: l))=some x:=rfl
@[simp] theorem LD157(x:AV)(l:List AV):ah T 157 (.ip (x:: l))=some x:=rfl
@[simp] theorem LD158(x:AV)(l:List AV):ah T 158 (.ip (x:: l))=some x:=rfl
@[simp] theorem LD159(x:AV)(l:List AV):ah T 159 (.ip (x:: l))=some x:=rfl
@[simp] theorem LD160(x:AV)(l:List AV):ah T 160 (.ip (x:: l))=some x:=rfl
@[simp] theorem LD168(cs:List AV):ah T 168 (.ip cs)=if 3<=cs.length then some (.agg (cs.take 3))else none:=rfl
@[simp] theorem Gq(s:bF):aK T 9 (.str s)=some (.int .i64 s.length):=rfl
@[simp] theorem EO(es:List AV):aK T 22 (.sl es)=some (.int .i64 es.length):=rfl
@[simp] theorem GA:aK T 22 .hn=some (.int .i64 0):=rfl
@[simp] theorem Gt(l k n s:Nat)(a:Bool):aK T 22 (.hs l k n s a)=some (.int .i64 n):=rfl
@[simp] theorem pJ(l:List bF):aK T 22 (strs l)=some (.int .i64 l.length):=(EO _).trans (by simp)
@[simp] theorem EP(es:List AV):aK T 23 (.sl es)=some (.int .i64 es.length):=rfl
@[simp] theorem GC:aK T 23 .hn=some (.int .i64 0):=rfl
@[simp] theorem Gu(l k n s:Nat)(a:Bool):aK T 23 (.hs l k n s a)=some (.int .i64 n):=rfl
@[simp] theorem iv(l:List ca):aK T 23 (bd l)=some (.int .i64 l.length):=(EP _).trans (by simp[fT])
@[simp] theorem EQ(es:List AV):aK T 24 (.sl es)=some (.int .i64 es.length):=rfl
@[simp] theorem GD:aK T 24 .hn=some (.int .i64 0):=rfl
@[simp] theorem Gv(l k n s:Nat)(a:Bool):aK T 24 (.hs l k n s a)=some (.int .i64 n):=rfl
@[simp] theorem xB(l:List Exp):aK T 24 (bQ l)=some (.int .i64 l.length):=(EQ _).trans (by simp[fR])
@[simp] theorem ER(es:List AV):aK T 25 (.sl es)=some (.int .i64 es.length):=rfl
@[simp] theorem GE:aK T 25 .hn=some (.int .i64 0):=rfl
@[simp] theorem Gw(l k n s:Nat)(a:Bool):aK T 25 (.hs l k n s a)=some (.int .i64 n):=rfl
@[simp] theorem xC(l:List Fun):aK T 25 (gE l)=some (.int .i64 l.length):=(ER _).trans (by simp)
@[simp] theorem ES(es:List AV):aK T 30 (.sl es)=some (.int .i64 es.length):=rfl
@[simp] theorem GF:aK T 30 .hn=some (.int .i64 0):=rfl
@[simp] theorem Gx(l k n s:Nat)(a:Bool):aK T 30 (.hs l k n s a)=some (.int .i64 n):=rfl
@[simp] theorem xD(l:List Val):aK T 30 (vals l)=some (.int .i64 l.length):=(ES _).trans (by simp[dt])
@[simp] theorem ET(es:List AV):aK T 47 (.sl es)=some (.int .i64 es.length):=rfl
@[simp] theorem GG:aK T 47 .hn=some (.int .i64 0):=rfl
@[simp] theorem Gy(l k n s:Nat)(a:Bool):aK T 47 (.hs l k n s a)=some (.int .i64 n):=rfl
@[simp] theorem Gr(l:List Ty):aK T 47 (xx l)=some (.int .i64 l.length):=(ET _).trans (by simp)
@[simp] theorem EU(es:List AV):aK T 92 (.sl es)=some (.int .i64 es.length):=rfl
@[simp] theorem GH:aK T 92 .hn=some (.int .i64 0):=rfl
@[simp] theorem Gz(l k n s:Nat)(a:Bool):aK T 92 (.hs l k n s a)=some (.int .i64 n):=rfl
@[simp] theorem Gs(l:List Mod):aK T 92 (jQ l)=some (.int .i64 l.length):=(EU _).trans (by simp)
@[simp] theorem Dc(es:List AV):aK T 158 (.sl es)=some (.int .i64 es.length):=rfl
@[simp] theorem Gd:aK T 158 .hn=some (.int .i64 0):=rfl
@[simp] theorem Gc(l k n s:Nat)(a:Bool):aK T 158 (.hs l k n s a)=some (.int .i64 n):=rfl
@[simp] theorem AM(l:List Int):aK T 158 (ints l)=some (.int .i64 l.length):=(Dc _).trans (by simp)
def s8{l:List bF}{n:Int}(h0:0<=n)(h:n<(l.length:Int)):ak T 22 (strs l) (.int .i64 n)=some (.ip (aa (AV.str l[n.toNat]!))):=cn (T:=T) (t:=22) (e:=9) rfl rfl rfl (fun _=>by first|rfl|(simp;done)|(simp;rfl)) h0 h
def iu{l:List ca}{n:Int}(h0:0<=n)(h:n<(l.length:Int)):ak T 23 (bd l) (.int .i64 n)=some (.ip (aa (bG l[n.toNat]!))):=by rw[bd,fT];exact cn (T:=T) (t:=23) (e:=37) rfl rfl rfl (fun _=>by first|rfl|(simp;done)|(simp;rfl)) h0 h
def qQ{l:List Exp}{n:Int}(h0:0<=n)(h:n<(l.length:Int)):ak T 24 (bQ l) (.int .i64 n)=some (.ip (aa (Exp.av l[n.toNat]!))):=by rw[bQ,fR];exact cn (T:=T) (t:=24) (e:=66) rfl rfl rfl (fun _=>by first|rfl|(simp;done)|(simp;rfl)) h0 h
def Da{l:List Fun}{n:Int}(h0:0<=n)(h:n<(l.length:Int)):ak T 25 (gE l) (.int .i64 n)=some (.ip (aa (Fun.av l[n.toNat]!))):=cn (T:=T) (t:=25) (e:=68) rfl rfl rfl (fun _=>by first|rfl|(simp;done)|(simp;rfl)) h0 h
def jX{l:List Val}{n:Int}(h0:0<=n)(h:n<(l.length:Int)):ak T 30 (vals l) (.int .i64 n)=some (.ip (aa (Val.av l[n.toNat]!))):=by rw[vals,dt];exact cn (T:=T) (t:=30) (e:=45) rfl rfl rfl (fun _=>by first|rfl|(simp;done)|(simp;rfl)) h0 h
def Gp{l:List Ty}{n:Int}(h0:0<=n)(h:n<(l.length:Int)):ak T 47 (xx l) (.int .i64 n)=some (.ip (aa (Ty.av l[n.toNat]!))):=cn (T:=T) (t:=47) (e:=35) rfl rfl rfl (fun _=>by first|rfl|(simp;done)|(simp;rfl)) h0 h
def AL{l:List Mod}{n:Int}(h0:0<=n)(h:n<(l.length:Int)):ak T 92 (jQ l) (.int .i64 n)=some (.ip (aa (Mod.av l[n.toNat]!))):=cn (T:=T) (t:=92) (e:=29) rfl rfl rfl (fun _=>by first|rfl|(simp;done)|(simp;rfl)) h0 h
def EN{l:List Int}{n:Int}(h0:0<=n)(h:n<(l.length:Int)):ak T 158 (ints l) (.int .i64 n)=some (.ip (aa (AV.int .i64 l[n.toNat]!))):=cn (T:=T) (t:=158) (e:=3) rfl rfl rfl (fun _=>by first|rfl|(simp;done)|(simp;rfl)) h0 h
def C6{a b:List bF}(h:(a.length+b.length)*16<=140737488355328):db T 22 (strs a) (strs b)=some (strs (a++b)):=by
 have:=q6 (T:=T) (t:=22) (e:=9) rfl rfl rfl (f:=AV.str) (fun _=>by first|rfl|(simp;done)|(simp;rfl)) (a:=a) (b:=b) h (by decide)
 simpa [strs]using this
def xy{a b:List Val}(h:(a.length+b.length)*64<=140737488355328):db T 30 (vals a) (vals b)=some (vals (a++b)):=by
 have:=q6 (T:=T) (t:=30) (e:=45) rfl rfl rfl (f:=Val.av) (fun _=>by first|rfl|(simp;done)|(simp;rfl)) (a:=a) (b:=b) h (by decide)
 simpa [vals,dt]using this
def yz(l:List bF)(i k:Nat)(hk:k=i+1)(h:k<l.length):wd (l.drop i)=(cW (l[i]'(by omega)) l[k]&&wd (l.drop k)):=by
 subst hk;have e1:l.drop i=l[i]:: l.drop (i+1):=ID (by omega);have e2:l.drop (i+1)=l[i+1]:: l.drop (i+2):=ID h;rw[e1,e2];rfl
def Bu(call)(l:List bF)(hb:l.length<=4611686018427387904):∀(n:Nat)(i:Int),l.length-i.toNat=n->1<=i->aj (L135_0 call aj) [strs l,.int .i64 i]=M.pure (.bool (wd (l.drop (i.toNat-1)))):=by
 intro n
 induction n with
 | zero=>
  intro i hn hi;rw[FL135_0];simp only[L135_0];have h1:¬(i<(l.length:Int)):=by omega
  have h2:wd (l.drop (i.toNat-1))=true:=by
   have:(l.drop (i.toNat-1)).length<=1:=by simp;omega
   match hq:l.drop (i.toNat-1),this with
   |[],_=>rfl
   |[x],_=>rfl
   |x:: y:: r,h=>simp at h
  simp[h1,h2]
 |succ n ih=>
  intro i hn hi;have h1:i<(l.length:Int):=by omega
  rw[FL135_0];simp only[L135_0];simp (disch:=omega) [h1,aZ,s8];rw[ih (i+1) (by omega) (by omega),yz l (i.toNat-1) i.toNat (by omega) (by omega),show (i+1).toNat-1=i.toNat by omega];cases cW l[i.toNat-1] l[i.toNat]<;>simp
def t135(l:List bF)(hb:l.length<=4611686018427387904):ai pg 135 [strs l]=M.pure (.bool (wd l)):=by
 rw[C135];simp[S135,Bu (ai pg) l hb (l.length-1) 1 rfl (by omega)]
def Bw(f:AV)(F:Val->Bool)(l:List Val)(hb:l.length<=4611686018427387904)(hf:∀x∈l,bW (ai pg) f [Val.av x]=M.pure (.bool (F x))):∀(n:Nat)(i:Int),l.length-i.toNat=n->0<=i->i<=l.length->
  aj (L164_0 (ai pg) aj) [vals l,f,.int .i64 l.length,.int .i64 i]=M.pure (.int .i64 (br F (l.drop i.toNat) i)):=by
 intro n
 induction n with
 |zero=>
  intro i hn hi hl;rw[FL164_0];simp only[L164_0];have h1:¬(i<(l.length:Int)):=by omega
  have h2:l.drop i.toNat=[]:=Iv (by omega);simp[h1,h2,br]
 |succ n ih=>
  intro i hn hi hl;have h1:i<(l.length:Int):=by omega
  have hlt:i.toNat<l.length:=by omega
  have h2:br F (l.drop i.toNat) i=if F l[i.toNat]=true then i else br F (l.drop (i.toNat+1)) (i+1):=by rw[ID hlt];rfl
  have h3:=hf l[i.toNat] (Iq hlt);have h4:=ih (i+1) (by omega) (by omega) (by omega);rw[show (i+1).toNat=i.toNat+1 by omega]at h4;rw[FL164_0];simp only[L164_0];simp (disch:=omega) [h1,aZ,jX,h3,h2];cases F l[i.toNat]
  ·simpa using h4
  ·simp
def t164(f:AV)(F:Val->Bool)(l:List Val)(hb:l.length<=4611686018427387904)(hc:∀g,cl g f=f)(hf:∀x∈l,bW (ai pg) f [Val.av x]=M.pure (.bool (F x))):ai pg 164 [vals l,f]=M.pure (.int .i64 (br F l 0)):=by
 rw[C164];simp[S164,hc,Bw f F l hb hf l.length 0 rfl (by omega) (by omega)]
def t130(f:AV)(F:Val->Bool)(l:List Val)(hb:l.length<=4611686018427387904)(hc:∀g,cl g f=f)(hf:∀x∈l,bW (ai pg) f [Val.av x]=M.pure (.bool (F x))):ai pg 130 [vals l,f]=M.pure (.bool (l.any F)):=by
 rw[C130];simp[S130,hc,t164 f F l hb hc hf,o7]
def yT{α:Type}[BEq α](a b:List α)(i:Nat)(h1:i<a.length)(h2:i<b.length):(a.drop i== b.drop i)=(a[i]== b[i]&&a.drop (i+1)== b.drop (i+1)):=by
 rw[ID h1,ID h2];rfl
def Bv(a b:List bF)(hb:a.length<=4611686018427387904)(hab:a.length=b.length):∀(n:Nat)(i:Int),a.length-i.toNat=n->0<=i->i<=a.length->
  aj (L147_0 (ai pg) aj) [strs a,strs b,.int .i64 a.length,.int .i64 i]=M.pure (.bool (a.drop i.toNat== b.drop i.toNat)):=by
 intro n
 induction n with
 |zero=>
  intro i hn hi hl;rw[FL147_0];simp only[L147_0];have h1:¬(i<(a.length:Int)):=by omega
  have h2:a.drop i.toNat=[]:=Iv (by omega);have h3:b.drop i.toNat=[]:=Iv (by omega);simp[h1,h2,h3]
 | succ n ih=>
  intro i hn hi hl;have h1:i<(a.length:Int):=by omega
  have h1':i<(b.length:Int):=by omega
  have hlt:i.toNat<a.length:=by omega
  have h4:=ih (i+1) (by omega) (by omega) (by omega);rw[show (i+1).toNat=i.toNat+1 by omega]at h4;rw[FL147_0,yT a b i.toNat hlt (by omega)];simp only[L147_0];simp (disch:=omega) [h1,aZ,s8,h4];by_cases h:a[i.toNat]=b[i.toNat]
  ·simp[h]
  ·have h':(a[i.toNat]== b[i.toNat])=false:=Jz.2 h;simp[h,h']
def t147(a b:List bF)(hb:a.length<=4611686018427387904):ai pg 147 [strs a,strs b]=M.pure (.bool (a== b)):=by
 rw[C147];by_cases h:a.length=b.length
 ·have:=Bv a b hb h a.length 0 rfl (by omega) (by omega)
  simp[S147,h]at this |-;simp[this]
 ·have h2:(a== b)=false:=by
   rw[Jz];intro hh;exact h (by rw[hh])
  have h3:((a.length:Int) != (b.length:Int))=true:=by simp;omega
  simp[S147,h3,h2]
theorem t86:∀(d:Nat),d<=4->∀(v:Val),v.sz<=4611686018427387904->ai pg 86 [v.av,.int .i64 d]=M.pure (.bool (bp d v))
 |0,_,v,_=>by
  rw[C86];simp[S86,bp]
 | d+1,hd,v,hv=>by
  have ih:=t86 d (by omega);have h1:=t135 v.names (Jf v.sz_names hv);have hf:∀x∈v.values,bW (ai pg) (.fn (.func 136) [] [.ip [.int .i64 ((d:Int)+1)]]) [x.av]=M.pure (.bool !(bp d x)):=by
   intro x hx;have hsz:=HH hx
   have:=ih x (by omega)
   show ai pg 136 [x.av,.ip [.int .i64 ((d:Int)+1)]]=_;rw[C136];simp (disch:=omega) [S136,cl,dC,aZ,this,show (d:Int)+1-1=d by omega]
  have h2:=t130 (.fn (.func 136) [] [.ip [.int .i64 ((d:Int)+1)]]) (fun x=>!(bp d x)) v.values (by have:=v.sz_len;omega) (fun g=>rfl) hf;have h0:¬((d:Int)+1=0):=by omega
  rw[C86];simp[S86,bp,h0,h1,h2];have hall:(!v.values.any fun x=>!bp d x)=v.values.all (bp d):=by simp[List.not_any_eq_all_not]
  rw[hall];split
  ·rfl
  ·congr 2;rw[show (v.kind== 2)=decide (v.kind=2)from rfl,show (v.n== 0)=decide (v.n=0)from rfl,show (v.names.length== v.values.length)=decide (v.names.length=v.values.length) by rw[Jx];simp,
    show (!decide ((8:Int)<(v.names.length:Int)))=decide (v.names.length<=8) by rw[Jx];simp;omega]
def D2(f:AV)(F:Val->Val->Bool)(a:List Val)(b:List Val)(hb:a.length<=4611686018427387904)(hab:a.length=b.length)(hf:∀x∈a,∀y∈b,bW (ai pg) f [Val.av x,Val.av y]=M.pure (.bool (F x y))):∀(n:Nat)(i:Int),a.length-i.toNat=n->0<=i->i<=a.length->
  aj (L47_0 (ai pg) aj) [vals b,f,vals a,.int .i64 a.length,.int .i64 i]=M.pure (.bool (b6 F (a.drop i.toNat) (b.drop i.toNat))):=by
 intro n
 induction n with
 |zero=>
  intro i hn hi hl;rw[FL47_0];simp only[L47_0];have h1:¬(i<(a.length:Int)):=by omega
  have h2:a.drop i.toNat=[]:=Iv (by omega);have h3:b.drop i.toNat=[]:=Iv (by omega);simp[h1,h2,h3,b6]
 |succ n ih=>
  intro i hn hi hl;have h1:i<(a.length:Int):=by omega
  have h1':i<(b.length:Int):=by omega
  have hlt:i.toNat<a.length:=by omega
  have hlt':i.toNat<b.length:=by omega
  have h3:=hf a[i.toNat] (Iq hlt) b[i.toNat] (Iq hlt');have h4:=ih (i+1) (by omega) (by omega) (by omega);rw[show (i+1).toNat=i.toNat+1 by omega]at h4;rw[FL47_0,iX F a b i.toNat hlt hlt'];simp only[L47_0];simp (disch:=omega) [h1,aZ,jX,jX,h4];rw[h3];cases F a[i.toNat] b[i.toNat]<;>simp
def t47(f:AV)(F:Val->Val->Bool)(a:List Val)(b:List Val)(hb:a.length<=4611686018427387904)(hc:∀g,cl g f=f)(hf:∀x∈a,∀y∈b,bW (ai pg) f [Val.av x,Val.av y]=M.pure (.bool (F x y))):ai pg 47 [vals a,vals b,f]=M.pure (.bool (b6 F a b)):=by
 rw[C47];by_cases h:a.length=b.length
 ·have:=D2 f F a b hb h hf a.length 0 rfl (by omega) (by omega)
  simp[S47,h,hc]at this |-;simp[this]
 ·have h3:(a.length != b.length)=true:=by simp[h]
  simp[S47,h3,e7 F a b h]
mutual
def gR:Val->Val->Bool
 |.mk k n ns vs,.mk k' n' ns' vs'=>k== k'&&n== n'&&ns== ns'&&gx vs vs'
def gx:List Val->List Val->Bool
 |[],[]=>true
 |v:: vs,w:: ws=>gR v w&&gx vs ws
 |_,_=>false
end
theorem l5:(a b:List Val)->gx a b=b6 gR a b
 |[],[]=>rfl
 |[],_:: _=>rfl
 |_:: _,[]=>rfl
 |v:: a,w:: b=>by simp only[gx,b6,l5 a b]
def Ag(v w:Val):gR v w=(v.kind== w.kind&&v.n== w.n&&v.names== w.names&&b6 gR v.values w.values):=by
 cases v;cases w;simp only[gR,l5,Val.kind,Val.n,Val.names,Val.values]
def t104:∀(n:Nat)(v w:Val),v.sz<=n->v.sz<=4611686018427387904->ai pg 104 [v.av,w.av]=M.pure (.bool (gR v w)):=by
 intro n
 induction n with
 |zero=>intro v w h;have:=v.sz_pos;omega
 | succ n ih=>
  intro v w hn hv;have h1:=t147 v.names w.names (Jf v.sz_names hv);have h2:=t47 (.fn (.func 104) [] []) gR v.values w.values (by have:=v.sz_len;omega) (fun g=>rfl) (fun x hx y _=>by
   have:=HH hx
   exact ih x y (by omega) (by omega))
  rw[C104,Ag];simp[S104,h1,h2]
def t49(v:Val)(hv:v.sz<=4611686018427387904):ai pg 49 [v.av]=M.pure (.bool (bp 4 v)):=by
 rw[C49]
 have:=t86 4 (by omega) v hv
 simp at this;simp[S49,this]
def t62(v w:Val)(hv:v.sz<=4611686018427387904)(hw:w.sz<=4611686018427387904):ai pg 62 [v.av,w.av]=M.pure (.bool (bp 4 v&&bp 4 w&&gR v w)):=by
 rw[C62];simp[S62,t49 v hv,t49 w hw,t104 v.sz v w (Ie _) hv]
end
end Go.Proofs.YtihmmkncokjbaaaGreatDoor
