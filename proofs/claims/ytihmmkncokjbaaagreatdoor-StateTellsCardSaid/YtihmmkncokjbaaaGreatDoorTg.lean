/- What the functions compute, part 7. Conditions: bounds. -/
import Derived.Test.YtihmmkncokjbaaaGreatDoorTf
set_option linter.defProp false
set_option linter.unusedSimpArgs false
set_option linter.unusedVariables false
namespace Go.Proofs.YtihmmkncokjbaaaGreatDoor
open Go Go.Av Go.Av.Ap
set_option maxRecDepth 100000
noncomputable section
def S28(call:CC)(fx:bp AV)(a0 a1:AV):M AV:=af (ah (ai T 45 (.ip (aa a0)))) fun a=>af (call 59 [a]) fun b=>af (aF b true 1 (af (ah (ai T 45 (.ip (aa a1)))) fun c=>af (call 59 [c]) fun d=>ay [d])) fun e=>af (ah (aI b (ae e 0) (.bool false))) fun f=>af (aF f true 1 (af (ah (ai T 45 (.ip (aa a0)))) fun g=>af (ah (ai T 45 (.ip (aa a1)))) fun h=>af (call 63 [g,h]) fun i=>ay [i])) fun j=>af (ah (aI f (ae j 0) (.bool false))) fun k=>ay k
def E28(a0 a1:AV):EE 28 Tryz.f28 Jb [a0,a1] (fun c x=>S28 c x a0 a1):=fun _ _=>by kernel_rfl
def C28(a0 a1:AV):aj pg 28 [a0,a1]=aJ (S28 (aj pg) ao (cl aB a0) (cl aB a1)):=(aD aH rfl rfl rfl _).trans (PR aJ (E28 (cl aB a0) (cl aB a1) _ _))
def S31(call:CC)(fx:bp AV)(a0:AV):M AV:=af (ah (ai T 29 (.ip (aa a0)))) fun a=>af (ah (aG T 92 1 [(0,a)])) fun b=>af (call 66 [b]) fun c=>af (ah (aQ c 0)) fun d=>af (ah (aQ c 1)) fun e=>af (ah (aw T .neq 39 e (.int .i64 0))) fun f=>aA f (ay (.tup [.sl [],e])) (af (ah (au T 89 d (.int .i64 0))) fun g=>af (ah (ab T 94 g 1)) fun h=>af (ah (ai T 30 h)) fun i=>ay (.tup [i,.int .i64 0]))
def E31(a0:AV):EE 31 Tryz.f31 Je [a0] (fun c x=>S31 c x a0):=fun _ _=>by kernel_rfl
def C31(a0:AV):aj pg 31 [a0]=aJ (S31 (aj pg) ao (cl aB a0)):=(aD aH rfl rfl rfl _).trans (PR aJ (E31 (cl aB a0) _ _))
def L43_0(call:CC)(fx:bp AV)(a:RR)(b:List AV):M AV:=af (ah (aw T .lss 3 (ae b 3) (ae b 2))) fun c=>aA c (af (ah (au T 23 (ae b 1) (ae b 3))) fun d=>af (ah (ai T 37 d)) fun e=>af (aW 3 e) fun f=>af (ah (ab T 37 (.ip (aa f)) 1)) fun g=>af (ah (ai T 35 g)) fun h=>af (ah (au T 30 (ae b 0) (ae b 3))) fun i=>af (ah (ai T 45 i)) fun j=>af (bX (call 20 [h,j])) fun k=>af (ah (eX UnOp.not k)) fun l=>aA l (ay (.bool false)) (af (ah (aw T .add 3 (ae b 3) (.int .i64 1))) fun m=>a [ae b 0,ae b 1,ae b 2,m])) (ay (.bool true))
def XL43_0{call:CC}:bD (L43_0 call ao) fun _n=>L43_0 call ao  :=by
 intro a b c d;unfold L43_0;exact (lb fun _=>(aC (by(iterate 9 refine lb fun _=>?_);exact (aC (ba _) (lb fun _=>c _))) (ba _)))
def FL43_0(call:CC)(vs:List AV):ao (L43_0 call ao) vs=L43_0 call ao  (ao (L43_0 call ao)) vs:=aU (XL43_0) vs
def S43(call:CC)(fx:bp AV)(a0 a1:AV):M AV:=af (ah (aN T 23 a0)) fun a=>af (ah (aN T 30 a1)) fun b=>af (ah (aw T .neq 3 a b)) fun c=>aA c (ay (.bool false)) (af (ah (aN T 23 a0)) fun d=>fx (L43_0 call fx) [a1,a0,d,.int .i64 0])
def E43(a0 a1:AV):EE 43 Tryz.f43 Jm [a0,a1] (fun c x=>S43 c x a0 a1):=fun _ _=>by kernel_rfl
def C43(a0 a1:AV):aj pg 43 [a0,a1]=aJ (S43 (aj pg) ao (cl aB a0) (cl aB a1)):=(aD aH rfl rfl rfl _).trans (PR aJ (E43 (cl aB a0) (cl aB a1) _ _))
def L46_0(call:CC)(fx:bp AV)(a:RR)(b:List AV):M AV:=af (ah (aw T .lss 3 (ae b 6) (ae b 5))) fun c=>aA c (af (ah (au T 23 (ae b 4) (ae b 6))) fun d=>af (ah (ai T 37 d)) fun e=>af (aW 3 e) fun f=>af (ah (au T 24 (ae b 1) (ae b 6))) fun g=>af (ah (ai T 66 g)) fun h=>af (call 85 [h,ae b 2,ae b 0]) fun i=>af (ah (aQ i 0)) fun j=>af (ah (aQ i 1)) fun k=>af (aW 4 j) fun l=>af (ah (aw T .neq 39 k (.int .i64 0))) fun m=>aA m (ay (.tup [.sl [],k])) (af (ah (ab T 37 (.ip (aa f)) 1)) fun n=>af (ah (ai T 35 n)) fun o=>af (ah (ai T 45 (.ip (aa l)))) fun p=>af (call 20 [o,p]) fun q=>af (ah (eX UnOp.not q)) fun r=>aA r (ay (.tup [.sl [],.int .i64 13])) (af (ah (ai T 45 (.ip (aa l)))) fun s=>af (ah (aG T 30 1 [(0,s)])) fun u=>af (ah (cf T 30 (ae b 3) u)) fun v=>af (ah (aw T .add 3 (ae b 6) (.int .i64 1))) fun w=>a [ae b 0,ae b 1,ae b 2,v,ae b 4,ae b 5,w]))) (ay (.tup [ae b 3,.int .i64 0]))
def L46_1(call:CC)(fx:bp AV)(a:RR)(b:List AV):M AV:=af (ah (aw T .lss 3 (ae b 6) (ae b 5))) fun c=>aA c (af (ah (au T 23 (ae b 4) (ae b 6))) fun d=>af (ah (ai T 37 d)) fun e=>af (aW 3 e) fun f=>af (ah (ab T 37 (.ip (aa f)) 0)) fun g=>af (ah (ai T 9 g)) fun h=>af (ah (aG T 22 1 [(0,h)])) fun i=>af (ah (cf T 22 (ae b 3) i)) fun j=>af (ah (aw T .add 3 (ae b 6) (.int .i64 1))) fun k=>a [ae b 0,ae b 1,ae b 2,j,ae b 4,ae b 5,k]) (af (ah (aN T 23 (ae b 0))) fun l=>fx (L46_0 call fx) [ae b 1,ae b 2,ae b 3,.sl [],ae b 0,l,.int .i64 0])
def XL46_0{call:CC}:bD (L46_0 call ao) fun _n=>L46_0 call ao  :=by
 intro a b c d;unfold L46_0;exact (lb fun _=>(aC (by(iterate 10 refine lb fun _=>?_);exact (aC (ba _) (by(iterate 5 refine lb fun _=>?_);exact (aC (ba _) (lb fun _=>(lb fun _=>(lb fun _=>(lb fun _=>c _)))))))) (ba _)))
def FL46_0(call:CC)(vs:List AV):ao (L46_0 call ao) vs=L46_0 call ao  (ao (L46_0 call ao)) vs:=aU (XL46_0) vs
def XL46_1{call:CC}:bD (L46_1 call ao) fun _n=>L46_1 call ao  :=by
 intro a b c d;unfold L46_1;exact (lb fun _=>(aC (by(iterate 8 refine lb fun _=>?_);exact (c _)) (ba _)))
def FL46_1(call:CC)(vs:List AV):ao (L46_1 call ao) vs=L46_1 call ao  (ao (L46_1 call ao)) vs:=aU (XL46_1) vs
def S46(call:CC)(fx:bp AV)(a0 a1 a2 a3:AV):M AV:=af (ah (aN T 23 a0)) fun a=>fx (L46_1 call fx) [a1,a2,a3,.sl [],a0,a,.int .i64 0]
def E46(a0 a1 a2 a3:AV):EE 46 Tryz.f46 Jp [a0,a1,a2,a3] (fun c x=>S46 c x a0 a1 a2 a3):=fun _ _=>by kernel_rfl
def C46(a0 a1 a2 a3:AV):aj pg 46 [a0,a1,a2,a3]=aJ (S46 (aj pg) ao (cl aB a0) (cl aB a1) (cl aB a2) (cl aB a3)):=(aD aH rfl rfl rfl _).trans (PR aJ (E46 (cl aB a0) (cl aB a1) (cl aB a2) (cl aB a3) _ _))
def K54_0(call:CC)(fx:bp AV)(a:RR)(b:List AV):M AV:=af (ah (aG T 22 1 [(0,ae b 2)])) fun c=>af (ah (cf T 22 (ae b 9) c)) fun d=>af (ah (aw T .sub 3 (ae b 1) (.int .i64 1))) fun e=>af (call 54 [ae b 0,e]) fun f=>af (ah (aG T 30 1 [(0,f)])) fun g=>af (ah (cf T 30 (ae b 10) g)) fun h=>af (cp d) fun i=>af (cp h) fun j=>a [ae b 0,ae b 1,ae b 3,ae b 4,ae b 5,ae b 6,ae b 7,ae b 8,d,h]
def K54_1(call:CC)(fx:bp AV)(a:RR)(b:List AV):M AV:=af (call 94 [ae b 0,.str [61,123,125,44]]) fun c=>jn (K54_0 call fx a) fun d=>af (call 95 [c]) fun e=>af (ah (eX UnOp.not e)) fun f=>af (aF f false 1 (af (call 92 [ae b 0,.str [61]]) fun g=>af (ah (eX UnOp.not g)) fun h=>ay [h])) fun i=>af (ah (aI f (.bool true) (ae i 0))) fun j=>aA j (af (ah (aT T false 81 [])) fun k=>af (ah (fl T 81 k)) fun l=>af (sZ l) fun m=>d [ae b 0,ae b 1,c,ae b 2,ae b 3,ae b 4,ae b 5,ae b 6,ae b 7,ae b 8,ae b 9]) (d [ae b 0,ae b 1,c,ae b 2,ae b 3,ae b 4,ae b 5,ae b 6,ae b 7,ae b 8,ae b 9])
def L54_0(call:CC)(fx:bp AV)(a:RR)(b:List AV):M AV:=af (call 92 [ae b 0,.str [125]]) fun c=>af (ah (eX UnOp.not c)) fun d=>aA d (jn (K54_1 call fx a) fun e=>af (ah (aN T 22 (ae b 8))) fun f=>af (ah (aw T .gtr 3 f (.int .i64 0))) fun g=>af (aF g true 1 (af (call 92 [ae b 0,.str [44]]) fun h=>af (ah (eX UnOp.not h)) fun i=>ay [i])) fun j=>af (ah (aI g (ae j 0) (.bool false))) fun k=>aA k (af (ah (aT T false 81 [])) fun l=>af (ah (fl T 81 l)) fun m=>af (sZ m) fun n=>e [ae b 0,ae b 1,ae b 2,ae b 3,ae b 4,ae b 5,ae b 6,ae b 7,ae b 8,ae b 9]) (e [ae b 0,ae b 1,ae b 2,ae b 3,ae b 4,ae b 5,ae b 6,ae b 7,ae b 8,ae b 9])) (af (az 4 [] (.agg [ae b 6,ae b 7,ae b 8,ae b 9])) fun o=>ay (.agg [ae (aa o) 0,ae (aa o) 1,ae (aa o) 2,ae (aa o) 3]))
def K54_2(call:CC)(fx:bp AV)(a:List AV):M AV:=af (call 92 [ae a 0,.str [123]]) fun b=>af (ah (eX UnOp.not b)) fun c=>aA c (af (call 94 [ae a 0,.str [44,125]]) fun d=>af (call 93 [d]) fun e=>af (az 4 [] e) fun f=>ay (.agg [ae (aa f) 0,ae (aa f) 1,ae (aa f) 2,ae (aa f) 3])) (af (ah (aT T true 45 [(0,.int .i64 2)])) fun g=>af (az 4 [2,3] g) fun h=>fx (L54_0 call fx) [ae a 0,ae a 1,ae a 2,ae a 3,ae a 4,ae a 5,ae (aa h) 0,ae (aa h) 1,.sl [],.sl []])
def XK54_0{call:CC}{a:RR}{b:Nat->RR}(c:bG a fun n=>b n):bG (K54_0 call ao a) fun n=>K54_0 call ao (b n):=by
 intro d;unfold K54_0;exact (by(iterate 8 refine lb fun _=>?_);exact (c _))
def XK54_1{call:CC}{a:RR}{b:Nat->RR}(c:bG a fun n=>b n):bG (K54_1 call ao a) fun n=>K54_1 call ao (b n):=by
 intro d;unfold K54_1;exact (lb fun _=>(rI (XK54_0 c) fun _ _ e=>(lb fun _=>(lb fun _=>(lb fun _=>(lb fun _=>(aC (lb fun _=>(lb fun _=>(lb fun _=>e _))) (e _))))))))
def XL54_0{call:CC}:bD (L54_0 call ao) fun _n=>L54_0 call ao  :=by
 intro a b c d;unfold L54_0;exact (lb fun _=>(lb fun _=>(aC (rI (XK54_1 c) fun _ _ e=>(lb fun _=>(lb fun _=>(lb fun _=>(lb fun _=>(aC (lb fun _=>(lb fun _=>(lb fun _=>e _))) (e _))))))) (ba _))))
def FL54_0(call:CC)(vs:List AV):ao (L54_0 call ao) vs=L54_0 call ao  (ao (L54_0 call ao)) vs:=aU (XL54_0) vs
def S54(call:CC)(fx:bp AV)(a0 a1:AV):M AV:=jn (K54_2 call fx) fun a=>af (ah (aw T .eql 3 a1 (.int .i64 0))) fun b=>aA b (af (ah (aT T false 81 [])) fun c=>af (ah (fl T 81 c)) fun d=>af (sZ d) fun e=>a [a0,a1,.int .i64 0,.int .i64 0,.sl [],.sl []]) (a [a0,a1,.int .i64 0,.int .i64 0,.sl [],.sl []])
def E54(a0 a1:AV):EE 54 Tryz.f54 Ju [a0,a1] (fun c x=>S54 c x a0 a1):=fun _ _=>by kernel_rfl
def C54(a0 a1:AV):aj pg 54 [a0,a1]=S54 (aj pg) ao a0 a1:=(b7 aH rfl rfl rfl _).trans (E54 a0 a1 _ _)
def S55(call:CC)(fx:bp AV)(a0 a1:AV):M AV:=af (ah (ab T 35 (.ip (aa a0)) 0)) fun a=>af (ah (ai T 3 a)) fun b=>af (ah (ab T 45 (.ip (aa a1)) 0)) fun c=>af (ah (ai T 3 c)) fun d=>af (ah (aw T .eql 3 b d)) fun e=>af (aF e true 1 (af (ah (ab T 35 (.ip (aa a0)) 1)) fun f=>af (ah (ai T 23 f)) fun g=>af (call 96 [g,.fn (Fn.func 97) [] [.ip (aa a1)]]) fun h=>af (ah (eX UnOp.not h)) fun i=>ay [i])) fun j=>af (ah (aI e (ae j 0) (.bool false))) fun k=>ay k
def E55(a0 a1:AV):EE 55 Tryz.f55 Jv [a0,a1] (fun c x=>S55 c x a0 a1):=fun _ _=>by kernel_rfl
def C55(a0 a1:AV):aj pg 55 [a0,a1]=aJ (S55 (aj pg) ao (cl aB a0) (cl aB a1)):=(aD aH rfl rfl rfl _).trans (PR aJ (E55 (cl aB a0) (cl aB a1) _ _))
def S56(call:CC)(fx:bp AV)(a0:AV):M AV:=af (ah (ai T 35 (.ip (aa a0)))) fun a=>af (call 99 [a,.int .i64 4]) fun b=>ay b
def E56(a0:AV):EE 56 Tryz.f56 Jw [a0] (fun c x=>S56 c x a0):=fun _ _=>by kernel_rfl
def C56(a0:AV):aj pg 56 [a0]=aJ (S56 (aj pg) ao (cl aB a0)):=(aD aH rfl rfl rfl _).trans (PR aJ (E56 (cl aB a0) _ _))
def S58(call:CC)(fx:bp AV)(a0:AV):M AV:=af (ah (ai T 35 (.ip (aa a0)))) fun a=>af (call 102 [a]) fun b=>ay b
def E58(a0:AV):EE 58 Tryz.f58 Jy [a0] (fun c x=>S58 c x a0):=fun _ _=>by kernel_rfl
def C58(a0:AV):aj pg 58 [a0]=aJ (S58 (aj pg) ao (cl aB a0)):=(aD aH rfl rfl rfl _).trans (PR aJ (E58 (cl aB a0) _ _))
def L63_0(call:CC)(fx:bp AV)(a:RR)(b:List AV):M AV:=af (ah (ab T 45 (ae b 0) 2)) fun c=>af (ah (ai T 22 c)) fun d=>af (ah (aN T 22 d)) fun e=>af (ah (aw T .lss 3 (ae b 2) e)) fun f=>aA f (af (ah (ab T 45 (ae b 0) 2)) fun g=>af (ah (ai T 22 g)) fun h=>af (ah (au T 22 h (ae b 2))) fun i=>af (ah (ai T 9 i)) fun j=>af (ah (ab T 45 (ae b 1) 2)) fun k=>af (ah (ai T 22 k)) fun l=>af (ah (au T 22 l (ae b 2))) fun m=>af (ah (ai T 9 m)) fun n=>af (ah (aw T .neq 9 j n)) fun o=>af (aF o false 1 (af (ah (ab T 45 (ae b 0) 3)) fun p=>af (ah (ai T 30 p)) fun q=>af (ah (au T 30 q (ae b 2))) fun r=>af (ah (ai T 45 r)) fun s=>af (ah (ab T 45 (ae b 1) 3)) fun u=>af (ah (ai T 30 u)) fun v=>af (ah (au T 30 v (ae b 2))) fun w=>af (ah (ai T 45 w)) fun x=>af (bX (call 63 [s,x])) fun y=>af (ah (eX UnOp.not y)) fun z=>ay [z])) fun A=>af (ah (aI o (.bool true) (ae A 0))) fun B=>aA B (ay (.bool false)) (af (ah (aw T .add 3 (ae b 2) (.int .i64 1))) fun C=>a [ae b 0,ae b 1,C])) (ay (.bool true))
def XL63_0{call:CC}:bD (L63_0 call ao) fun _n=>L63_0 call ao  :=by
 intro a b c d;unfold L63_0;exact (lb fun _=>(lb fun _=>(lb fun _=>(lb fun _=>(aC (by(iterate 11 refine lb fun _=>?_);exact (aC (ba _) (lb fun _=>c _))) (ba _))))))
def FL63_0(call:CC)(vs:List AV):ao (L63_0 call ao) vs=L63_0 call ao  (ao (L63_0 call ao)) vs:=aU (XL63_0) vs
def S63(call:CC)(fx:bp AV)(a0 a1:AV):M AV:=af (ah (ab T 45 (.ip (aa a0)) 0)) fun a=>af (ah (ai T 3 a)) fun b=>af (ah (ab T 45 (.ip (aa a1)) 0)) fun c=>af (ah (ai T 3 c)) fun d=>af (ah (aw T .neq 3 b d)) fun e=>af (aF e false 1 (af (ah (ab T 45 (.ip (aa a0)) 1)) fun f=>af (ah (ai T 3 f)) fun g=>af (ah (ab T 45 (.ip (aa a1)) 1)) fun h=>af (ah (ai T 3 h)) fun i=>af (ah (aw T .neq 3 g i)) fun j=>ay [j])) fun k=>af (ah (aI e (.bool true) (ae k 0))) fun l=>af (aF l false 1 (af (ah (ab T 45 (.ip (aa a0)) 2)) fun m=>af (ah (ai T 22 m)) fun n=>af (ah (aN T 22 n)) fun o=>af (ah (ab T 45 (.ip (aa a1)) 2)) fun p=>af (ah (ai T 22 p)) fun q=>af (ah (aN T 22 q)) fun r=>af (ah (aw T .neq 3 o r)) fun s=>ay [s])) fun u=>af (ah (aI l (.bool true) (ae u 0))) fun v=>aA v (ay (.bool false)) (fx (L63_0 call fx) [.ip (aa a0),.ip (aa a1),.int .i64 0])
def E63(a0 a1:AV):EE 63 Tryz.f63 JE [a0,a1] (fun c x=>S63 c x a0 a1):=fun _ _=>by kernel_rfl
def C63(a0 a1:AV):aj pg 63 [a0,a1]=aJ (S63 (aj pg) ao (cl aB a0) (cl aB a1)):=(aD aH rfl rfl rfl _).trans (PR aJ (E63 (cl aB a0) (cl aB a1) _ _))
def L71_0(call:CC)(fx:bp AV)(a:RR)(b:List AV):M AV:=af (ah (aN T 30 (ae b 0))) fun c=>af (ah (aw T .lss 3 (ae b 2) c)) fun d=>aA d (af (ah (au T 30 (ae b 0) (ae b 2))) fun e=>af (ah (ai T 45 e)) fun f=>af (ah (au T 30 (ae b 1) (ae b 2))) fun g=>af (ah (ai T 45 g)) fun h=>af (bX (call 28 [f,h])) fun i=>af (ah (eX UnOp.not i)) fun j=>aA j (ay (.bool false)) (af (ah (aw T .add 3 (ae b 2) (.int .i64 1))) fun k=>a [ae b 0,ae b 1,k])) (ay (.bool true))
def XL71_0{call:CC}:bD (L71_0 call ao) fun _n=>L71_0 call ao  :=by
 intro a b c d;unfold L71_0;exact (lb fun _=>(lb fun _=>(aC (by(iterate 6 refine lb fun _=>?_);exact (aC (ba _) (lb fun _=>c _))) (ba _))))
def FL71_0(call:CC)(vs:List AV):ao (L71_0 call ao) vs=L71_0 call ao  (ao (L71_0 call ao)) vs:=aU (XL71_0) vs
def S71(call:CC)(fx:bp AV)(a0 a1:AV):M AV:=af (ah (aN T 30 a0)) fun a=>af (ah (aN T 30 a1)) fun b=>af (ah (aw T .neq 3 a b)) fun c=>aA c (ay (.bool false)) (fx (L71_0 call fx) [a0,a1,.int .i64 0])
def E71(a0 a1:AV):EE 71 Tryz.f71 JM [a0,a1] (fun c x=>S71 c x a0 a1):=fun _ _=>by kernel_rfl
def C71(a0 a1:AV):aj pg 71 [a0,a1]=aJ (S71 (aj pg) ao (cl aB a0) (cl aB a1)):=(aD aH rfl rfl rfl _).trans (PR aJ (E71 (cl aB a0) (cl aB a1) _ _))
def L83_0(call:CC)(fx:bp AV)(a:RR)(b:List AV):M AV:=af (ah (aw T .lss 3 (ae b 4) (ae b 3))) fun c=>aA c (af (ah (au T 23 (ae b 2) (ae b 4))) fun d=>af (ah (ai T 37 d)) fun e=>af (aW 3 e) fun f=>af (ah (au T 23 (ae b 0) (ae b 4))) fun g=>af (ah (ai T 37 g)) fun h=>af (aW 3 h) fun i=>af (ah (ai T 37 (.ip (aa f)))) fun j=>af (ah (ai T 37 (.ip (aa i)))) fun k=>af (cX call (ae b 1) [j,k]) fun l=>af (ah (eX UnOp.not l)) fun m=>aA m (ay (.bool false)) (af (ah (aw T .add 3 (ae b 4) (.int .i64 1))) fun n=>a [ae b 0,ae b 1,ae b 2,ae b 3,n])) (ay (.bool true))
def XL83_0{call:CC}:bD (L83_0 call ao) fun _n=>L83_0 call ao  :=by
 intro a b c d;unfold L83_0;exact (lb fun _=>(aC (by(iterate 10 refine lb fun _=>?_);exact (aC (ba _) (lb fun _=>c _))) (ba _)))
def FL83_0(call:CC)(vs:List AV):ao (L83_0 call ao) vs=L83_0 call ao  (ao (L83_0 call ao)) vs:=aU (XL83_0) vs
def S83(call:CC)(fx:bp AV)(a0 a1 a2:AV):M AV:=af (ah (aN T 23 a0)) fun a=>af (ah (aN T 23 a1)) fun b=>af (ah (aw T .neq 3 a b)) fun c=>aA c (ay (.bool false)) (af (ah (aN T 23 a0)) fun d=>fx (L83_0 call fx) [a1,a2,a0,d,.int .i64 0])
def E83(a0 a1 a2:AV):EE 83 Tryz.f83 JR [a0,a1,a2] (fun c x=>S83 c x a0 a1 a2):=fun _ _=>by kernel_rfl
def C83(a0 a1 a2:AV):aj pg 83 [a0,a1,a2]=aJ (S83 (aj pg) ao (cl aB a0) (cl aB a1) (cl aB a2)):=(aD aH rfl rfl rfl _).trans (PR aJ (E83 (cl aB a0) (cl aB a1) (cl aB a2) _ _))
def S84(call:CC)(fx:bp AV)(a0 a1:AV):M AV:=af (ah (ab T 37 (.ip (aa a0)) 0)) fun a=>af (ah (ai T 9 a)) fun b=>af (ah (ab T 37 (.ip (aa a1)) 0)) fun c=>af (ah (ai T 9 c)) fun d=>af (ah (aw T .eql 9 b d)) fun e=>af (aF e true 1 (af (ah (ab T 37 (.ip (aa a0)) 1)) fun f=>af (ah (ai T 35 f)) fun g=>af (ah (ab T 37 (.ip (aa a1)) 1)) fun h=>af (ah (ai T 35 h)) fun i=>af (call 39 [g,i]) fun j=>ay [j])) fun k=>af (ah (aI e (ae k 0) (.bool false))) fun l=>ay l
def E84(a0 a1:AV):EE 84 Tryz.f84 JS [a0,a1] (fun c x=>S84 c x a0 a1):=fun _ _=>by kernel_rfl
def C84(a0 a1:AV):aj pg 84 [a0,a1]=aJ (S84 (aj pg) ao (cl aB a0) (cl aB a1)):=(aD aH rfl rfl rfl _).trans (PR aJ (E84 (cl aB a0) (cl aB a1) _ _))
def S92(call:CC)(fx:bp AV)(a0 a1:AV):M AV:=af (ah (aV a0)) fun a=>af (ah (ab T 85 a 0)) fun b=>af (bi T 9 b) fun c=>af (call 140 [c,a1]) fun d=>af (ah (aQ d 0)) fun e=>af (ah (aQ d 1)) fun f=>af (ah (aV a0)) fun g=>af (ah (ab T 85 g 0)) fun h=>af (cq T 9 h e) fun i=>ay f
def E92(a0 a1:AV):EE 92 Tryz.f92 JX [a0,a1] (fun c x=>S92 c x a0 a1):=fun _ _=>by kernel_rfl
def C92(a0 a1:AV):aj pg 92 [a0,a1]=S92 (aj pg) ao a0 a1:=(b7 aH rfl rfl rfl _).trans (E92 a0 a1 _ _)
def L106_0(call:CC)(fx:bp AV)(a:RR)(b:List AV):M AV:=af (ah (aw T .lss 3 (ae b 3) (ae b 2))) fun c=>aA c (af (ah (au T 92 (ae b 1) (ae b 3))) fun d=>af (ah (ai T 29 d)) fun e=>af (aW 9 e) fun f=>af (ah (cV T 92 (ae b 0) none (some (ae b 3)) none)) fun g=>af (call 148 [g,.fn (Fn.func 149) [] [.ip (aa f)]]) fun h=>aA h (ay (.int .i64 5)) (af (ah (aw T .add 3 (ae b 3) (.int .i64 1))) fun i=>a [ae b 0,ae b 1,ae b 2,i])) (ay (.int .i64 0))
def XL106_0{call:CC}:bD (L106_0 call ao) fun _n=>L106_0 call ao  :=by
 intro a b c d;unfold L106_0;exact (lb fun _=>(aC (by(iterate 5 refine lb fun _=>?_);exact (aC (ba _) (lb fun _=>c _))) (ba _)))
def FL106_0(call:CC)(vs:List AV):ao (L106_0 call ao) vs=L106_0 call ao  (ao (L106_0 call ao)) vs:=aU (XL106_0) vs
def S106(call:CC)(fx:bp AV)(a0:AV):M AV:=af (ah (aN T 92 a0)) fun a=>af (ah (aw T .gtr 3 a (.int .i64 20))) fun b=>aA b (ay (.int .i64 6)) (af (ah (aN T 92 a0)) fun c=>fx (L106_0 call fx) [a0,a0,c,.int .i64 0])
def E106(a0:AV):EE 106 Tryz.f106 DD [a0] (fun c x=>S106 c x a0):=fun _ _=>by kernel_rfl
def C106(a0:AV):aj pg 106 [a0]=aJ (S106 (aj pg) ao (cl aB a0)):=(aD aH rfl rfl rfl _).trans (PR aJ (E106 (cl aB a0) _ _))
def L107_0(call:CC)(fx:bp AV)(a:RR)(b:List AV):M AV:=af (ah (aN T 92 (ae b 0))) fun c=>af (ah (aw T .lss 3 (ae b 1) c)) fun d=>aA d (af (ah (au T 92 (ae b 0) (ae b 1))) fun e=>af (ah (ab T 29 e 0)) fun f=>af (ah (ai T 9 f)) fun g=>af (call 150 [ae b 0,g]) fun h=>af (ah (aw T .neq 3 h (ae b 1))) fun i=>aA i (ay (.int .i64 5)) (af (ah (aw T .add 3 (ae b 1) (.int .i64 1))) fun j=>a [ae b 0,j])) (ay (.int .i64 0))
def XL107_0{call:CC}:bD (L107_0 call ao) fun _n=>L107_0 call ao  :=by
 intro a b c d;unfold L107_0;exact (lb fun _=>(lb fun _=>(aC (by(iterate 5 refine lb fun _=>?_);exact (aC (ba _) (lb fun _=>c _))) (ba _))))
def FL107_0(call:CC)(vs:List AV):ao (L107_0 call ao) vs=L107_0 call ao  (ao (L107_0 call ao)) vs:=aU (XL107_0) vs
def S107(call:CC)(fx:bp AV)(a0:AV):M AV:=af (ah (aN T 92 a0)) fun a=>af (ah (aw T .gtr 3 a (.int .i64 20))) fun b=>aA b (ay (.int .i64 6)) (fx (L107_0 call fx) [a0,.int .i64 0])
def E107(a0:AV):EE 107 Tryz.f107 DF [a0] (fun c x=>S107 c x a0):=fun _ _=>by kernel_rfl
def C107(a0:AV):aj pg 107 [a0]=aJ (S107 (aj pg) ao (cl aB a0)):=(aD aH rfl rfl rfl _).trans (PR aJ (E107 (cl aB a0) _ _))
def S108(call:CC)(fx:bp AV)(a0 a1 a2:AV):M AV:=af (ah (aN T 22 a1)) fun a=>af (ah (aN T 30 a2)) fun b=>af (ah (aw T .neq 3 a b)) fun c=>af (aF c false 1 (af (call 151 [a2]) fun d=>af (ah (eX UnOp.not d)) fun e=>ay [e])) fun f=>af (ah (aI c (.bool true) (ae f 0))) fun g=>aA g (af (ah (aT T false 45 [])) fun h=>af (az 4 [] h) fun i=>ay (.tup [.agg [ae (aa i) 0,ae (aa i) 1,ae (aa i) 2,ae (aa i) 3],.int .i64 1])) (af (ah (aT T true 182 [(4,.int .i64 100000)])) fun j=>af (newH (aa j)) fun k=>af (ah (aT T false 185 [(0,.int .i64 (-1)),(1,a1),(2,a2)])) fun l=>af (ah (ai T 66 (.ip (aa a0)))) fun m=>af (call 152 [k,l,m]) fun n=>af (aW 4 n) fun o=>af (ah (aV k)) fun p=>af (ah (ab T 182 p 1)) fun q=>af (ah (ab T 162 q 0)) fun r=>af (bi T 39 r) fun s=>af (ah (aw T .neq 39 s (.int .i64 0))) fun u=>aA u (af (ah (aT T false 45 [])) fun v=>af (ah (aV k)) fun w=>af (ah (ab T 182 w 1)) fun x=>af (ah (ab T 162 x 0)) fun y=>af (bi T 39 y) fun z=>af (az 4 [] v) fun A=>ay (.tup [.agg [ae (aa A) 0,ae (aa A) 1,ae (aa A) 2,ae (aa A) 3],z])) (af (ah (ai T 45 (.ip (aa o)))) fun B=>af (az 4 [] B) fun C=>ay (.tup [.agg [ae (aa C) 0,ae (aa C) 1,ae (aa C) 2,ae (aa C) 3],.int .i64 0])))
def E108(a0 a1 a2:AV):EE 108 Tryz.f108 DG [a0,a1,a2] (fun c x=>S108 c x a0 a1 a2):=fun _ _=>by kernel_rfl
def C108(a0 a1 a2:AV):aj pg 108 [a0,a1,a2]=aJ (S108 (aj pg) ao (cl aB a0) (cl aB a1) (cl aB a2)):=(aD aH rfl rfl rfl _).trans (PR aJ (E108 (cl aB a0) (cl aB a1) (cl aB a2) _ _))
def K134_0(call:CC)(fx:bp AV)(a:List AV):M AV:=af (ah (ai T 168 (ae a 1))) fun b=>af (ah (ai T 66 (ae a 2))) fun c=>af (call 175 [ae a 0,b,c]) fun d=>af (az 4 [] d) fun e=>ay (.agg [ae (aa e) 0,ae (aa e) 1,ae (aa e) 2,ae (aa e) 3])
def L134_0(call:CC)(fx:bp AV)(a:RR)(b:RR)(c:List AV):M AV:=af (ah (aw T .geq 3 (ae c 3) (.int .i64 0))) fun d=>aA d (af (ah (ab T 168 (ae c 1) 1)) fun e=>af (ah (ai T 22 e)) fun f=>af (ah (au T 22 f (ae c 3))) fun g=>af (ah (ai T 9 g)) fun h=>af (ah (ab T 66 (ae c 2) 2)) fun i=>af (ah (ai T 9 i)) fun j=>af (ah (aw T .eql 9 h j)) fun k=>aA k (af (ah (ab T 168 (ae c 1) 2)) fun l=>af (ah (ai T 30 l)) fun m=>af (ah (au T 30 m (ae c 3))) fun n=>af (ah (ai T 45 n)) fun o=>af (az 4 [] o) fun p=>ay (.agg [ae (aa p) 0,ae (aa p) 1,ae (aa p) 2,ae (aa p) 3])) (af (ah (aw T .sub 3 (ae c 3) (.int .i64 1))) fun q=>b [ae c 0,ae c 1,ae c 2,q,ae c 4,ae c 5,ae c 6,ae c 7])) (af (ah (fl T 39 (.int .i64 12))) fun r=>af (sZ r) fun s=>a [ae c 0,ae c 1,ae c 2,ae c 4,ae c 5,ae c 6,ae c 7])
def K134_1(call:CC)(fx:bp AV)(a:RR)(b:List AV):M AV:=aA (ae b 4) (af (ah (ai T 168 (ae b 1))) fun c=>af (ah (ab T 66 (ae b 2) 5)) fun d=>af (ah (ai T 24 d)) fun e=>af (ah (au T 24 e (.int .i64 0))) fun f=>af (ah (ai T 66 f)) fun g=>af (ah (ab T 66 (ae b 2) 0)) fun h=>af (ah (ai T 3 h)) fun i=>af (ah (aw T .eql 3 i (.int .i64 9))) fun j=>af (call 171 [ae b 0,c,g]) fun k=>af (ah (aw T .eql 4 k j)) fun l=>aA l (af (ah (ab T 66 (ae b 2) 0)) fun m=>af (ah (ai T 3 m)) fun n=>af (ah (aw T .eql 3 n (.int .i64 9))) fun o=>af (call 169 [o]) fun p=>af (az 4 [] p) fun q=>ay (.agg [ae (aa q) 0,ae (aa q) 1,ae (aa q) 2,ae (aa q) 3])) (af (ah (ai T 168 (ae b 1))) fun r=>af (ah (ab T 66 (ae b 2) 5)) fun s=>af (ah (ai T 24 s)) fun u=>af (ah (au T 24 u (.int .i64 1))) fun v=>af (ah (ai T 66 v)) fun w=>af (call 171 [ae b 0,r,w]) fun x=>af (bX (call 169 [x])) fun y=>af (az 4 [] y) fun z=>ay (.agg [ae (aa z) 0,ae (aa z) 1,ae (aa z) 2,ae (aa z) 3]))) (af (ah (aw T .eql 3 (ae b 3) (.int .i64 10))) fun A=>aA A (af (ah (ai T 168 (ae b 1))) fun B=>af (ah (ab T 66 (ae b 2) 5)) fun C=>af (ah (ai T 24 C)) fun D=>af (ah (au T 24 D (.int .i64 0))) fun E=>af (ah (ai T 66 E)) fun F=>af (call 171 [ae b 0,B,F]) fun G=>af (ah (eX UnOp.not G)) fun H=>af (bX (call 169 [H])) fun I=>af (az 4 [] I) fun J=>ay (.agg [ae (aa J) 0,ae (aa J) 1,ae (aa J) 2,ae (aa J) 3])) (af (ah (aw T .eql 3 (ae b 3) (.int .i64 11))) fun K=>aA K (af (ah (ai T 168 (ae b 1))) fun L=>af (ah (ab T 66 (ae b 2) 5)) fun N=>af (ah (ai T 24 N)) fun O=>af (ah (au T 24 O (.int .i64 0))) fun P=>af (ah (ai T 66 P)) fun Q=>af (call 171 [ae b 0,L,Q]) fun R=>aA R (af (ah (ai T 168 (ae b 1))) fun S=>af (ah (ab T 66 (ae b 2) 5)) fun U=>af (ah (ai T 24 U)) fun V=>af (ah (au T 24 V (.int .i64 1))) fun W=>af (ah (ai T 66 W)) fun X=>af (call 134 [ae b 0,S,X]) fun Y=>af (az 4 [] Y) fun Z=>ay (.agg [ae (aa Z) 0,ae (aa Z) 1,ae (aa Z) 2,ae (aa Z) 3])) (af (ah (ai T 168 (ae b 1))) fun u0=>af (ah (ab T 66 (ae b 2) 5)) fun u1=>af (ah (ai T 24 u1)) fun u2=>af (ah (au T 24 u2 (.int .i64 2))) fun u3=>af (ah (ai T 66 u3)) fun u4=>af (call 134 [ae b 0,u0,u4]) fun u5=>af (az 4 [] u5) fun u6=>ay (.agg [ae (aa u6) 0,ae (aa u6) 1,ae (aa u6) 2,ae (aa u6) 3]))) (af (ah (aw T .eql 3 (ae b 3) (.int .i64 12))) fun u7=>aA u7 (af (ah (ai T 168 (ae b 1))) fun u8=>af (ah (ab T 66 (ae b 2) 2)) fun u9=>af (ah (ai T 9 u9)) fun v0=>af (ah (ai T 168 (ae b 1))) fun v1=>af (ah (ab T 66 (ae b 2) 5)) fun v2=>af (ah (ai T 24 v2)) fun v3=>af (ah (au T 24 v3 (.int .i64 0))) fun v4=>af (ah (ai T 66 v4)) fun v5=>af (ah (ab T 66 (ae b 2) 5)) fun v6=>af (ah (ai T 24 v6)) fun v7=>af (ah (au T 24 v7 (.int .i64 1))) fun v8=>af (ah (ai T 66 v8)) fun v9=>af (call 134 [ae b 0,v1,v5]) fun w0=>af (bX (call 172 [u8,v0,w0])) fun w1=>af (call 134 [ae b 0,w1,v9]) fun w2=>af (az 4 [] w2) fun w3=>ay (.agg [ae (aa w3) 0,ae (aa w3) 1,ae (aa w3) 2,ae (aa w3) 3])) (af (ah (aw T .eql 3 (ae b 3) (.int .i64 13))) fun w4=>aA w4 (af (ah (ai T 168 (ae b 1))) fun w5=>af (ah (ai T 66 (ae b 2))) fun w6=>af (call 173 [ae b 0,w5,w6]) fun w7=>af (az 4 [] w7) fun w8=>ay (.agg [ae (aa w8) 0,ae (aa w8) 1,ae (aa w8) 2,ae (aa w8) 3])) (af (ah (aw T .eql 3 (ae b 3) (.int .i64 14))) fun w9=>aA w9 (af (ah (ai T 168 (ae b 1))) fun x0=>af (ah (ab T 66 (ae b 2) 5)) fun x1=>af (ah (ai T 24 x1)) fun x2=>af (ah (au T 24 x2 (.int .i64 0))) fun x3=>af (ah (ai T 66 x3)) fun x4=>af (call 134 [ae b 0,x0,x4]) fun x5=>af (aW 4 x5) fun x6=>af (ah (ab T 45 (.ip (aa x6)) 2)) fun x7=>af (ah (ai T 22 x7)) fun x8=>af (ah (ab T 66 (ae b 2) 2)) fun x9=>af (ah (ai T 9 x9)) fun y0=>af (call 98 [x8,y0]) fun y1=>af (ah (ab T 45 (.ip (aa x6)) 0)) fun y2=>af (ah (ai T 3 y2)) fun y3=>af (ah (aw T .eql 3 y3 (.int .i64 2))) fun y4=>af (aF y4 true 1 (af (ah (aw T .geq 3 y1 (.int .i64 0))) fun y5=>ay [y5])) fun y6=>af (ah (aI y4 (ae y6 0) (.bool false))) fun y7=>af (call 166 [y7,.int .i64 13]) fun y8=>af (ah (ab T 45 (.ip (aa x6)) 3)) fun y9=>af (ah (ai T 30 y9)) fun z0=>af (ah (au T 30 z0 y1)) fun z1=>af (ah (ai T 45 z1)) fun z2=>af (az 4 [] z2) fun z3=>ay (.agg [ae (aa z3) 0,ae (aa z3) 1,ae (aa z3) 2,ae (aa z3) 3])) (af (ah (aw T .eql 3 (ae b 3) (.int .i64 15))) fun z4=>aA z4 (af (ah (ai T 168 (ae b 1))) fun z5=>af (ah (ai T 66 (ae b 2))) fun z6=>af (call 174 [ae b 0,z5,z6]) fun z7=>af (az 4 [] z7) fun z8=>ay (.agg [ae (aa z8) 0,ae (aa z8) 1,ae (aa z8) 2,ae (aa z8) 3])) (a [ae b 0,ae b 1,ae b 2,ae b 5,ae b 6,ae b 7,ae b 8])))))))
def K134_2(call:CC)(fx:bp AV)(a:RR)(b:List AV):M AV:=aA (ae b 4) (af (ah (ab T 66 (ae b 2) 0)) fun c=>af (ah (ai T 3 c)) fun d=>af (ah (ai T 168 (ae b 1))) fun e=>af (ah (ab T 66 (ae b 2) 5)) fun f=>af (ah (ai T 24 f)) fun g=>af (ah (au T 24 g (.int .i64 0))) fun h=>af (ah (ai T 66 h)) fun i=>af (ah (ai T 168 (ae b 1))) fun j=>af (ah (ab T 66 (ae b 2) 5)) fun k=>af (ah (ai T 24 k)) fun l=>af (ah (au T 24 l (.int .i64 1))) fun m=>af (ah (ai T 66 m)) fun n=>af (call 134 [ae b 0,e,i]) fun o=>af (call 134 [ae b 0,j,n]) fun p=>af (call 170 [d,o,p]) fun q=>af (az 4 [] q) fun r=>ay (.agg [ae (aa r) 0,ae (aa r) 1,ae (aa r) 2,ae (aa r) 3])) (jn (K134_1 call fx a) fun s=>af (ah (aw T .eql 3 (ae b 3) (.int .i64 8))) fun u=>aA u (s [ae b 0,ae b 1,ae b 2,ae b 3,u,ae b 5,ae b 6,ae b 7,ae b 8]) (af (ah (aw T .eql 3 (ae b 3) (.int .i64 9))) fun v=>s [ae b 0,ae b 1,ae b 2,ae b 3,v,ae b 5,ae b 6,ae b 7,ae b 8]))
def XL134_0{call:CC}{a:RR}{b:Nat->RR}(c:bG a fun n=>b n):bD (L134_0 call ao a) fun n=>L134_0 call ao (b n):=by
 intro d e f g;unfold L134_0;exact (lb fun _=>(aC (by(iterate 7 refine lb fun _=>?_);exact (aC (ba _) (lb fun _=>f _))) (lb fun _=>(lb fun _=>c _))))
def FL134_0(call:CC)(a:RR)(vs:List AV):ao (L134_0 call ao a) vs=L134_0 call ao a (ao (L134_0 call ao a)) vs:=aU (XL134_0 (bG.const _)) vs
def S134(call:CC)(fx:bp AV)(a0 a1 a2:AV):M AV:=af (ah (aV a0)) fun a=>af (ah (ab T 164 a 2)) fun b=>af (bi T 3 b) fun c=>af (ah (aw T .gtr 3 c (.int .i64 0))) fun d=>af (call 166 [d,.int .i64 16]) fun e=>af (ah (aV a0)) fun f=>af (ah (ab T 164 f 2)) fun g=>af (bi T 3 g) fun h=>af (ah (aw T .sub 3 h (.int .i64 1))) fun i=>af (ah (aV a0)) fun j=>af (ah (ab T 164 j 2)) fun k=>af (cq T 3 k i) fun l=>af (ah (ab T 66 (.ip (aa a2)) 0)) fun m=>af (ah (ai T 3 m)) fun n=>af (call 167 [n]) fun o=>af (ah (aw T .neq 3 o (.int .i64 (-2)))) fun p=>af (aF p true 1 (af (ah (aw T .eql 3 o (.int .i64 (-1)))) fun q=>ay [q])) fun r=>af (aF (ae r 0) false 1 (af (ah (ab T 66 (.ip (aa a2)) 5)) fun s=>af (ah (ai T 24 s)) fun u=>af (ah (aN T 24 u)) fun v=>af (ah (aw T .eql 3 o v)) fun w=>ay [w])) fun x=>af (aF p true 1 (af (ah (aI (ae r 0) (.bool true) (ae x 0))) fun y=>ay [y])) fun z=>af (ah (aI p (ae z 0) (.bool false))) fun A=>af (call 166 [A,.int .i64 13]) fun B=>jn (K134_0 call fx) fun C=>af (ah (ab T 66 (.ip (aa a2)) 0)) fun D=>af (ah (ai T 3 D)) fun E=>af (ah (aw T .eql 3 E (.int .i64 0))) fun F=>aA F (af (ah (ab T 66 (.ip (aa a2)) 1)) fun G=>af (ah (ai T 3 G)) fun H=>af (call 168 [H]) fun I=>af (az 4 [] I) fun J=>ay (.agg [ae (aa J) 0,ae (aa J) 1,ae (aa J) 2,ae (aa J) 3])) (af (ah (aw T .eql 3 E (.int .i64 1))) fun K=>aA K (af (ah (ab T 66 (.ip (aa a2)) 1)) fun L=>af (ah (ai T 3 L)) fun N=>af (ah (aw T .eql 3 N (.int .i64 0))) fun O=>af (aF O false 1 (af (ah (ab T 66 (.ip (aa a2)) 1)) fun P=>af (ah (ai T 3 P)) fun Q=>af (ah (aw T .eql 3 Q (.int .i64 1))) fun R=>ay [R])) fun S=>af (ah (aI O (.bool true) (ae S 0))) fun U=>af (call 166 [U,.int .i64 13]) fun V=>af (ah (ab T 66 (.ip (aa a2)) 1)) fun W=>af (ah (ai T 3 W)) fun X=>af (ah (aw T .eql 3 X (.int .i64 1))) fun Y=>af (call 169 [Y]) fun Z=>af (az 4 [] Z) fun u0=>ay (.agg [ae (aa u0) 0,ae (aa u0) 1,ae (aa u0) 2,ae (aa u0) 3])) (af (ah (aw T .eql 3 E (.int .i64 2))) fun u1=>aA u1 (af (ah (ab T 168 (.ip (aa a1)) 1)) fun u2=>af (ah (ai T 22 u2)) fun u3=>af (ah (aN T 22 u3)) fun u4=>af (ah (aw T .sub 3 u4 (.int .i64 1))) fun u5=>fx (L134_0 call fx C) [a0,.ip (aa a1),.ip (aa a2),u5,.int .i64 0,.int .i64 0,.sl [],.sl []]) (jn (K134_2 call fx C) fun u6=>af (ah (aw T .eql 3 E (.int .i64 3))) fun u7=>aA u7 (u6 [a0,.ip (aa a1),.ip (aa a2),E,u7,.int .i64 0,.int .i64 0,.sl [],.sl []]) (af (ah (aw T .eql 3 E (.int .i64 4))) fun u8=>aA u8 (u6 [a0,.ip (aa a1),.ip (aa a2),E,u8,.int .i64 0,.int .i64 0,.sl [],.sl []]) (af (ah (aw T .eql 3 E (.int .i64 5))) fun u9=>aA u9 (u6 [a0,.ip (aa a1),.ip (aa a2),E,u9,.int .i64 0,.int .i64 0,.sl [],.sl []]) (af (ah (aw T .eql 3 E (.int .i64 6))) fun w0=>aA w0 (u6 [a0,.ip (aa a1),.ip (aa a2),E,w0,.int .i64 0,.int .i64 0,.sl [],.sl []]) (af (ah (aw T .eql 3 E (.int .i64 7))) fun w1=>u6 [a0,.ip (aa a1),.ip (aa a2),E,w1,.int .i64 0,.int .i64 0,.sl [],.sl []])))))))
def E134(a0 a1 a2:AV):EE 134 Tryz.f134 DT [a0,a1,a2] (fun c x=>S134 c x a0 a1 a2):=fun _ _=>by kernel_rfl
def C134(a0 a1 a2:AV):aj pg 134 [a0,a1,a2]=S134 (aj pg) ao a0 a1 a2:=(b7 aH rfl rfl rfl _).trans (E134 a0 a1 a2 _ _)
def L153_0(call:CC)(fx:bp AV)(a:RR)(b:List AV):M AV:=af (ah (ab T 35 (ae b 0) 1)) fun c=>af (ah (ai T 23 c)) fun d=>af (ah (aN T 23 d)) fun e=>af (ah (aw T .lss 3 (ae b 2) e)) fun f=>aA f (af (ah (ab T 35 (ae b 0) 1)) fun g=>af (ah (ai T 23 g)) fun h=>af (ah (au T 23 h (ae b 2))) fun i=>af (ah (ab T 37 i 1)) fun j=>af (ah (ai T 35 j)) fun k=>af (ah (ab T 35 (ae b 1) 1)) fun l=>af (ah (ai T 23 l)) fun m=>af (ah (au T 23 m (ae b 2))) fun n=>af (ah (ab T 37 n 1)) fun o=>af (ah (ai T 35 o)) fun p=>af (bX (call 153 [k,p])) fun q=>af (ah (ab T 35 (ae b 0) 1)) fun r=>af (ah (ai T 23 r)) fun s=>af (ah (au T 23 s (ae b 2))) fun u=>af (ah (ab T 37 u 0)) fun v=>af (ah (ai T 9 v)) fun w=>af (ah (ab T 35 (ae b 1) 1)) fun x=>af (ah (ai T 23 x)) fun y=>af (ah (au T 23 y (ae b 2))) fun z=>af (ah (ab T 37 z 0)) fun A=>af (ah (ai T 9 A)) fun B=>af (ah (aw T .neq 9 w B)) fun C=>af (aF C false 1 (af (ah (eX UnOp.not q)) fun D=>ay [D])) fun E=>af (ah (aI C (.bool true) (ae E 0))) fun F=>aA F (ay (.bool false)) (af (ah (aw T .add 3 (ae b 2) (.int .i64 1))) fun G=>a [ae b 0,ae b 1,G])) (ay (.bool true))
def XL153_0{call:CC}:bD (L153_0 call ao) fun _n=>L153_0 call ao  :=by
 intro a b c d;unfold L153_0;exact (lb fun _=>(lb fun _=>(lb fun _=>(lb fun _=>(aC (by(iterate 24 refine lb fun _=>?_);exact (aC (ba _) (lb fun _=>c _))) (ba _))))))
def FL153_0(call:CC)(vs:List AV):ao (L153_0 call ao) vs=L153_0 call ao  (ao (L153_0 call ao)) vs:=aU (XL153_0) vs
def S153(call:CC)(fx:bp AV)(a0 a1:AV):M AV:=af (ah (ab T 35 (.ip (aa a0)) 0)) fun a=>af (ah (ai T 3 a)) fun b=>af (ah (ab T 35 (.ip (aa a1)) 0)) fun c=>af (ah (ai T 3 c)) fun d=>af (ah (aw T .neq 3 b d)) fun e=>af (aF e false 1 (af (ah (ab T 35 (.ip (aa a0)) 1)) fun f=>af (ah (ai T 23 f)) fun g=>af (ah (aN T 23 g)) fun h=>af (ah (ab T 35 (.ip (aa a1)) 1)) fun i=>af (ah (ai T 23 i)) fun j=>af (ah (aN T 23 j)) fun k=>af (ah (aw T .neq 3 h k)) fun l=>ay [l])) fun m=>af (ah (aI e (.bool true) (ae m 0))) fun n=>aA n (ay (.bool false)) (fx (L153_0 call fx) [.ip (aa a0),.ip (aa a1),.int .i64 0])
def E153(a0 a1:AV):EE 153 Tryz.f153 D6 [a0,a1] (fun c x=>S153 c x a0 a1):=fun _ _=>by kernel_rfl
def C153(a0 a1:AV):aj pg 153 [a0,a1]=aJ (S153 (aj pg) ao (cl aB a0) (cl aB a1)):=(aD aH rfl rfl rfl _).trans (PR aJ (E153 (cl aB a0) (cl aB a1) _ _))
def S168(call:CC)(fx:bp AV)(a0:AV):M AV:=af (ah (aT T false 45 [(0,.int .i64 0),(1,a0)])) fun a=>af (az 4 [] a) fun b=>ay (.agg [ae (aa b) 0,ae (aa b) 1,ae (aa b) 2,ae (aa b) 3])
def E168(a0:AV):EE 168 Tryz.f168 Eb [a0] (fun c x=>S168 c x a0):=fun _ _=>by kernel_rfl
def C168(a0:AV):aj pg 168 [a0]=aJ (S168 (aj pg) ao (cl aB a0)):=(aD aH rfl rfl rfl _).trans (PR aJ (E168 (cl aB a0) _ _))
def S169(call:CC)(fx:bp AV)(a0:AV):M AV:=aA a0 (af (ah (aT T false 45 [(0,.int .i64 1),(1,.int .i64 1)])) fun a=>af (az 4 [] a) fun b=>ay (.agg [ae (aa b) 0,ae (aa b) 1,ae (aa b) 2,ae (aa b) 3])) (af (ah (aT T false 45 [(0,.int .i64 1)])) fun c=>af (az 4 [] c) fun d=>ay (.agg [ae (aa d) 0,ae (aa d) 1,ae (aa d) 2,ae (aa d) 3]))
def E169(a0:AV):EE 169 Tryz.f169 Ec [a0] (fun c x=>S169 c x a0):=fun _ _=>by kernel_rfl
def C169(a0:AV):aj pg 169 [a0]=aJ (S169 (aj pg) ao (cl aB a0)):=(aD aH rfl rfl rfl _).trans (PR aJ (E169 (cl aB a0) _ _))
def L173_0(call:CC)(fx:bp AV)(a:RR)(b:List AV):M AV:=af (ah (aw T .lss 3 (ae b 4) (ae b 3))) fun c=>aA c (af (ah (au T 24 (ae b 2) (ae b 4))) fun d=>af (ah (ai T 66 d)) fun e=>af (aW 6 e) fun f=>af (ah (ai T 168 (ae b 1))) fun g=>af (ah (ai T 66 (.ip (aa f)))) fun h=>af (call 134 [ae b 0,g,h]) fun i=>af (ah (aG T 30 1 [(0,i)])) fun j=>af (ah (cf T 30 (ae b 12) j)) fun k=>af (cp k) fun l=>af (ah (aw T .add 3 (ae b 4) (.int .i64 1))) fun m=>a [ae b 0,ae b 1,ae b 2,ae b 3,m,ae b 5,ae b 6,ae b 7,ae b 8,ae b 9,ae b 10,ae b 11,k]) (af (call 220 [.agg [ae b 9,ae b 10,ae b 11,ae b 12]]) fun n=>af (ah (aw T .leq 3 n (.int .i64 4))) fun o=>af (call 166 [o,.int .i64 6]) fun p=>af (az 4 [] (.agg [ae b 9,ae b 10,ae b 11,ae b 12])) fun q=>ay (.agg [ae (aa q) 0,ae (aa q) 1,ae (aa q) 2,ae (aa q) 3]))
def XL173_0{call:CC}:bD (L173_0 call ao) fun _n=>L173_0 call ao  :=by
 intro a b c d;unfold L173_0;exact (lb fun _=>(aC (by(iterate 10 refine lb fun _=>?_);exact (c _)) (ba _)))
def FL173_0(call:CC)(vs:List AV):ao (L173_0 call ao) vs=L173_0 call ao  (ao (L173_0 call ao)) vs:=aU (XL173_0) vs
def S173(call:CC)(fx:bp AV)(a0 a1 a2:AV):M AV:=af (ah (ab T 66 (.ip (aa a2)) 4)) fun a=>af (ah (ai T 22 a)) fun b=>af (ah (aN T 22 b)) fun c=>af (ah (ab T 66 (.ip (aa a2)) 5)) fun d=>af (ah (ai T 24 d)) fun e=>af (ah (aN T 24 e)) fun f=>af (ah (aw T .eql 3 c f)) fun g=>af (aF g true 1 (af (ah (ab T 66 (.ip (aa a2)) 4)) fun h=>af (ah (ai T 22 h)) fun i=>af (call 135 [i]) fun j=>ay [j])) fun k=>af (ah (aI g (ae k 0) (.bool false))) fun l=>af (call 166 [l,.int .i64 13]) fun m=>af (ah (ab T 66 (.ip (aa a2)) 4)) fun n=>af (ah (ai T 22 n)) fun o=>af (ah (aN T 22 o)) fun p=>af (ah (aw T .leq 3 p (.int .i64 8))) fun q=>af (call 166 [q,.int .i64 6]) fun r=>af (ah (ab T 66 (.ip (aa a2)) 4)) fun s=>af (ah (ai T 22 s)) fun u=>af (call 219 [u]) fun v=>af (ah (aT T true 45 [(0,.int .i64 2),(2,v)])) fun w=>af (az 4 [3] w) fun x=>af (ah (ab T 66 (.ip (aa a2)) 5)) fun y=>af (ah (ai T 24 y)) fun z=>af (ah (aN T 24 z)) fun A=>fx (L173_0 call fx) [a0,.ip (aa a1),z,A,.int .i64 0,.int .i64 0,.int .i64 0,.sl [],.sl [],ae (aa x) 0,ae (aa x) 1,ae (aa x) 2,.sl []]
def E173(a0 a1 a2:AV):EE 173 Tryz.f173 Eg [a0,a1,a2] (fun c x=>S173 c x a0 a1 a2):=fun _ _=>by kernel_rfl
def C173(a0 a1 a2:AV):aj pg 173 [a0,a1,a2]=S173 (aj pg) ao a0 a1 a2:=(b7 aH rfl rfl rfl _).trans (E173 a0 a1 a2 _ _)
def L191_0(call:CC)(fx:bp AV)(a:RR)(b:List AV):M AV:=af (ah (aN T 22 (ae b 0))) fun c=>af (ah (aw T .lss 3 (ae b 1) c)) fun d=>aA d (af (ah (au T 22 (ae b 0) (ae b 1))) fun e=>af (ah (ai T 9 e)) fun f=>af (bX (call 240 [f])) fun g=>af (ah (eX UnOp.not g)) fun h=>af (aF h false 1 (af (ah (aw T .gtr 3 (ae b 1) (.int .i64 0))) fun i=>ay [i])) fun j=>af (aF (ae j 0) true 1 (af (ah (aw T .sub 3 (ae b 1) (.int .i64 1))) fun k=>af (ah (au T 22 (ae b 0) k)) fun l=>af (ah (ai T 9 l)) fun m=>af (ah (au T 22 (ae b 0) (ae b 1))) fun n=>af (ah (ai T 9 n)) fun o=>af (ah (aw T .geq 9 m o)) fun p=>ay [p])) fun q=>af (aF h false 1 (af (ah (aI (ae j 0) (ae q 0) (.bool false))) fun r=>ay [r])) fun s=>af (ah (aI h (.bool true) (ae s 0))) fun u=>aA u (ay (.bool false)) (af (ah (aw T .add 3 (ae b 1) (.int .i64 1))) fun v=>a [ae b 0,v])) (ay (.bool true))
def XL191_0{call:CC}:bD (L191_0 call ao) fun _n=>L191_0 call ao  :=by
 intro a b c d;unfold L191_0;exact (lb fun _=>(lb fun _=>(aC (by(iterate 8 refine lb fun _=>?_);exact (aC (ba _) (lb fun _=>c _))) (ba _))))
def FL191_0(call:CC)(vs:List AV):ao (L191_0 call ao) vs=L191_0 call ao  (ao (L191_0 call ao)) vs:=aU (XL191_0) vs
def S191(call:CC)(fx:bp AV)(a0:AV):M AV:=fx (L191_0 call fx) [a0,.int .i64 0]
def E191(a0:AV):EE 191 Tryz.f191 El [a0] (fun c x=>S191 c x a0):=fun _ _=>by kernel_rfl
def C191(a0:AV):aj pg 191 [a0]=aJ (S191 (aj pg) ao (cl aB a0)):=(aD aH rfl rfl rfl _).trans (PR aJ (E191 (cl aB a0) _ _))
def L193_0(call:CC)(fx:bp AV)(a:RR)(b:List AV):M AV:=af (ah (aw T .lss 3 (ae b 3) (ae b 2))) fun c=>aA c (af (ah (au T 92 (ae b 0) (ae b 3))) fun d=>af (ah (ai T 29 d)) fun e=>af (cX call (ae b 1) [e]) fun f=>aA f (ay (ae b 3)) (af (ah (aw T .add 3 (ae b 3) (.int .i64 1))) fun g=>a [ae b 0,ae b 1,ae b 2,g])) (ay (.int .i64 (-1)))
def XL193_0{call:CC}:bD (L193_0 call ao) fun _n=>L193_0 call ao  :=by
 intro a b c d;unfold L193_0;exact (lb fun _=>(aC (lb fun _=>(lb fun _=>(lb fun _=>(aC (ba _) (lb fun _=>c _))))) (ba _)))
def FL193_0(call:CC)(vs:List AV):ao (L193_0 call ao) vs=L193_0 call ao  (ao (L193_0 call ao)) vs:=aU (XL193_0) vs
def S193(call:CC)(fx:bp AV)(a0 a1:AV):M AV:=af (ah (aN T 92 a0)) fun a=>fx (L193_0 call fx) [a0,a1,a,.int .i64 0]
def E193(a0 a1:AV):EE 193 Tryz.f193 En [a0,a1] (fun c x=>S193 c x a0 a1):=fun _ _=>by kernel_rfl
def C193(a0 a1:AV):aj pg 193 [a0,a1]=aJ (S193 (aj pg) ao (cl aB a0) (cl aB a1)):=(aD aH rfl rfl rfl _).trans (PR aJ (E193 (cl aB a0) (cl aB a1) _ _))
def S218(call:CC)(fx:bp AV)(a0:AV):M AV:=af (ah (aN T 30 a0)) fun a=>af (ah (aN T 30 a0)) fun b=>af (ah (cV T 30 a0 none (some a) (some b))) fun c=>ay c
def E218(a0:AV):EE 218 Tryz.f218 EG [a0] (fun c x=>S218 c x a0):=fun _ _=>by kernel_rfl
def C218(a0:AV):aj pg 218 [a0]=aJ (S218 (aj pg) ao (cl aB a0)):=(aD aH rfl rfl rfl _).trans (PR aJ (E218 (cl aB a0) _ _))
def S222(call:CC)(fx:bp AV)(a0 a1 a2:AV):M AV:=af (ah (aw T .lss 3 a1 (.int .i64 0))) fun a=>aA a (af (ah (aT T false 68 [])) fun b=>af (az 12 [] b) fun c=>ay (.tup [.agg [ae (aa c) 0,ae (aa c) 1,ae (aa c) 2,ae (aa c) 3,ae (aa c) 4,ae (aa c) 5,ae (aa c) 6,ae (aa c) 7,ae (aa c) 8,ae (aa c) 9,ae (aa c) 10,ae (aa c) 11],.bool false])) (af (ah (aV a0)) fun d=>af (ah (ab T 164 d 0)) fun e=>af (bi T 92 e) fun f=>af (ah (au T 92 f a1)) fun g=>af (ah (ab T 29 g 4)) fun h=>af (ah (ai T 25 h)) fun i=>af (call 212 [i,.fn (Fn.func 248) [] [.ip (aa a2)]]) fun j=>af (ah (aw T .lss 3 j (.int .i64 0))) fun k=>aA k (af (ah (aT T false 68 [])) fun l=>af (az 12 [] l) fun m=>ay (.tup [.agg [ae (aa m) 0,ae (aa m) 1,ae (aa m) 2,ae (aa m) 3,ae (aa m) 4,ae (aa m) 5,ae (aa m) 6,ae (aa m) 7,ae (aa m) 8,ae (aa m) 9,ae (aa m) 10,ae (aa m) 11],.bool false])) (af (ah (au T 25 i j)) fun n=>af (ah (ai T 68 n)) fun o=>af (az 12 [] o) fun p=>ay (.tup [.agg [ae (aa p) 0,ae (aa p) 1,ae (aa p) 2,ae (aa p) 3,ae (aa p) 4,ae (aa p) 5,ae (aa p) 6,ae (aa p) 7,ae (aa p) 8,ae (aa p) 9,ae (aa p) 10,ae (aa p) 11],.bool true])))
def E222(a0 a1 a2:AV):EE 222 Tryz.f222 EJ [a0,a1,a2] (fun c x=>S222 c x a0 a1 a2):=fun _ _=>by kernel_rfl
def C222(a0 a1 a2:AV):aj pg 222 [a0,a1,a2]=S222 (aj pg) ao a0 a1 a2:=(b7 aH rfl rfl rfl _).trans (E222 a0 a1 a2 _ _)
def L223_0(call:CC)(fx:bp AV)(a:RR)(b:List AV):M AV:=af (ah (aw T .lss 3 (ae b 5) (ae b 4))) fun c=>aA c (af (ah (au T 23 (ae b 3) (ae b 5))) fun d=>af (ah (ai T 37 d)) fun e=>af (aW 3 e) fun f=>af (ah (ab T 37 (.ip (aa f)) 0)) fun g=>af (ah (ai T 9 g)) fun h=>af (ah (au T 30 (ae b 1) (ae b 5))) fun i=>af (ah (ai T 45 i)) fun j=>af (bX (call 172 [.agg [ae b 10,ae b 11,ae b 12],h,j])) fun k=>af (az 3 [] k) fun l=>af (ah (aw T .add 3 (ae b 5) (.int .i64 1))) fun m=>a [ae b 0,ae b 1,ae b 2,ae b 3,ae b 4,m,ae b 6,ae b 7,ae b 8,ae b 9,ae (aa l) 0,ae (aa l) 1,ae (aa l) 2]) (af (ah (aV (ae b 0))) fun n=>af (ah (ab T 164 n 3)) fun o=>af (bi T 3 o) fun p=>af (ah (aw T .add 3 p (.int .i64 1))) fun q=>af (ah (aV (ae b 0))) fun r=>af (ah (ab T 164 r 3)) fun s=>af (cq T 3 s q) fun u=>af (ah (ab T 68 (ae b 2) 5)) fun v=>af (ah (ai T 66 v)) fun w=>af (call 134 [ae b 0,.agg [ae b 10,ae b 11,ae b 12],w]) fun x=>af (aW 4 x) fun y=>af (ah (aV (ae b 0))) fun z=>af (ah (ab T 164 z 3)) fun A=>af (bi T 3 A) fun B=>af (ah (aw T .sub 3 B (.int .i64 1))) fun C=>af (ah (aV (ae b 0))) fun D=>af (ah (ab T 164 D 3)) fun E=>af (cq T 3 E C) fun F=>af (ah (ai T 45 (.ip (aa y)))) fun G=>af (az 4 [] G) fun H=>ay (.agg [ae (aa H) 0,ae (aa H) 1,ae (aa H) 2,ae (aa H) 3]))
def K223_0(call:CC)(fx:bp AV)(a:List AV):M AV:=af (ah (aT T false 168 [(0,ae a 1)])) fun b=>af (az 3 [] b) fun c=>af (ah (ab T 68 (ae a 3) 2)) fun d=>af (ah (ai T 23 d)) fun e=>af (ah (aN T 23 e)) fun f=>fx (L223_0 call fx) [ae a 0,ae a 2,ae a 3,e,f,.int .i64 0,ae a 4,ae a 5,ae a 6,ae a 7,ae (aa c) 0,ae (aa c) 1,ae (aa c) 2]
def XL223_0{call:CC}:bD (L223_0 call ao) fun _n=>L223_0 call ao  :=by
 intro a b c d;unfold L223_0;exact (lb fun _=>(aC (by(iterate 10 refine lb fun _=>?_);exact (c _)) (ba _)))
def FL223_0(call:CC)(vs:List AV):ao (L223_0 call ao) vs=L223_0 call ao  (ao (L223_0 call ao)) vs:=aU (XL223_0) vs
def S223(call:CC)(fx:bp AV)(a0 a1 a2 a3:AV):M AV:=af (ah (aV a0)) fun a=>af (ah (ab T 164 a 3)) fun b=>af (bi T 3 b) fun c=>af (ah (aw T .lss 3 c (.int .i64 60))) fun d=>af (call 166 [d,.int .i64 6]) fun e=>jn (K223_0 call fx) fun f=>af (ah (ab T 68 (.ip (aa a2)) 1)) fun g=>af (ah (ai T 4 g)) fun h=>aA h (af (ah (aV a0)) fun i=>af (ah (ab T 164 i 4)) fun j=>af (ah (ab T 162 j 3)) fun k=>af (bi T 160 k) fun l=>af (ah (aV a0)) fun m=>af (ah (ab T 164 m 0)) fun n=>af (bi T 92 n) fun o=>af (ah (au T 92 o a1)) fun p=>af (ah (ab T 29 p 0)) fun q=>af (ah (ai T 9 q)) fun r=>af (ah (ab T 68 (.ip (aa a2)) 0)) fun s=>af (ah (ai T 9 s)) fun u=>af (call 249 [a3]) fun v=>af (ah (aT T false 260 [(0,r),(1,u),(2,v)])) fun w=>af (ah (aG T 160 1 [(0,w)])) fun x=>af (appH T 160 false l x) fun y=>af (ah (aV a0)) fun z=>af (ah (ab T 164 z 4)) fun A=>af (ah (ab T 162 A 3)) fun B=>af (cq T 160 B y) fun C=>f [a0,a1,a3,.ip (aa a2),.int .i64 0,.int .i64 0,.sl [],.sl []]) (f [a0,a1,a3,.ip (aa a2),.int .i64 0,.int .i64 0,.sl [],.sl []])
def E223(a0 a1 a2 a3:AV):EE 223 Tryz.f223 EK [a0,a1,a2,a3] (fun c x=>S223 c x a0 a1 a2 a3):=fun _ _=>by kernel_rfl
def C223(a0 a1 a2 a3:AV):aj pg 223 [a0,a1,a2,a3]=S223 (aj pg) ao a0 a1 a2 a3:=(b7 aH rfl rfl rfl _).trans (E223 a0 a1 a2 a3 _ _)
def S247(call:CC)(fx:bp AV)(a0 a1:AV):M AV:=af (ah (ab T 29 (.ip (aa a0)) 0)) fun a=>af (ah (ai T 9 a)) fun b=>af (ah (ai T 9 a1)) fun c=>af (ah (aw T .eql 9 b c)) fun d=>ay d
def E247(a0 a1:AV):EE 247 Tryz.f247 ES [a0,a1] (fun c x=>S247 c x a0 a1):=fun _ _=>by kernel_rfl
def C247(a0 a1:AV):aj pg 247 [a0,a1]=aJ (S247 (aj pg) ao (cl aB a0) (cl aB a1)):=(aD aH rfl rfl rfl _).trans (PR aJ (E247 (cl aB a0) (cl aB a1) _ _))
def L256_0(call:CC)(fx:bp AV)(a:RR)(b:List AV):M AV:=af (ah (aN T 9 (ae b 0))) fun c=>af (ah (aw T .lss 3 (ae b 1) c)) fun d=>aA d (af (ah (bV T 9 (ae b 0) (ae b 1))) fun e=>af (call 264 [e]) fun f=>af (ah (eX UnOp.not f)) fun g=>af (aF g true 1 (af (ah (bV T 9 (ae b 0) (ae b 1))) fun h=>af (call 265 [h]) fun i=>af (ah (eX UnOp.not i)) fun j=>ay [j])) fun k=>af (ah (aI g (ae k 0) (.bool false))) fun l=>aA l (ay (.bool false)) (af (ah (aw T .add 3 (ae b 1) (.int .i64 1))) fun m=>a [ae b 0,m])) (ay (.bool true))
def XL256_0{call:CC}:bD (L256_0 call ao) fun _n=>L256_0 call ao  :=by
 intro a b c d;unfold L256_0;exact (lb fun _=>(lb fun _=>(aC (by(iterate 5 refine lb fun _=>?_);exact (aC (ba _) (lb fun _=>c _))) (ba _))))
def FL256_0(call:CC)(vs:List AV):ao (L256_0 call ao) vs=L256_0 call ao  (ao (L256_0 call ao)) vs:=aU (XL256_0) vs
def S256(call:CC)(fx:bp AV)(a0:AV):M AV:=af (ah (aN T 9 a0)) fun a=>af (ah (aw T .lss 3 a (.int .i64 1))) fun b=>af (aF b false 1 (af (ah (aN T 9 a0)) fun c=>af (ah (aw T .gtr 3 c (.int .i64 20))) fun d=>ay [d])) fun e=>af (ah (aI b (.bool true) (ae e 0))) fun f=>af (aF f false 1 (af (ah (bV T 9 a0 (.int .i64 0))) fun g=>af (call 264 [g]) fun h=>af (ah (eX UnOp.not h)) fun i=>ay [i])) fun j=>af (ah (aI f (.bool true) (ae j 0))) fun k=>aA k (ay (.bool false)) (fx (L256_0 call fx) [a0,.int .i64 1])
def E256(a0:AV):EE 256 Tryz.f256 EU [a0] (fun c x=>S256 c x a0):=fun _ _=>by kernel_rfl
def C256(a0:AV):aj pg 256 [a0]=aJ (S256 (aj pg) ao (cl aB a0)):=(aD aH rfl rfl rfl _).trans (PR aJ (E256 (cl aB a0) _ _))
def S265(call:CC)(fx:bp AV)(a0:AV):M AV:=af (ah (aw T .geq 5 a0 (.int .u8 48))) fun a=>af (aF a true 1 (af (ah (aw T .leq 5 a0 (.int .u8 57))) fun b=>ay [b])) fun c=>af (ah (aI a (ae c 0) (.bool false))) fun d=>ay d
def E265(a0:AV):EE 265 Tryz.f265 EZ [a0] (fun c x=>S265 c x a0):=fun _ _=>by kernel_rfl
def C265(a0:AV):aj pg 265 [a0]=aJ (S265 (aj pg) ao (cl aB a0)):=(aD aH rfl rfl rfl _).trans (PR aJ (E265 (cl aB a0) _ _))
@[simp] theorem FA27_0(cs:List AV):ab T 27 (.ip cs) 0=some (.ip (cs.drop 0)):=rfl
@[simp] theorem FH27_0(l k:Nat):ab T 27 (.hp l k) 0=some (.hp l (k+0)):=rfl
@[simp] theorem FA27_1(cs:List AV):ab T 27 (.ip cs) 1=some (.ip (cs.drop 1)):=rfl
@[simp] theorem FH27_1(l k:Nat):ab T 27 (.hp l k) 1=some (.hp l (k+1)):=rfl
@[simp] theorem FA27_2(cs:List AV):ab T 27 (.ip cs) 2=some (.ip (cs.drop 2)):=rfl
@[simp] theorem FH27_2(l k:Nat):ab T 27 (.hp l k) 2=some (.hp l (k+2)):=rfl
@[simp] theorem FA29_0(cs:List AV):ab T 29 (.ip cs) 0=some (.ip (cs.drop 0)):=rfl
@[simp] theorem FH29_0(l k:Nat):ab T 29 (.hp l k) 0=some (.hp l (k+0)):=rfl
@[simp] theorem FA29_1(cs:List AV):ab T 29 (.ip cs) 1=some (.ip (cs.drop 1)):=rfl
@[simp] theorem FH29_1(l k:Nat):ab T 29 (.hp l k) 1=some (.hp l (k+1)):=rfl
@[simp] theorem FA29_2(cs:List AV):ab T 29 (.ip cs) 2=some (.ip (cs.drop 2)):=rfl
@[simp] theorem FH29_2(l k:Nat):ab T 29 (.hp l k) 2=some (.hp l (k+2)):=rfl
@[simp] theorem FA29_3(cs:List AV):ab T 29 (.ip cs) 3=some (.ip (cs.drop 3)):=rfl
@[simp] theorem FH29_3(l k:Nat):ab T 29 (.hp l k) 3=some (.hp l (k+3)):=rfl
@[simp] theorem FA29_4(cs:List AV):ab T 29 (.ip cs) 4=some (.ip (cs.drop 4)):=rfl
@[simp] theorem FH29_4(l k:Nat):ab T 29 (.hp l k) 4=some (.hp l (k+4)):=rfl
@[simp] theorem FA29_5(cs:List AV):ab T 29 (.ip cs) 5=some (.ip (cs.drop 5)):=rfl
@[simp] theorem FH29_5(l k:Nat):ab T 29 (.hp l k) 5=some (.hp l (k+5)):=rfl
@[simp] theorem FA29_6(cs:List AV):ab T 29 (.ip cs) 6=some (.ip (cs.drop 6)):=rfl
@[simp] theorem FH29_6(l k:Nat):ab T 29 (.hp l k) 6=some (.hp l (k+6)):=rfl
@[simp] theorem FA35_0(cs:List AV):ab T 35 (.ip cs) 0=some (.ip (cs.drop 0)):=rfl
@[simp] theorem FH35_0(l k:Nat):ab T 35 (.hp l k) 0=some (.hp l (k+0)):=rfl
@[simp] theorem FA35_1(cs:List AV):ab T 35 (.ip cs) 1=some (.ip (cs.drop 1)):=rfl
@[simp] theorem FH35_1(l k:Nat):ab T 35 (.hp l k) 1=some (.hp l (k+1)):=rfl
@[simp] theorem FA37_0(cs:List AV):ab T 37 (.ip cs) 0=some (.ip (cs.drop 0)):=rfl
@[simp] theorem FH37_0(l k:Nat):ab T 37 (.hp l k) 0=some (.hp l (k+0)):=rfl
@[simp] theorem FA37_1(cs:List AV):ab T 37 (.ip cs) 1=some (.ip (cs.drop 1)):=rfl
@[simp] theorem FH37_1(l k:Nat):ab T 37 (.hp l k) 1=some (.hp l (k+1)):=rfl
@[simp] theorem FA45_0(cs:List AV):ab T 45 (.ip cs) 0=some (.ip (cs.drop 0)):=rfl
@[simp] theorem FH45_0(l k:Nat):ab T 45 (.hp l k) 0=some (.hp l (k+0)):=rfl
@[simp] theorem FA45_1(cs:List AV):ab T 45 (.ip cs) 1=some (.ip (cs.drop 1)):=rfl
@[simp] theorem FH45_1(l k:Nat):ab T 45 (.hp l k) 1=some (.hp l (k+1)):=rfl
@[simp] theorem FA45_2(cs:List AV):ab T 45 (.ip cs) 2=some (.ip (cs.drop 2)):=rfl
@[simp] theorem FH45_2(l k:Nat):ab T 45 (.hp l k) 2=some (.hp l (k+2)):=rfl
@[simp] theorem FA45_3(cs:List AV):ab T 45 (.ip cs) 3=some (.ip (cs.drop 3)):=rfl
@[simp] theorem FH45_3(l k:Nat):ab T 45 (.hp l k) 3=some (.hp l (k+3)):=rfl
@[simp] theorem FA66_0(cs:List AV):ab T 66 (.ip cs) 0=some (.ip (cs.drop 0)):=rfl
@[simp] theorem FH66_0(l k:Nat):ab T 66 (.hp l k) 0=some (.hp l (k+0)):=rfl
@[simp] theorem FA66_1(cs:List AV):ab T 66 (.ip cs) 1=some (.ip (cs.drop 1)):=rfl
@[simp] theorem FH66_1(l k:Nat):ab T 66 (.hp l k) 1=some (.hp l (k+1)):=rfl
@[simp] theorem FA66_2(cs:List AV):ab T 66 (.ip cs) 2=some (.ip (cs.drop 2)):=rfl
@[simp] theorem FH66_2(l k:Nat):ab T 66 (.hp l k) 2=some (.hp l (k+2)):=rfl
@[simp] theorem FA66_3(cs:List AV):ab T 66 (.ip cs) 3=some (.ip (cs.drop 3)):=rfl
@[simp] theorem FH66_3(l k:Nat):ab T 66 (.hp l k) 3=some (.hp l (k+3)):=rfl
@[simp] theorem FA66_4(cs:List AV):ab T 66 (.ip cs) 4=some (.ip (cs.drop 4)):=rfl
@[simp] theorem FH66_4(l k:Nat):ab T 66 (.hp l k) 4=some (.hp l (k+4)):=rfl
@[simp] theorem FA66_5(cs:List AV):ab T 66 (.ip cs) 5=some (.ip (cs.drop 5)):=rfl
@[simp] theorem FH66_5(l k:Nat):ab T 66 (.hp l k) 5=some (.hp l (k+5)):=rfl
@[simp] theorem FA68_0(cs:List AV):ab T 68 (.ip cs) 0=some (.ip (cs.drop 0)):=rfl
@[simp] theorem FH68_0(l k:Nat):ab T 68 (.hp l k) 0=some (.hp l (k+0)):=rfl
@[simp] theorem FA68_1(cs:List AV):ab T 68 (.ip cs) 1=some (.ip (cs.drop 1)):=rfl
@[simp] theorem FH68_1(l k:Nat):ab T 68 (.hp l k) 1=some (.hp l (k+1)):=rfl
@[simp] theorem FA68_2(cs:List AV):ab T 68 (.ip cs) 2=some (.ip (cs.drop 2)):=rfl
@[simp] theorem FH68_2(l k:Nat):ab T 68 (.hp l k) 2=some (.hp l (k+2)):=rfl
@[simp] theorem FA68_3(cs:List AV):ab T 68 (.ip cs) 3=some (.ip (cs.drop 3)):=rfl
@[simp] theorem FH68_3(l k:Nat):ab T 68 (.hp l k) 3=some (.hp l (k+3)):=rfl
@[simp] theorem FA68_5(cs:List AV):ab T 68 (.ip cs) 5=some (.ip (cs.drop 6)):=rfl
@[simp] theorem FH68_5(l k:Nat):ab T 68 (.hp l k) 5=some (.hp l (k+6)):=rfl
@[simp] theorem FA85_0(cs:List AV):ab T 85 (.ip cs) 0=some (.ip (cs.drop 0)):=rfl
@[simp] theorem FH85_0(l k:Nat):ab T 85 (.hp l k) 0=some (.hp l (k+0)):=rfl
@[simp] theorem FA94_1(cs:List AV):ab T 94 (.ip cs) 1=some (.ip (cs.drop 1)):=rfl
@[simp] theorem FH94_1(l k:Nat):ab T 94 (.hp l k) 1=some (.hp l (k+1)):=rfl
@[simp] theorem FA162_0(cs:List AV):ab T 162 (.ip cs) 0=some (.ip (cs.drop 0)):=rfl
@[simp] theorem FH162_0(l k:Nat):ab T 162 (.hp l k) 0=some (.hp l (k+0)):=rfl
@[simp] theorem FA162_2(cs:List AV):ab T 162 (.ip cs) 2=some (.ip (cs.drop 5)):=rfl
@[simp] theorem FH162_2(l k:Nat):ab T 162 (.hp l k) 2=some (.hp l (k+5)):=rfl
@[simp] theorem FA162_3(cs:List AV):ab T 162 (.ip cs) 3=some (.ip (cs.drop 6)):=rfl
@[simp] theorem FH162_3(l k:Nat):ab T 162 (.hp l k) 3=some (.hp l (k+6)):=rfl
@[simp] theorem FA162_4(cs:List AV):ab T 162 (.ip cs) 4=some (.ip (cs.drop 7)):=rfl
@[simp] theorem FH162_4(l k:Nat):ab T 162 (.hp l k) 4=some (.hp l (k+7)):=rfl
@[simp] theorem FA164_0(cs:List AV):ab T 164 (.ip cs) 0=some (.ip (cs.drop 0)):=rfl
@[simp] theorem FH164_0(l k:Nat):ab T 164 (.hp l k) 0=some (.hp l (k+0)):=rfl
@[simp] theorem FA164_1(cs:List AV):ab T 164 (.ip cs) 1=some (.ip (cs.drop 1)):=rfl
@[simp] theorem FH164_1(l k:Nat):ab T 164 (.hp l k) 1=some (.hp l (k+1)):=rfl
@[simp] theorem FA164_2(cs:List AV):ab T 164 (.ip cs) 2=some (.ip (cs.drop 2)):=rfl
@[simp] theorem FH164_2(l k:Nat):ab T 164 (.hp l k) 2=some (.hp l (k+2)):=rfl
@[simp] theorem FA164_3(cs:List AV):ab T 164 (.ip cs) 3=some (.ip (cs.drop 3)):=rfl
@[simp] theorem FH164_3(l k:Nat):ab T 164 (.hp l k) 3=some (.hp l (k+3)):=rfl
@[simp] theorem FA164_4(cs:List AV):ab T 164 (.ip cs) 4=some (.ip (cs.drop 4)):=rfl
@[simp] theorem FH164_4(l k:Nat):ab T 164 (.hp l k) 4=some (.hp l (k+4)):=rfl
@[simp] theorem FA168_0(cs:List AV):ab T 168 (.ip cs) 0=some (.ip (cs.drop 0)):=rfl
@[simp] theorem FH168_0(l k:Nat):ab T 168 (.hp l k) 0=some (.hp l (k+0)):=rfl
@[simp] theorem FA168_1(cs:List AV):ab T 168 (.ip cs) 1=some (.ip (cs.drop 1)):=rfl
@[simp] theorem FH168_1(l k:Nat):ab T 168 (.hp l k) 1=some (.hp l (k+1)):=rfl
@[simp] theorem FA168_2(cs:List AV):ab T 168 (.ip cs) 2=some (.ip (cs.drop 2)):=rfl
@[simp] theorem FH168_2(l k:Nat):ab T 168 (.hp l k) 2=some (.hp l (k+2)):=rfl
@[simp] theorem FA182_0(cs:List AV):ab T 182 (.ip cs) 0=some (.ip (cs.drop 0)):=rfl
@[simp] theorem FH182_0(l k:Nat):ab T 182 (.hp l k) 0=some (.hp l (k+0)):=rfl
@[simp] theorem FA182_1(cs:List AV):ab T 182 (.ip cs) 1=some (.ip (cs.drop 1)):=rfl
@[simp] theorem FH182_1(l k:Nat):ab T 182 (.hp l k) 1=some (.hp l (k+1)):=rfl
@[simp] theorem FA182_2(cs:List AV):ab T 182 (.ip cs) 2=some (.ip (cs.drop 9)):=rfl
@[simp] theorem FH182_2(l k:Nat):ab T 182 (.hp l k) 2=some (.hp l (k+9)):=rfl
@[simp] theorem FA182_3(cs:List AV):ab T 182 (.ip cs) 3=some (.ip (cs.drop 10)):=rfl
@[simp] theorem FH182_3(l k:Nat):ab T 182 (.hp l k) 3=some (.hp l (k+10)):=rfl
@[simp] theorem FA182_4(cs:List AV):ab T 182 (.ip cs) 4=some (.ip (cs.drop 11)):=rfl
@[simp] theorem FH182_4(l k:Nat):ab T 182 (.hp l k) 4=some (.hp l (k+11)):=rfl
@[simp] theorem FA182_5(cs:List AV):ab T 182 (.ip cs) 5=some (.ip (cs.drop 12)):=rfl
@[simp] theorem FH182_5(l k:Nat):ab T 182 (.hp l k) 5=some (.hp l (k+12)):=rfl
@[simp] theorem FA185_0(cs:List AV):ab T 185 (.ip cs) 0=some (.ip (cs.drop 0)):=rfl
@[simp] theorem FH185_0(l k:Nat):ab T 185 (.hp l k) 0=some (.hp l (k+0)):=rfl
@[simp] theorem FA185_1(cs:List AV):ab T 185 (.ip cs) 1=some (.ip (cs.drop 1)):=rfl
@[simp] theorem FH185_1(l k:Nat):ab T 185 (.hp l k) 1=some (.hp l (k+1)):=rfl
@[simp] theorem FA185_2(cs:List AV):ab T 185 (.ip cs) 2=some (.ip (cs.drop 2)):=rfl
@[simp] theorem FH185_2(l k:Nat):ab T 185 (.hp l k) 2=some (.hp l (k+2)):=rfl
@[simp] theorem LD3(x:AV)(l:List AV):ai T 3 (.ip (x:: l))=some x:=rfl
@[simp] theorem LD4(x:AV)(l:List AV):ai T 4 (.ip (x:: l))=some x:=rfl
@[simp] theorem LD9(x:AV)(l:List AV):ai T 9 (.ip (x:: l))=some x:=rfl
@[simp] theorem LD22(x:AV)(l:List AV):ai T 22 (.ip (x:: l))=some x:=rfl
@[simp] theorem LD23(x:AV)(l:List AV):ai T 23 (.ip (x:: l))=some x:=rfl
@[simp] theorem LD24(x:AV)(l:List AV):ai T 24 (.ip (x:: l))=some x:=rfl
@[simp] theorem LD25(x:AV)(l:List AV):ai T 25 (.ip (x:: l))=some x:=rfl
@[simp] theorem LD27(cs:List AV):ai T 27 (.ip cs)=if 3<=cs.length then some (.agg (cs.take 3))else none:=rfl
@[simp] theorem LD29(cs:List AV):ai T 29 (.ip cs)=if 9<=cs.length then some (.agg (cs.take 9))else none:=rfl
@[simp] theorem LD30(x:AV)(l:List AV):ai T 30 (.ip (x:: l))=some x:=rfl
@[simp] theorem LD35(cs:List AV):ai T 35 (.ip cs)=if 2<=cs.length then some (.agg (cs.take 2))else none:=rfl
@[simp] theorem LD37(cs:List AV):ai T 37 (.ip cs)=if 3<=cs.length then some (.agg (cs.take 3))else none:=rfl
@[simp] theorem LD39(x:AV)(l:List AV):ai T 39 (.ip (x:: l))=some x:=rfl
@[simp] theorem LD45(cs:List AV):ai T 45 (.ip cs)=if 4<=cs.length then some (.agg (cs.take 4))else none:=rfl
@[simp] theorem LD66(cs:List AV):ai T 66 (.ip cs)=if 6<=cs.length then some (.agg (cs.take 6))else none:=rfl
@[simp] theorem LD68(cs:List AV):ai T 68 (.ip cs)=if 12<=cs.length then some (.agg (cs.take 12))else none:=rfl
@[simp] theorem LD89(x:AV)(l:List AV):ai T 89 (.ip (x:: l))=some x:=rfl
@[simp] theorem LD92(x:AV)(l:List AV):ai T 92 (.ip (x:: l))=some x:=rfl
@[simp] theorem LD157(x:AV)(l:List AV):ai T 157 (.ip (x:: l))=some x:=rfl
@[simp] theorem LD158(x:AV)(l:List AV):ai T 158 (.ip (x:: l))=some x:=rfl
@[simp] theorem LD159(x:AV)(l:List AV):ai T 159 (.ip (x:: l))=some x:=rfl
@[simp] theorem LD160(x:AV)(l:List AV):ai T 160 (.ip (x:: l))=some x:=rfl
@[simp] theorem LD168(cs:List AV):ai T 168 (.ip cs)=if 3<=cs.length then some (.agg (cs.take 3))else none:=rfl
@[simp] theorem LD185(cs:List AV):ai T 185 (.ip cs)=if 3<=cs.length then some (.agg (cs.take 3))else none:=rfl
@[simp] theorem NN(s:aR):aN T 9 (.str s)=some (.int .i64 s.length):=rfl
@[simp] theorem Mc(es:List AV):aN T 22 (.sl es)=some (.int .i64 es.length):=rfl
@[simp] theorem NW:aN T 22 .hn=some (.int .i64 0):=rfl
@[simp] theorem NP(l k n s:Nat)(a:Bool):aN T 22 (.hs l k n s a)=some (.int .i64 n):=rfl
@[simp] theorem dA(l:List aR):aN T 22 (strs l)=some (.int .i64 l.length):=(Mc _).trans (by simp)
@[simp] theorem Md(es:List AV):aN T 23 (.sl es)=some (.int .i64 es.length):=rfl
@[simp] theorem NX:aN T 23 .hn=some (.int .i64 0):=rfl
@[simp] theorem NQ(l k n s:Nat)(a:Bool):aN T 23 (.hs l k n s a)=some (.int .i64 n):=rfl
@[simp] theorem bU(l:List cE):aN T 23 (bm l)=some (.int .i64 l.length):=(Md _).trans (by simp[jI])
@[simp] theorem Me(es:List AV):aN T 24 (.sl es)=some (.int .i64 es.length):=rfl
@[simp] theorem NY:aN T 24 .hn=some (.int .i64 0):=rfl
@[simp] theorem NR(l k n s:Nat)(a:Bool):aN T 24 (.hs l k n s a)=some (.int .i64 n):=rfl
@[simp] theorem eP(l:List Exp):aN T 24 (bE l)=some (.int .i64 l.length):=(Me _).trans (by simp[jF])
@[simp] theorem Mf(es:List AV):aN T 25 (.sl es)=some (.int .i64 es.length):=rfl
@[simp] theorem NZ:aN T 25 .hn=some (.int .i64 0):=rfl
@[simp] theorem NS(l k n s:Nat)(a:Bool):aN T 25 (.hs l k n s a)=some (.int .i64 n):=rfl
@[simp] theorem Dm(l:List Fun):aN T 25 (mI l)=some (.int .i64 l.length):=(Mf _).trans (by simp)
@[simp] theorem Mg(es:List AV):aN T 30 (.sl es)=some (.int .i64 es.length):=rfl
@[simp] theorem N0:aN T 30 .hn=some (.int .i64 0):=rfl
@[simp] theorem NT(l k n s:Nat)(a:Bool):aN T 30 (.hs l k n s a)=some (.int .i64 n):=rfl
@[simp] theorem hP(l:List Val):aN T 30 (vals l)=some (.int .i64 l.length):=(Mg _).trans (by simp[fh])
@[simp] theorem Mh(es:List AV):aN T 47 (.sl es)=some (.int .i64 es.length):=rfl
@[simp] theorem N1:aN T 47 .hn=some (.int .i64 0):=rfl
@[simp] theorem NU(l k n s:Nat)(a:Bool):aN T 47 (.hs l k n s a)=some (.int .i64 n):=rfl
@[simp] theorem NO(l:List Ty):aN T 47 (Db l)=some (.int .i64 l.length):=(Mh _).trans (by simp)
@[simp] theorem Mi(es:List AV):aN T 92 (.sl es)=some (.int .i64 es.length):=rfl
@[simp] theorem N3:aN T 92 .hn=some (.int .i64 0):=rfl
@[simp] theorem NV(l k n s:Nat)(a:Bool):aN T 92 (.hs l k n s a)=some (.int .i64 n):=rfl
@[simp] theorem mW(l:List Mod):aN T 92 (dI l)=some (.int .i64 l.length):=(Mi _).trans (by simp)
@[simp] theorem Ks(es:List AV):aN T 158 (.sl es)=some (.int .i64 es.length):=rfl
@[simp] theorem Nw:aN T 158 .hn=some (.int .i64 0):=rfl
@[simp] theorem Nv(l k n s:Nat)(a:Bool):aN T 158 (.hs l k n s a)=some (.int .i64 n):=rfl
@[simp] theorem Ay(l:List Int):aN T 158 (ints l)=some (.int .i64 l.length):=(Ks _).trans (by simp)
def mG{l:List aR}{n:Int}(h0:0<=n)(h:n<(l.length:Int)):au T 22 (strs l) (.int .i64 n)=some (.ip (aa (AV.str l[n.toNat]!))):=dF (T:=T) (t:=22) (e:=9) rfl rfl rfl (fun _=>by first|rfl|(simp;done)|(simp;rfl)) h0 h
def gp{l:List cE}{n:Int}(h0:0<=n)(h:n<(l.length:Int)):au T 23 (bm l) (.int .i64 n)=some (.ip (aa (bZ l[n.toNat]!))):=by rw[bm,jI];exact dF (T:=T) (t:=23) (e:=37) rfl rfl rfl (fun _=>by first|rfl|(simp;done)|(simp;rfl)) h0 h
def kL{l:List Exp}{n:Int}(h0:0<=n)(h:n<(l.length:Int)):au T 24 (bE l) (.int .i64 n)=some (.ip (aa (Exp.av l[n.toNat]!))):=by rw[bE,jF];exact dF (T:=T) (t:=24) (e:=66) rfl rfl rfl (fun _=>by first|rfl|(simp;done)|(simp;rfl)) h0 h
def Dl{l:List Fun}{n:Int}(h0:0<=n)(h:n<(l.length:Int)):au T 25 (mI l) (.int .i64 n)=some (.ip (aa (Fun.av l[n.toNat]!))):=dF (T:=T) (t:=25) (e:=68) rfl rfl rfl (fun _=>by first|rfl|(simp;done)|(simp;rfl)) h0 h
def hM{l:List Val}{n:Int}(h0:0<=n)(h:n<(l.length:Int)):au T 30 (vals l) (.int .i64 n)=some (.ip (aa (Val.av l[n.toNat]!))):=by rw[vals,fh];exact dF (T:=T) (t:=30) (e:=45) rfl rfl rfl (fun _=>by first|rfl|(simp;done)|(simp;rfl)) h0 h
def NM{l:List Ty}{n:Int}(h0:0<=n)(h:n<(l.length:Int)):au T 47 (Db l) (.int .i64 n)=some (.ip (aa (Ty.av l[n.toNat]!))):=dF (T:=T) (t:=47) (e:=35) rfl rfl rfl (fun _=>by first|rfl|(simp;done)|(simp;rfl)) h0 h
def nu{l:List Mod}{n:Int}(h0:0<=n)(h:n<(l.length:Int)):au T 92 (dI l) (.int .i64 n)=some (.ip (aa (Mod.av l[n.toNat]!))):=dF (T:=T) (t:=92) (e:=29) rfl rfl rfl (fun _=>by first|rfl|(simp;done)|(simp;rfl)) h0 h
def IM{l:List Int}{n:Int}(h0:0<=n)(h:n<(l.length:Int)):au T 158 (ints l) (.int .i64 n)=some (.ip (aa (AV.int .i64 l[n.toNat]!))):=dF (T:=T) (t:=158) (e:=3) rfl rfl rfl (fun _=>by first|rfl|(simp;done)|(simp;rfl)) h0 h
def oC{a b:List aR}(h:(a.length+b.length)*16<=140737488355328):cf T 22 (strs a) (strs b)=some (strs (a++b)):=by
 have:=qP (T:=T) (t:=22) (e:=9) rfl rfl rfl (f:=AV.str) (fun _=>by first|rfl|(simp;done)|(simp;rfl)) (a:=a) (b:=b) h (by decide)
 simpa [strs]using this
def kj{a b:List Val}(h:(a.length+b.length)*64<=140737488355328):cf T 30 (vals a) (vals b)=some (vals (a++b)):=by
 have:=qP (T:=T) (t:=30) (e:=45) rfl rfl rfl (f:=Val.av) (fun _=>by first|rfl|(simp;done)|(simp;rfl)) (a:=a) (b:=b) h (by decide)
 simpa [vals,fh]using this
def L9{a b:List Vars}(h:(a.length+b.length)*40<=140737488355328):cf T 89 (dR a) (dR b)=some (dR (a++b)):=by
 have:=qP (T:=T) (t:=89) (e:=94) rfl rfl rfl (f:=Vars.av) (fun _=>by first|rfl|(simp;done)|(simp;rfl)) (a:=a) (b:=b) h (by decide)
 simpa [dR]using this
def E6(l:List aR)(i k:Nat)(hk:k=i+1)(h:k<l.length):oH (l.drop i)=(bP (l[i]'(by omega)) l[k]&&oH (l.drop k)):=by
 subst hk;have e1:l.drop i=l[i]:: l.drop (i+1):=P9 (by omega);have e2:l.drop (i+1)=l[i+1]:: l.drop (i+2):=P9 h;rw[e1,e2];rfl
def Ba(call)(l:List aR)(hb:l.length<=4611686018427387904):∀(n:Nat)(i:Int),l.length-i.toNat=n->1<=i->ao (L135_0 call ao) [strs l,.int .i64 i]=ay (.bool (oH (l.drop (i.toNat-1)))):=by
 intro n
 induction n with
 | zero=>
  intro i hn hi;rw[FL135_0];simp only[L135_0];have h1:¬(i<(l.length:Int)):=by omega
  have h2:oH (l.drop (i.toNat-1))=true:=by
   have:(l.drop (i.toNat-1)).length<=1:=by simp;omega
   match hq:l.drop (i.toNat-1),this with
   |[],_=>rfl
   |[x],_=>rfl
   |x:: y:: r,h=>simp at h
  simp[h1,h2]
 |succ n ih=>
  intro i hn hi;have h1:i<(l.length:Int):=by omega
  rw[FL135_0];simp only[L135_0];simp (disch:=omega) [h1,bd,mG];rw[ih (i+1) (by omega) (by omega),E6 l (i.toNat-1) i.toNat (by omega) (by omega),show (i+1).toNat-1=i.toNat by omega];cases bP l[i.toNat-1] l[i.toNat]<;>simp
def t135(l:List aR)(hb:l.length<=4611686018427387904):aj pg 135 [strs l]=ay (.bool (oH l)):=by
 rw[C135];simp[S135,Ba (aj pg) l hb (l.length-1) 1 rfl (by omega)]
def H7(f:AV)(F:Val->Bool)(l:List Val)(hb:l.length<=4611686018427387904)(hf:∀x∈l,cX (aj pg) f [Val.av x]=ay (.bool (F x))):∀(n:Nat)(i:Int),l.length-i.toNat=n->0<=i->i<=l.length->
  ao (L164_0 (aj pg) ao) [vals l,f,.int .i64 l.length,.int .i64 i]=ay (.int .i64 (bj F (l.drop i.toNat) i)):=by
 intro n
 induction n with
 |zero=>
  intro i hn hi hl;rw[FL164_0];simp only[L164_0];have h1:¬(i<(l.length:Int)):=by omega
  have h2:l.drop i.toNat=[]:=Qg (by omega);simp[h1,h2,bj]
 |succ n ih=>
  intro i hn hi hl;have h1:i<(l.length:Int):=by omega
  have hlt:i.toNat<l.length:=by omega
  have h2:bj F (l.drop i.toNat) i=if F l[i.toNat]=true then i else bj F (l.drop (i.toNat+1)) (i+1):=by rw[P9 hlt];rfl
  have h3:=hf l[i.toNat] (P2 hlt);have h4:=ih (i+1) (by omega) (by omega) (by omega);rw[show (i+1).toNat=i.toNat+1 by omega]at h4;rw[FL164_0];simp only[L164_0];simp (disch:=omega) [h1,bd,hM,h3,h2];cases F l[i.toNat]
  ·simpa using h4
  ·simp
def t164(f:AV)(F:Val->Bool)(l:List Val)(hb:l.length<=4611686018427387904)(hc:∀g,cl g f=f)(hf:∀x∈l,cX (aj pg) f [Val.av x]=ay (.bool (F x))):aj pg 164 [vals l,f]=ay (.int .i64 (bj F l 0)):=by
 rw[C164];simp[S164,hc,H7 f F l hb hf l.length 0 rfl (by omega) (by omega)]
def t130(f:AV)(F:Val->Bool)(l:List Val)(hb:l.length<=4611686018427387904)(hc:∀g,cl g f=f)(hf:∀x∈l,cX (aj pg) f [Val.av x]=ay (.bool (F x))):aj pg 130 [vals l,f]=ay (.bool (l.any F)):=by
 rw[C130];simp[S130,hc,t164 f F l hb hc hf,mw]
def Fu{α:Type}[BEq α](a b:List α)(i:Nat)(h1:i<a.length)(h2:i<b.length):(a.drop i== b.drop i)=(a[i]== b[i]&&a.drop (i+1)== b.drop (i+1)):=by
 rw[P9 h1,P9 h2];rfl
def H6(a b:List aR)(hb:a.length<=4611686018427387904)(hab:a.length=b.length):∀(n:Nat)(i:Int),a.length-i.toNat=n->0<=i->i<=a.length->
  ao (L147_0 (aj pg) ao) [strs a,strs b,.int .i64 a.length,.int .i64 i]=ay (.bool (a.drop i.toNat== b.drop i.toNat)):=by
 intro n
 induction n with
 |zero=>
  intro i hn hi hl;rw[FL147_0];simp only[L147_0];have h1:¬(i<(a.length:Int)):=by omega
  have h2:a.drop i.toNat=[]:=Qg (by omega);have h3:b.drop i.toNat=[]:=Qg (by omega);simp[h1,h2,h3]
 | succ n ih=>
  intro i hn hi hl;have h1:i<(a.length:Int):=by omega
  have h1':i<(b.length:Int):=by omega
  have hlt:i.toNat<a.length:=by omega
  have h4:=ih (i+1) (by omega) (by omega) (by omega);rw[show (i+1).toNat=i.toNat+1 by omega]at h4;rw[FL147_0,Fu a b i.toNat hlt (by omega)];simp only[L147_0];simp (disch:=omega) [h1,bd,mG,h4];by_cases h:a[i.toNat]=b[i.toNat]
  ·simp[h]
  ·have h':(a[i.toNat]== b[i.toNat])=false:=Qj.2 h;simp[h,h']
def t147(a b:List aR)(hb:a.length<=4611686018427387904):aj pg 147 [strs a,strs b]=ay (.bool (a== b)):=by
 rw[C147];by_cases h:a.length=b.length
 ·have:=H6 a b hb h a.length 0 rfl (by omega) (by omega)
  simp[S147,h]at this |-;simp[this]
 ·have h2:(a== b)=false:=by
   rw[Qj];intro hh;exact h (by rw[hh])
  have h3:((a.length:Int) != (b.length:Int))=true:=by simp;omega
  simp[S147,h3,h2]
theorem t86:∀(d:Nat),d<=4->∀(v:Val),v.sz<=4611686018427387904->aj pg 86 [v.av,.int .i64 d]=ay (.bool (bc d v))
 |0,_,v,_=>by
  rw[C86];simp[S86,bc]
 | d+1,hd,v,hv=>by
  have ih:=t86 d (by omega);have h1:=t135 v.names (QQ v.sz_names hv);have hf:∀x∈v.values,cX (aj pg) (.fn (.func 136) [] [.ip [.int .i64 ((d:Int)+1)]]) [x.av]=ay (.bool !(bc d x)):=by
   intro x hx;have hsz:=Pn hx
   have:=ih x (by omega)
   show aj pg 136 [x.av,.ip [.int .i64 ((d:Int)+1)]]=_;rw[C136];simp (disch:=omega) [S136,cl,eM,bd,this,show (d:Int)+1-1=d by omega]
  have h2:=t130 (.fn (.func 136) [] [.ip [.int .i64 ((d:Int)+1)]]) (fun x=>!(bc d x)) v.values (by have:=v.sz_len;omega) (fun g=>rfl) hf;have h0:¬((d:Int)+1=0):=by omega
  rw[C86];simp[S86,bc,h0,h1,h2];have hall:(!v.values.any fun x=>!bc d x)=v.values.all (bc d):=by simp[List.not_any_eq_all_not]
  rw[hall];split
  ·rfl
  ·congr 2;rw[show (v.kind== 2)=decide (v.kind=2)from rfl,show (v.n== 0)=decide (v.n=0)from rfl,show (v.names.length== v.values.length)=decide (v.names.length=v.values.length) by rw[QG];simp,
    show (!decide ((8:Int)<(v.names.length:Int)))=decide (v.names.length<=8) by rw[QG];simp;omega]
def Le(f:AV)(F:Val->Val->Bool)(a:List Val)(b:List Val)(hb:a.length<=4611686018427387904)(hab:a.length=b.length)(hf:∀x∈a,∀y∈b,cX (aj pg) f [Val.av x,Val.av y]=ay (.bool (F x y))):∀(n:Nat)(i:Int),a.length-i.toNat=n->0<=i->i<=a.length->
  ao (L47_0 (aj pg) ao) [vals b,f,vals a,.int .i64 a.length,.int .i64 i]=ay (.bool (cS F (a.drop i.toNat) (b.drop i.toNat))):=by
 intro n
 induction n with
 |zero=>
  intro i hn hi hl;rw[FL47_0];simp only[L47_0];have h1:¬(i<(a.length:Int)):=by omega
  have h2:a.drop i.toNat=[]:=Qg (by omega);have h3:b.drop i.toNat=[]:=Qg (by omega);simp[h1,h2,h3,cS]
 |succ n ih=>
  intro i hn hi hl;have h1:i<(a.length:Int):=by omega
  have h1':i<(b.length:Int):=by omega
  have hlt:i.toNat<a.length:=by omega
  have hlt':i.toNat<b.length:=by omega
  have h3:=hf a[i.toNat] (P2 hlt) b[i.toNat] (P2 hlt');have h4:=ih (i+1) (by omega) (by omega) (by omega);rw[show (i+1).toNat=i.toNat+1 by omega]at h4;rw[FL47_0,oF F a b i.toNat hlt hlt'];simp only[L47_0];simp (disch:=omega) [h1,bd,hM,hM,h4];rw[h3];cases F a[i.toNat] b[i.toNat]<;>simp
def t47(f:AV)(F:Val->Val->Bool)(a:List Val)(b:List Val)(hb:a.length<=4611686018427387904)(hc:∀g,cl g f=f)(hf:∀x∈a,∀y∈b,cX (aj pg) f [Val.av x,Val.av y]=ay (.bool (F x y))):aj pg 47 [vals a,vals b,f]=ay (.bool (cS F a b)):=by
 rw[C47];by_cases h:a.length=b.length
 ·have:=Le f F a b hb h hf a.length 0 rfl (by omega) (by omega)
  simp[S47,h,hc]at this |-;simp[this]
 ·have h3:(a.length != b.length)=true:=by simp[h]
  simp[S47,h3,eZ F a b h]
mutual
def gf:Val->Val->Bool
 |.mk k n ns vs,.mk k' n' ns' vs'=>k== k'&&n== n'&&ns== ns'&&kh vs vs'
def kh:List Val->List Val->Bool
 |[],[]=>true
 |v:: vs,w:: ws=>gf v w&&kh vs ws
 |_,_=>false
end
theorem pW:(a b:List Val)->kh a b=cS gf a b
 |[],[]=>rfl
 |[],_:: _=>rfl
 |_:: _,[]=>rfl
 |v:: a,w:: b=>by simp only[kh,cS,pW a b]
def yf(v w:Val):gf v w=(v.kind== w.kind&&v.n== w.n&&v.names== w.names&&cS gf v.values w.values):=by
 cases v;cases w;simp only[gf,pW,Val.kind,Val.n,Val.names,Val.values]
def t104:∀(n:Nat)(v w:Val),v.sz<=n->v.sz<=4611686018427387904->aj pg 104 [v.av,w.av]=ay (.bool (gf v w)):=by
 intro n
 induction n with
 |zero=>intro v w h;have:=v.sz_pos;omega
 | succ n ih=>
  intro v w hn hv;have h1:=t147 v.names w.names (QQ v.sz_names hv);have h2:=t47 (.fn (.func 104) [] []) gf v.values w.values (by have:=v.sz_len;omega) (fun g=>rfl) (fun x hx y _=>by
   have:=Pn hx
   exact ih x y (by omega) (by omega))
  rw[C104,yf];simp[S104,h1,h2]
def t49(v:Val)(hv:v.sz<=4611686018427387904):aj pg 49 [v.av]=ay (.bool (bc 4 v)):=by
 rw[C49]
 have:=t86 4 (by omega) v hv
 simp at this;simp[S49,this]
def t62(v w:Val)(hv:v.sz<=4611686018427387904)(hw:w.sz<=4611686018427387904):aj pg 62 [v.av,w.av]=ay (.bool (bc 4 v&&bc 4 w&&gf v w)):=by
 rw[C62];simp[S62,t49 v hv,t49 w hw,t104 v.sz v w (P5 _) hv]
theorem t146(l:List aR)(hb:l.length<=4611686018427387904):aj pg 146 [strs l]=ay (.bool (oH l)):=by
 have h:ao (L146_0 (aj pg) ao)=ao (L135_0 (aj pg) ao):=rfl;rw[C146];simp[S146,h,Ba (aj pg) l hb (l.length-1) 1 rfl (by omega)]
def fV:Nat->Val->Bool
 |0,_=>false
 |d+1,v=>if(v.kind<0\/3<=v.kind)\/¬v.names.length=v.values.length then false
  else if v.kind=0 then v.names.length== 0
  else if v.kind=1 then v.names.length== 0&&decide (0<=v.n)&&decide (v.n<=1)
  else if(¬v.n=0\/8<v.names.length)\/oH v.names=false then false
  else v.values.all (fV d)
theorem t103:∀(d:Nat),d<=4->∀(v:Val),v.sz<=4611686018427387904->aj pg 103 [v.av,.int .i64 d]=ay (.bool (fV d v))
 |0,_,v,_=>by
  rw[C103];simp[S103,fV]
 | d+1,hd,v,hv=>by
  have ih:=t103 d (by omega);have h1:=t146 v.names (QQ v.sz_names hv);have hlen:=v.sz_len;have hloop:=iy (FL103_0 (aj pg)) (fun k=>[.int .i64 ((d:Int)+1),.ip (aa v.av),.int .i64 (k:Int)]) v.values.length (fun k=>fV d v.values[k]!)
   (by simp[L103_0]) (fun k hk=>by
    have hx:=ih v.values[k] (by have:=Pn (P2 hk);omega);have hk':(k:Int)<(v.values.length:Int):=by omega
    simp only[L103_0];simp (disch:=omega) [hk,hk',bd,hM,hx,show (d:Int)+1-1=d by omega];cases fV d v.values[k]<;>simp) 0 (Qy _)
  simp only[Rq,kP]at hloop;have h0:¬((d:Int)+1<1):=by omega
  have h8:((8:Int)<(v.names.length:Int))=(8<v.names.length):=by rw[eq_iff_iff];omega
  simp at hloop;rw[C103];simp[S103,fV,h0,h1,hloop,h8]
def t59(v:Val)(hv:v.sz<=4611686018427387904):aj pg 59 [v.av]=ay (.bool (fV 4 v)):=by
 rw[C59]
 have:=t103 4 (by omega) v hv
 simp at this;simp[S59,this]
def t151(l:List Val)(hl:br l<=4611686018427387904):aj pg 151 [vals l]=ay (.bool (l.all (fV 4))):=by
 have hlen:=fI l;have hloop:=iy (FL151_0 (aj pg)) (fun k=>[vals l,.int .i64 (k:Int)]) l.length (fun k=>fV 4 l[k]!)
  (by simp[L151_0]) (fun k hk=>by
   have hx:=t59 l[k] (by have:=eJ (P2 hk);omega);have hk':(k:Int)<(l.length:Int):=by omega
   simp only[L151_0];simp (disch:=omega) [hk,hk',bd,hM,hx];cases fV 4 l[k]<;>simp) 0 (Qy _)
 simp only[Rq,kP]at hloop;simp at hloop;rw[C151];simp[S151,hloop]
def tA:Nat->Val->Bool
 |0,_=>true
 |n+1,v=>v.names.length== v.values.length&&v.values.all (tA n)
def t63:∀(n:Nat)(v w:Val),v.sz<=n->v.sz<=4611686018427387904->tA n v=true->tA n w=true->aj pg 63 [v.av,w.av]=ay (.bool (gf v w)):=by
 intro n
 induction n with
 |zero=>intro v w h;have:=v.sz_pos;omega
 | succ n ih=>
  intro v w hn hv ev ew;simp only[tA,PO,Qk,P7]at ev ew;have hlen:=v.sz_len;rw[C63,yf];by_cases hl:v.names.length=w.names.length
  ·have hvw:v.values.length=w.values.length:=by omega
   have hloop:=iy (FL63_0 (aj pg)) (fun k=>[.ip (aa v.av),.ip (aa w.av),.int .i64 (k:Int)]) v.names.length (fun k=>v.names[k]! == w.names[k]! && gf v.values[k]! w.values[k]!)
    (by simp[L63_0]) (fun k hk=>by
     have a1:k<v.values.length:=by omega
     have a2:k<w.values.length:=by omega
     have a3:k<w.names.length:=by omega
     have hx:=ih v.values[k] w.values[k] (by have:=Pn (P2 a1);omega) (by have:=Pn (P2 a1);omega) (ev.2 _ (P2 a1)) (ew.2 _ (P2 a2));simp only[L63_0];simp (disch:=omega) [hk,a1,a2,a3,bd,hM,mG,hx];cases v.names[k]== w.names[k]<;>cases gf v.values[k] w.values[k]<;>simp) 0 (Qy _)
   have hall:(List.range' 0 v.names.length).all (fun k=>v.names[k]! == w.names[k]! && gf v.values[k]! w.values[k]!)=(v.names== w.names&&cS gf v.values w.values):=by
    rw[show (v.names== w.names)=cS (fun a b=>a== b) v.names w.names from ?_]
    ·rw[<- gx _ v.names w.names hl,<- gx _ v.values w.values hvw,<- ev.1];rw[QG];simp only[P7,PO];exact⟨fun h=>⟨fun k hk=>(h k hk).1,fun k hk=>(h k hk).2⟩,fun h k hk=>⟨h.1 k hk,h.2 k hk⟩⟩
    ·exact wi _ _
   simp only[Rq,hall]at hloop;simp at hloop;simp[S63,hl,hloop];congr 2;rw[show (v.kind== w.kind)=decide (v.kind=w.kind)from rfl,show (v.n== w.n)=decide (v.n=w.n)from rfl];simp[Bool.and_assoc]
  ·have hne:(v.names== w.names)=false:=by
    rw[Qj];intro h;exact hl (by rw[h])
   simp[S63,hl,hne]
theorem na:∀(d:Nat)(v:Val),fV d v=true->∀n,tA n v=true
 |0,v,h,n=>by simp[fV]at h
 |d+1,v,h,0=>rfl
 | d + 1,v,h,n+1=>by
  simp only[tA,PO,Qk,P7];simp only[fV]at h;split at h
  ·cases h
  ·rename_i h1;have hl:v.names.length=v.values.length:=by
    rcases Nat.lt_trichotomy v.names.length v.values.length with h'|h'|h'
    ·exact absurd (.inr (by omega)) h1
    ·exact h'
    ·exact absurd (.inr (by omega)) h1
   refine⟨hl,fun x hx=>?_⟩;split at h
   ·have:v.values.length=0:=by simp at h;rw[h]at hl;simpa using hl.symm
    rw[P6 this]at hx;cases hx
   ·split at h
    ·have:v.values.length=0:=by simp at h;rw[h.1.1]at hl;simpa using hl.symm
     rw[P6 this]at hx;cases hx
    ·split at h
     ·cases h
     ·rw[P7]at h;exact na d x (h x hx) n
def t28(v w:Val)(hv:v.sz<=4611686018427387904)(hw:w.sz<=4611686018427387904):aj pg 28 [v.av,w.av]=ay (.bool (fV 4 v&&fV 4 w&&gf v w)):=by
 rw[C28];cases h1:fV 4 v with
 |false=>simp[S28,t59 v hv,h1]
 |true=>
  cases h2:fV 4 w with
  |false=>simp[S28,t59 v hv,t59 w hw,h1,h2]
  |true=>simp[S28,t59 v hv,t59 w hw,h1,h2,t63 v.sz v w (P5 _) hv (na 4 v h1 _) (na 4 w h2 _)]
end
end Go.Proofs.YtihmmkncokjbaaaGreatDoor
