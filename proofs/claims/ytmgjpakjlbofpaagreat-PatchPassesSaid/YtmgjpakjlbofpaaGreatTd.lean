/- What the functions of the seat compute, part 4: the texts of the claim, one behind the other. Conditions: bounds, as each theorem names them. -/
import Derived.Test.YtmgjpakjlbofpaaGreatTc
import Derived.Test.YtmgjpakjlbofpaaGreatLd
set_option linter.defProp false
set_option linter.unusedSimpArgs false
set_option linter.unusedVariables false
namespace Go.Proofs.YtmgjpakjlbofpaaGreat
open Go Go.Av Go.Av.Ap
set_option maxRecDepth 100000
noncomputable section
def L5_0(call:CC)(fx:b7 AV)(a:RR)(b:List AV):M AV:=ae (ah (ab T 34 (nth b 0) 4)) fun c=>ae (ah (af T 30 c)) fun d=>ae (ah (aE T 30 d)) fun e=>ae (ah (ao T .lss 3 (nth b 1) e)) fun f=>ae (aC f true 1 (ae (ah (ao T .lss 3 (nth b 1) (.int .i64 7))) fun g=>M.pure [g])) fun h=>ae (ah (aU f (nth h 0) (.bool false))) fun i=>az i (ae (ah (ab T 34 (nth b 0) 4)) fun j=>ae (ah (af T 30 j)) fun k=>ae (ah (aj T 30 k (nth b 1))) fun l=>ae (ah (ab T 61 l 2)) fun m=>ae (ah (af T 28 m)) fun n=>ae (call 13 [n]) fun o=>ae (ah (ka UnOp.not o)) fun p=>ae (aC p false 1 (ae (ah (ab T 34 (nth b 0) 4)) fun q=>ae (ah (af T 30 q)) fun r=>ae (ah (aj T 30 r (nth b 1))) fun s=>ae (ah (ab T 61 s 3)) fun u=>ae (ah (af T 57 u)) fun v=>ae (call 14 [v]) fun w=>ae (ah (ka UnOp.not w)) fun x=>M.pure [x])) fun y=>ae (ah (aU p (.bool true) (nth y 0))) fun z=>ae (aC z false 1 (ae (ah (ab T 34 (nth b 0) 4)) fun A=>ae (ah (af T 30 A)) fun B=>ae (ah (aj T 30 B (nth b 1))) fun C=>ae (ah (ab T 61 C 5)) fun D=>ae (ah (af T 59 D)) fun E=>ae (call 15 [E]) fun F=>ae (ah (ka UnOp.not F)) fun G=>M.pure [G])) fun H=>ae (ah (aU z (.bool true) (nth H 0))) fun I=>az I (M.pure (AV.bool false)) (ae (ah (ao T .add 3 (nth b 1) (.int .i64 1))) fun J=>a [nth b 0,J])) (ae (ah (ab T 34 (nth b 0) 4)) fun K=>ae (ah (af T 30 K)) fun L=>ae (ah (aE T 30 L)) fun N=>ae (ah (ao T .leq 3 N (.int .i64 6))) fun O=>ae (aC O true 1 (ae (ah (ab T 34 (nth b 0) 1)) fun P=>ae (ah (af T 27 P)) fun Q=>ae (ah (aE T 27 Q)) fun R=>ae (ah (ao T .leq 3 R (.int .i64 6))) fun S=>M.pure [S])) fun U=>ae (ah (aU O (nth U 0) (.bool false))) fun V=>ae (aC V true 1 (ae (ah (ab T 34 (nth b 0) 2)) fun W=>ae (ah (af T 28 W)) fun X=>ae (call 13 [X]) fun Y=>M.pure [Y])) fun Z=>ae (ah (aU V (nth Z 0) (.bool false))) fun u0=>ae (aC u0 true 1 (ae (ah (ab T 34 (nth b 0) 3)) fun u1=>ae (ah (af T 29 u1)) fun u2=>ae (call 16 [u2]) fun u3=>M.pure [u3])) fun u4=>ae (ah (aU u0 (nth u4 0) (.bool false))) fun u5=>ae (aC u5 true 1 (ae (ah (ab T 34 (nth b 0) 6)) fun u6=>ae (ah (ab T 32 u6 0)) fun u7=>ae (ah (af T 28 u7)) fun u8=>ae (call 13 [u8]) fun u9=>M.pure [u9])) fun w0=>ae (ah (aU u5 (nth w0 0) (.bool false))) fun w1=>ae (aC w1 true 1 (ae (ah (ab T 34 (nth b 0) 6)) fun w2=>ae (ah (ab T 32 w2 1)) fun w3=>ae (ah (af T 29 w3)) fun w4=>ae (call 16 [w4]) fun w5=>M.pure [w5])) fun w6=>ae (ah (aU w1 (nth w6 0) (.bool false))) fun w7=>ae (aC w7 true 1 (ae (ah (ab T 34 (nth b 0) 6)) fun w8=>ae (ah (ab T 32 w8 2)) fun w9=>ae (ah (af T 29 w9)) fun x0=>ae (call 16 [x0]) fun x1=>M.pure [x1])) fun x2=>ae (ah (aU w7 (nth x2 0) (.bool false))) fun x3=>M.pure x3)
def XL5_0{call:CC}:cf (L5_0 call ak) fun _n=>L5_0 call ak  :=by
 intro a b c d;unfold L5_0;exact (by(iterate 6 refine lb fun _=>?_);exact (aB (by(iterate 11 refine lb fun _=>?_);exact (aB (aL.const _) (lb fun _=>c _))) (aL.const _)))
def FL5_0(call:CC)(vs:List AV):ak (L5_0 call ak) vs=L5_0 call ak  (ak (L5_0 call ak)) vs:=bq (XL5_0) vs
def S5(call:CC)(fx:b7 AV)(a0:AV):M AV:=fx (L5_0 call fx) [.ip (aa a0),.int .i64 0]
def E5(a0:AV):EE 5 Tryz.f5 Gw [a0] (fun c x=>S5 c x a0):=fun _ _=>by kernel_rfl
def C5(a0:AV):ai pg 5 [a0]=aH (S5 (ai pg) ak (cl ar a0)):=(aA aG rfl rfl rfl _).trans (Kv aH (E5 (cl ar a0) _ _))
def L8_0(call:CC)(fx:b7 AV)(a:RR)(b:List AV):M AV:=ae (ah (ao T .lss 3 (nth b 6) (nth b 5))) fun c=>az c (ae (ah (aj T 23 (nth b 4) (nth b 6))) fun d=>ae (ah (af T 39 d)) fun e=>ae (aR 3 e) fun f=>ae (ah (aE T 35 (nth b 3))) fun g=>ae (ah (ao T .geq 3 (nth b 6) g)) fun h=>ae (aC h false 1 (ae (ah (ab T 39 (.ip (aa f)) 0)) fun i=>ae (ah (af T 9 i)) fun j=>ae (ah (ab T 39 (.ip (aa f)) 1)) fun k=>ae (ah (af T 9 k)) fun l=>ae (ah (ab T 39 (.ip (aa f)) 2)) fun m=>ae (ah (af T 37 m)) fun n=>ae (cX (call 7 [nth b 0,j,l,n,nth b 2,.int .i64 100000])) fun o=>ae (ah (aj T 35 (nth b 3) (nth b 6))) fun p=>ae (a7 T 46 p) fun q=>ae (cX (call 20 [o,q])) fun r=>ae (ah (ka UnOp.not r)) fun s=>M.pure [s])) fun u=>ae (ah (aU h (.bool true) (nth u 0))) fun v=>az v (M.pure (AV.tup [nth b 6,.bool false])) (ae (ah (ao T .add 3 (nth b 6) (.int .i64 1))) fun w=>a [nth b 0,nth b 1,nth b 2,nth b 3,nth b 4,nth b 5,w])) (ae (ah (aE T 23 (nth b 1))) fun x=>M.pure (AV.tup [x,.bool true]))
def XL8_0{call:CC}:cf (L8_0 call ak) fun _n=>L8_0 call ak  :=by
 intro a b c d;unfold L8_0;exact (lb fun _=>(aB (by(iterate 7 refine lb fun _=>?_);exact (aB (aL.const _) (lb fun _=>c _))) (aL.const _)))
def FL8_0(call:CC)(vs:List AV):ak (L8_0 call ak) vs=L8_0 call ak  (ak (L8_0 call ak)) vs:=bq (XL8_0) vs
def S8(call:CC)(fx:b7 AV)(a0 a1 a2 a3:AV):M AV:=ae (ah (aE T 23 a1)) fun a=>fx (L8_0 call fx) [a0,a1,a2,a3,a1,a,.int .i64 0]
def E8(a0 a1 a2 a3:AV):EE 8 Tryz.f8 GZ [a0,a1,a2,a3] (fun c x=>S8 c x a0 a1 a2 a3):=fun _ _=>by kernel_rfl
def C8(a0 a1 a2 a3:AV):ai pg 8 [a0,a1,a2,a3]=S8 (ai pg) ak a0 a1 a2 a3:=(cr aG rfl rfl rfl _).trans (E8 a0 a1 a2 a3 _ _)
def L17_0(call:CC)(fx:b7 AV)(a:RR)(b:List AV):M AV:=ae (ah (ab T 42 (nth b 1) 3)) fun c=>ae (ah (af T 37 c)) fun d=>ae (ah (aE T 37 d)) fun e=>ae (ah (ao T .lss 3 (nth b 3) e)) fun f=>ae (aC f true 1 (ae (ah (ao T .leq 3 (nth b 2) (nth b 0))) fun g=>M.pure [g])) fun h=>ae (ah (aU f (nth h 0) (.bool false))) fun i=>az i (ae (ah (ab T 42 (nth b 1) 3)) fun j=>ae (ah (af T 37 j)) fun k=>ae (ah (aj T 37 k (nth b 3))) fun l=>ae (ah (af T 42 l)) fun m=>ae (ah (ao T .sub 3 (nth b 0) (nth b 2))) fun n=>ae (call 17 [m,n]) fun o=>ae (ah (ao T .add 3 (nth b 2) o)) fun p=>ae (ah (ao T .add 3 (nth b 3) (.int .i64 1))) fun q=>a [nth b 0,nth b 1,p,q]) (M.pure (nth b 2))
def XL17_0{call:CC}:cf (L17_0 call ak) fun _n=>L17_0 call ak  :=by
 intro a b c d;unfold L17_0;exact (by(iterate 6 refine lb fun _=>?_);exact (aB (by(iterate 8 refine lb fun _=>?_);exact (c _)) (aL.const _)))
def FL17_0(call:CC)(vs:List AV):ak (L17_0 call ak) vs=L17_0 call ak  (ak (L17_0 call ak)) vs:=bq (XL17_0) vs
def S17(call:CC)(fx:b7 AV)(a0 a1:AV):M AV:=fx (L17_0 call fx) [a1,.ip (aa a0),.int .i64 1,.int .i64 0]
def E17(a0 a1:AV):EE 17 Tryz.f17 BZ [a0,a1] (fun c x=>S17 c x a0 a1):=fun _ _=>by kernel_rfl
def C17(a0 a1:AV):ai pg 17 [a0,a1]=aH (S17 (ai pg) ak (cl ar a0) (cl ar a1)):=(aA aG rfl rfl rfl _).trans (Kv aH (E17 (cl ar a0) (cl ar a1) _ _))
def L29_0(call:CC)(fx:b7 AV)(a:RR)(b:List AV):M AV:=ae (ah (ao T .lss 3 (nth b 3) (nth b 2))) fun c=>az c (ae (ah (aj T 27 (nth b 0) (nth b 3))) fun d=>ae (ah (af T 9 d)) fun e=>ae (ah (aj T 27 (nth b 1) (nth b 3))) fun f=>ae (ah (af T 9 f)) fun g=>ae (ah (ao T .neq 9 e g)) fun h=>az h (M.pure (AV.bool false)) (ae (ah (ao T .add 3 (nth b 3) (.int .i64 1))) fun i=>a [nth b 0,nth b 1,nth b 2,i])) (M.pure (AV.bool true))
def XL29_0{call:CC}:cf (L29_0 call ak) fun _n=>L29_0 call ak  :=by
 intro a b c d;unfold L29_0;exact (lb fun _=>(aB (by(iterate 5 refine lb fun _=>?_);exact (aB (aL.const _) (lb fun _=>c _))) (aL.const _)))
def FL29_0(call:CC)(vs:List AV):ak (L29_0 call ak) vs=L29_0 call ak  (ak (L29_0 call ak)) vs:=bq (XL29_0) vs
def S29(call:CC)(fx:b7 AV)(a0 a1:AV):M AV:=ae (ah (aE T 27 a0)) fun a=>ae (ah (aE T 27 a1)) fun b=>ae (ah (ao T .neq 3 a b)) fun c=>az c (M.pure (AV.bool false)) (ae (ah (aE T 27 a0)) fun d=>fx (L29_0 call fx) [a0,a1,d,.int .i64 0])
def E29(a0 a1:AV):EE 29 Tryz.f29 B4 [a0,a1] (fun c x=>S29 c x a0 a1):=fun _ _=>by kernel_rfl
def C29(a0 a1:AV):ai pg 29 [a0,a1]=aH (S29 (ai pg) ak (cl ar a0) (cl ar a1)):=(aA aG rfl rfl rfl _).trans (Kv aH (E29 (cl ar a0) (cl ar a1) _ _))
def S35(call:CC)(fx:b7 AV)(a0 a1 a2:AV):M AV:=ae (ah (af T 27 (.ip (aa a1)))) fun a=>ae (ah (aE T 27 a)) fun b=>ae (ah (af T 37 (.ip (aa a2)))) fun c=>ae (ah (aE T 37 c)) fun d=>ae (ah (ao T .neq 3 b d)) fun e=>ae (aC e false 1 (ae (ah (af T 37 (.ip (aa a2)))) fun f=>ae (call 39 [f,.fn (Fn.func 79) [] []]) fun g=>M.pure [g])) fun h=>ae (ah (aU e (.bool true) (nth h 0))) fun i=>az i (ae (ah (bi T false 42 [])) fun j=>ae (au 4 [] j) fun k=>M.pure (AV.tup [.agg [nth (aa k) 0,nth (aa k) 1,nth (aa k) 2,nth (aa k) 3],.int .i64 1])) (ae (ah (bi T true 98 [(2,.int .i64 100000)])) fun l=>ae (newH (aa l)) fun m=>ae (aR 1 m) fun n=>ae (call 43 [.fn (Fn.func 80) [] [.ip (aa n),.ip (aa a1),.ip (aa a2),.ip (aa a0)]]) fun o=>ae (ah (bP o 0)) fun p=>ae (ah (bP o 1)) fun q=>ae (au 4 [] p) fun r=>M.pure (AV.tup [.agg [nth (aa r) 0,nth (aa r) 1,nth (aa r) 2,nth (aa r) 3],q]))
def E35(a0 a1 a2:AV):EE 35 Tryz.f35 B8 [a0,a1,a2] (fun c x=>S35 c x a0 a1 a2):=fun _ _=>by kernel_rfl
def C35(a0 a1 a2:AV):ai pg 35 [a0,a1,a2]=aH (S35 (ai pg) ak (cl ar a0) (cl ar a1) (cl ar a2)):=(aA aG rfl rfl rfl _).trans (Kv aH (E35 (cl ar a0) (cl ar a1) (cl ar a2) _ _))
def S47(call:CC)(fx:b7 AV)(a0 a1:AV):M AV:=ae (ah (ab T 39 (.ip (aa a0)) 0)) fun a=>ae (ah (af T 9 a)) fun b=>ae (ah (ab T 39 (.ip (aa a1)) 0)) fun c=>ae (ah (af T 9 c)) fun d=>ae (ah (ao T .eql 9 b d)) fun e=>ae (aC e true 1 (ae (ah (ab T 39 (.ip (aa a0)) 1)) fun f=>ae (ah (af T 9 f)) fun g=>ae (ah (ab T 39 (.ip (aa a1)) 1)) fun h=>ae (ah (af T 9 h)) fun i=>ae (ah (ao T .eql 9 g i)) fun j=>M.pure [j])) fun k=>ae (ah (aU e (nth k 0) (.bool false))) fun l=>ae (aC l true 1 (ae (ah (ab T 39 (.ip (aa a0)) 2)) fun m=>ae (ah (af T 37 m)) fun n=>ae (ah (ab T 39 (.ip (aa a1)) 2)) fun o=>ae (ah (af T 37 o)) fun p=>ae (call 48 [n,p,.fn (Fn.func 49) [] []]) fun q=>M.pure [q])) fun r=>ae (ah (aU l (nth r 0) (.bool false))) fun s=>M.pure s
def E47(a0 a1:AV):EE 47 Tryz.f47 Ci [a0,a1] (fun c x=>S47 c x a0 a1):=fun _ _=>by kernel_rfl
def C47(a0 a1:AV):ai pg 47 [a0,a1]=aH (S47 (ai pg) ak (cl ar a0) (cl ar a1)):=(aA aG rfl rfl rfl _).trans (Kv aH (E47 (cl ar a0) (cl ar a1) _ _))
def S51(call:CC)(fx:b7 AV)(a0 a1:AV):M AV:=ae (ah (ab T 53 (.ip (aa a0)) 0)) fun a=>ae (ah (af T 9 a)) fun b=>ae (ah (ab T 53 (.ip (aa a1)) 0)) fun c=>ae (ah (af T 9 c)) fun d=>ae (ah (ao T .eql 9 b d)) fun e=>ae (aC e true 1 (ae (ah (ab T 53 (.ip (aa a0)) 1)) fun f=>ae (ah (af T 37 f)) fun g=>ae (ah (ab T 53 (.ip (aa a1)) 1)) fun h=>ae (ah (af T 37 h)) fun i=>ae (call 48 [g,i,.fn (Fn.func 49) [] []]) fun j=>M.pure [j])) fun k=>ae (ah (aU e (nth k 0) (.bool false))) fun l=>M.pure l
def E51(a0 a1:AV):EE 51 Tryz.f51 Cm [a0,a1] (fun c x=>S51 c x a0 a1):=fun _ _=>by kernel_rfl
def C51(a0 a1:AV):ai pg 51 [a0,a1]=aH (S51 (ai pg) ak (cl ar a0) (cl ar a1)):=(aA aG rfl rfl rfl _).trans (Kv aH (E51 (cl ar a0) (cl ar a1) _ _))
def S77(call:CC)(fx:b7 AV)(a0 a1:AV):M AV:=ae (call 85 [a0,a1]) fun a=>ae (ah (ao T .geq 3 a (.int .i64 0))) fun b=>M.pure b
def E77(a0 a1:AV):EE 77 Tryz.f77 Co [a0,a1] (fun c x=>S77 c x a0 a1):=fun _ _=>by kernel_rfl
def C77(a0 a1:AV):ai pg 77 [a0,a1]=aH (S77 (ai pg) ak (cl ar a0) (cl ar a1)):=(aA aG rfl rfl rfl _).trans (Kv aH (E77 (cl ar a0) (cl ar a1) _ _))
def S78(call:CC)(fx:b7 AV)(a0 a1:AV):M AV:=ae (ah (ab T 34 (.ip (aa a0)) 0)) fun a=>ae (ah (af T 9 a)) fun b=>ae (ah (ab T 34 a1 0)) fun c=>ae (ah (af T 9 c)) fun d=>ae (ah (ao T .eql 9 b d)) fun e=>M.pure e
def E78(a0 a1:AV):EE 78 Tryz.f78 Cp [a0,a1] (fun c x=>S78 c x a0 a1):=fun _ _=>by kernel_rfl
def C78(a0 a1:AV):ai pg 78 [a0,a1]=aH (S78 (ai pg) ak (cl ar a0) (cl ar a1)):=(aA aG rfl rfl rfl _).trans (Kv aH (E78 (cl ar a0) (cl ar a1) _ _))
def S79(call:CC)(fx:b7 AV)(a0:AV):M AV:=ae (ah (af T 42 (.ip (aa a0)))) fun a=>ae (call 41 [a]) fun b=>ae (ah (ka UnOp.not b)) fun c=>M.pure c
def E79(a0:AV):EE 79 Tryz.f79 Cq [a0] (fun c x=>S79 c x a0):=fun _ _=>by kernel_rfl
def C79(a0:AV):ai pg 79 [a0]=aH (S79 (ai pg) ak (cl ar a0)):=(aA aG rfl rfl rfl _).trans (Kv aH (E79 (cl ar a0) _ _))
def K81_0(call:CC)(fx:b7 AV)(a:List AV):M AV:=ae (ah (af T 166 (nth a 1))) fun b=>ae (ah (af T 59 (nth a 2))) fun c=>ae (call 133 [nth a 0,b,c]) fun d=>ae (au 4 [] d) fun e=>M.pure (AV.agg [nth (aa e) 0,nth (aa e) 1,nth (aa e) 2,nth (aa e) 3])
def L81_0(call:CC)(fx:b7 AV)(a:RR)(b:RR)(c:List AV):M AV:=ae (ah (ao T .geq 3 (nth c 3) (.int .i64 0))) fun d=>az d (ae (ah (ab T 166 (nth c 1) 1)) fun e=>ae (ah (af T 27 e)) fun f=>ae (ah (aj T 27 f (nth c 3))) fun g=>ae (ah (af T 9 g)) fun h=>ae (ah (ab T 59 (nth c 2) 2)) fun i=>ae (ah (af T 9 i)) fun j=>ae (ah (ao T .eql 9 h j)) fun k=>az k (ae (ah (ab T 166 (nth c 1) 2)) fun l=>ae (ah (af T 37 l)) fun m=>ae (ah (aj T 37 m (nth c 3))) fun n=>ae (ah (af T 42 n)) fun o=>ae (au 4 [] o) fun p=>M.pure (AV.agg [nth (aa p) 0,nth (aa p) 1,nth (aa p) 2,nth (aa p) 3])) (ae (ah (ao T .sub 3 (nth c 3) (.int .i64 1))) fun q=>b [nth c 0,nth c 1,nth c 2,q,nth c 4,nth c 5,nth c 6,nth c 7])) (ae (ah (gV T 40 (.int .i64 12))) fun r=>ae (Bo r) fun s=>a [nth c 0,nth c 1,nth c 2,nth c 4,nth c 5,nth c 6,nth c 7])
def K81_1(call:CC)(fx:b7 AV)(a:RR)(b:List AV):M AV:=az (nth b 4) (ae (ah (af T 166 (nth b 1))) fun c=>ae (ah (ab T 59 (nth b 2) 5)) fun d=>ae (ah (af T 29 d)) fun e=>ae (ah (aj T 29 e (.int .i64 0))) fun f=>ae (ah (af T 59 f)) fun g=>ae (ah (ab T 59 (nth b 2) 0)) fun h=>ae (ah (af T 3 h)) fun i=>ae (ah (ao T .eql 3 i (.int .i64 9))) fun j=>ae (call 129 [nth b 0,c,g]) fun k=>ae (ah (ao T .eql 4 k j)) fun l=>az l (ae (ah (ab T 59 (nth b 2) 0)) fun m=>ae (ah (af T 3 m)) fun n=>ae (ah (ao T .eql 3 n (.int .i64 9))) fun o=>ae (call 127 [o]) fun p=>ae (au 4 [] p) fun q=>M.pure (AV.agg [nth (aa q) 0,nth (aa q) 1,nth (aa q) 2,nth (aa q) 3])) (ae (ah (af T 166 (nth b 1))) fun r=>ae (ah (ab T 59 (nth b 2) 5)) fun s=>ae (ah (af T 29 s)) fun u=>ae (ah (aj T 29 u (.int .i64 1))) fun v=>ae (ah (af T 59 v)) fun w=>ae (call 129 [nth b 0,r,w]) fun x=>ae (cX (call 127 [x])) fun y=>ae (au 4 [] y) fun z=>M.pure (AV.agg [nth (aa z) 0,nth (aa z) 1,nth (aa z) 2,nth (aa z) 3]))) (ae (ah (ao T .eql 3 (nth b 3) (.int .i64 10))) fun A=>az A (ae (ah (af T 166 (nth b 1))) fun B=>ae (ah (ab T 59 (nth b 2) 5)) fun C=>ae (ah (af T 29 C)) fun D=>ae (ah (aj T 29 D (.int .i64 0))) fun E=>ae (ah (af T 59 E)) fun F=>ae (call 129 [nth b 0,B,F]) fun G=>ae (ah (ka UnOp.not G)) fun H=>ae (cX (call 127 [H])) fun I=>ae (au 4 [] I) fun J=>M.pure (AV.agg [nth (aa J) 0,nth (aa J) 1,nth (aa J) 2,nth (aa J) 3])) (ae (ah (ao T .eql 3 (nth b 3) (.int .i64 11))) fun K=>az K (ae (ah (af T 166 (nth b 1))) fun L=>ae (ah (ab T 59 (nth b 2) 5)) fun N=>ae (ah (af T 29 N)) fun O=>ae (ah (aj T 29 O (.int .i64 0))) fun P=>ae (ah (af T 59 P)) fun Q=>ae (call 129 [nth b 0,L,Q]) fun R=>az R (ae (ah (af T 166 (nth b 1))) fun S=>ae (ah (ab T 59 (nth b 2) 5)) fun U=>ae (ah (af T 29 U)) fun V=>ae (ah (aj T 29 V (.int .i64 1))) fun W=>ae (ah (af T 59 W)) fun X=>ae (call 81 [nth b 0,S,X]) fun Y=>ae (au 4 [] Y) fun Z=>M.pure (AV.agg [nth (aa Z) 0,nth (aa Z) 1,nth (aa Z) 2,nth (aa Z) 3])) (ae (ah (af T 166 (nth b 1))) fun u0=>ae (ah (ab T 59 (nth b 2) 5)) fun u1=>ae (ah (af T 29 u1)) fun u2=>ae (ah (aj T 29 u2 (.int .i64 2))) fun u3=>ae (ah (af T 59 u3)) fun u4=>ae (call 81 [nth b 0,u0,u4]) fun u5=>ae (au 4 [] u5) fun u6=>M.pure (AV.agg [nth (aa u6) 0,nth (aa u6) 1,nth (aa u6) 2,nth (aa u6) 3]))) (ae (ah (ao T .eql 3 (nth b 3) (.int .i64 12))) fun u7=>az u7 (ae (ah (af T 166 (nth b 1))) fun u8=>ae (ah (ab T 59 (nth b 2) 2)) fun u9=>ae (ah (af T 9 u9)) fun v0=>ae (ah (af T 166 (nth b 1))) fun v1=>ae (ah (ab T 59 (nth b 2) 5)) fun v2=>ae (ah (af T 29 v2)) fun v3=>ae (ah (aj T 29 v3 (.int .i64 0))) fun v4=>ae (ah (af T 59 v4)) fun v5=>ae (ah (ab T 59 (nth b 2) 5)) fun v6=>ae (ah (af T 29 v6)) fun v7=>ae (ah (aj T 29 v7 (.int .i64 1))) fun v8=>ae (ah (af T 59 v8)) fun v9=>ae (call 81 [nth b 0,v1,v5]) fun w0=>ae (cX (call 93 [u8,v0,w0])) fun w1=>ae (call 81 [nth b 0,w1,v9]) fun w2=>ae (au 4 [] w2) fun w3=>M.pure (AV.agg [nth (aa w3) 0,nth (aa w3) 1,nth (aa w3) 2,nth (aa w3) 3])) (ae (ah (ao T .eql 3 (nth b 3) (.int .i64 13))) fun w4=>az w4 (ae (ah (af T 166 (nth b 1))) fun w5=>ae (ah (af T 59 (nth b 2))) fun w6=>ae (call 130 [nth b 0,w5,w6]) fun w7=>ae (au 4 [] w7) fun w8=>M.pure (AV.agg [nth (aa w8) 0,nth (aa w8) 1,nth (aa w8) 2,nth (aa w8) 3])) (ae (ah (ao T .eql 3 (nth b 3) (.int .i64 14))) fun w9=>az w9 (ae (ah (af T 166 (nth b 1))) fun x0=>ae (ah (ab T 59 (nth b 2) 5)) fun x1=>ae (ah (af T 29 x1)) fun x2=>ae (ah (aj T 29 x2 (.int .i64 0))) fun x3=>ae (ah (af T 59 x3)) fun x4=>ae (call 81 [nth b 0,x0,x4]) fun x5=>ae (aR 4 x5) fun x6=>ae (ah (ab T 42 (.ip (aa x6)) 2)) fun x7=>ae (ah (af T 27 x7)) fun x8=>ae (ah (ab T 59 (nth b 2) 2)) fun x9=>ae (ah (af T 9 x9)) fun y0=>ae (call 131 [x8,y0]) fun y1=>ae (ah (ab T 42 (.ip (aa x6)) 0)) fun y2=>ae (ah (af T 3 y2)) fun y3=>ae (ah (ao T .eql 3 y3 (.int .i64 2))) fun y4=>ae (aC y4 true 1 (ae (ah (ao T .geq 3 y1 (.int .i64 0))) fun y5=>M.pure [y5])) fun y6=>ae (ah (aU y4 (nth y6 0) (.bool false))) fun y7=>ae (call 92 [y7,.int .i64 13]) fun y8=>ae (ah (ab T 42 (.ip (aa x6)) 3)) fun y9=>ae (ah (af T 37 y9)) fun z0=>ae (ah (aj T 37 z0 y1)) fun z1=>ae (ah (af T 42 z1)) fun z2=>ae (au 4 [] z2) fun z3=>M.pure (AV.agg [nth (aa z3) 0,nth (aa z3) 1,nth (aa z3) 2,nth (aa z3) 3])) (ae (ah (ao T .eql 3 (nth b 3) (.int .i64 15))) fun z4=>az z4 (ae (ah (af T 166 (nth b 1))) fun z5=>ae (ah (af T 59 (nth b 2))) fun z6=>ae (call 132 [nth b 0,z5,z6]) fun z7=>ae (au 4 [] z7) fun z8=>M.pure (AV.agg [nth (aa z8) 0,nth (aa z8) 1,nth (aa z8) 2,nth (aa z8) 3])) (a [nth b 0,nth b 1,nth b 2,nth b 5,nth b 6,nth b 7,nth b 8])))))))
def K81_2(call:CC)(fx:b7 AV)(a:RR)(b:List AV):M AV:=az (nth b 4) (ae (ah (ab T 59 (nth b 2) 0)) fun c=>ae (ah (af T 3 c)) fun d=>ae (ah (af T 166 (nth b 1))) fun e=>ae (ah (ab T 59 (nth b 2) 5)) fun f=>ae (ah (af T 29 f)) fun g=>ae (ah (aj T 29 g (.int .i64 0))) fun h=>ae (ah (af T 59 h)) fun i=>ae (ah (af T 166 (nth b 1))) fun j=>ae (ah (ab T 59 (nth b 2) 5)) fun k=>ae (ah (af T 29 k)) fun l=>ae (ah (aj T 29 l (.int .i64 1))) fun m=>ae (ah (af T 59 m)) fun n=>ae (call 81 [nth b 0,e,i]) fun o=>ae (call 81 [nth b 0,j,n]) fun p=>ae (call 128 [d,o,p]) fun q=>ae (au 4 [] q) fun r=>M.pure (AV.agg [nth (aa r) 0,nth (aa r) 1,nth (aa r) 2,nth (aa r) 3])) (jn (K81_1 call fx a) fun s=>ae (ah (ao T .eql 3 (nth b 3) (.int .i64 8))) fun u=>az u (s [nth b 0,nth b 1,nth b 2,nth b 3,u,nth b 5,nth b 6,nth b 7,nth b 8]) (ae (ah (ao T .eql 3 (nth b 3) (.int .i64 9))) fun v=>s [nth b 0,nth b 1,nth b 2,nth b 3,v,nth b 5,nth b 6,nth b 7,nth b 8]))
def XL81_0{call:CC}{a:RR}{b:Nat->RR}(c:bz a fun n=>b n):cf (L81_0 call ak a) fun n=>L81_0 call ak (b n):=by
 intro d e f g;unfold L81_0;exact (lb fun _=>(aB (by(iterate 7 refine lb fun _=>?_);exact (aB (aL.const _) (lb fun _=>f _))) (lb fun _=>(lb fun _=>c _))))
def FL81_0(call:CC)(a:RR)(vs:List AV):ak (L81_0 call ak a) vs=L81_0 call ak a (ak (L81_0 call ak a)) vs:=bq (XL81_0 (bz.const _)) vs
def S81(call:CC)(fx:b7 AV)(a0 a1 a2:AV):M AV:=ae (ah (br a0)) fun a=>ae (ah (ab T 98 a 2)) fun b=>ae (a7 T 3 b) fun c=>ae (ah (ao T .gtr 3 c (.int .i64 0))) fun d=>ae (call 92 [d,.int .i64 16]) fun e=>ae (ah (br a0)) fun f=>ae (ah (ab T 98 f 2)) fun g=>ae (a7 T 3 g) fun h=>ae (ah (ao T .sub 3 h (.int .i64 1))) fun i=>ae (ah (br a0)) fun j=>ae (ah (ab T 98 j 2)) fun k=>ae (bH T 3 k i) fun l=>ae (ah (ab T 59 (.ip (aa a2)) 0)) fun m=>ae (ah (af T 3 m)) fun n=>ae (call 125 [n]) fun o=>ae (ah (ao T .neq 3 o (.int .i64 (-2)))) fun p=>ae (aC p true 1 (ae (ah (ao T .eql 3 o (.int .i64 (-1)))) fun q=>M.pure [q])) fun r=>ae (aC (nth r 0) false 1 (ae (ah (ab T 59 (.ip (aa a2)) 5)) fun s=>ae (ah (af T 29 s)) fun u=>ae (ah (aE T 29 u)) fun v=>ae (ah (ao T .eql 3 o v)) fun w=>M.pure [w])) fun x=>ae (aC p true 1 (ae (ah (aU (nth r 0) (.bool true) (nth x 0))) fun y=>M.pure [y])) fun z=>ae (ah (aU p (nth z 0) (.bool false))) fun A=>ae (call 92 [A,.int .i64 13]) fun B=>jn (K81_0 call fx) fun C=>ae (ah (ab T 59 (.ip (aa a2)) 0)) fun D=>ae (ah (af T 3 D)) fun E=>ae (ah (ao T .eql 3 E (.int .i64 0))) fun F=>az F (ae (ah (ab T 59 (.ip (aa a2)) 1)) fun G=>ae (ah (af T 3 G)) fun H=>ae (call 126 [H]) fun I=>ae (au 4 [] I) fun J=>M.pure (AV.agg [nth (aa J) 0,nth (aa J) 1,nth (aa J) 2,nth (aa J) 3])) (ae (ah (ao T .eql 3 E (.int .i64 1))) fun K=>az K (ae (ah (ab T 59 (.ip (aa a2)) 1)) fun L=>ae (ah (af T 3 L)) fun N=>ae (ah (ao T .eql 3 N (.int .i64 0))) fun O=>ae (aC O false 1 (ae (ah (ab T 59 (.ip (aa a2)) 1)) fun P=>ae (ah (af T 3 P)) fun Q=>ae (ah (ao T .eql 3 Q (.int .i64 1))) fun R=>M.pure [R])) fun S=>ae (ah (aU O (.bool true) (nth S 0))) fun U=>ae (call 92 [U,.int .i64 13]) fun V=>ae (ah (ab T 59 (.ip (aa a2)) 1)) fun W=>ae (ah (af T 3 W)) fun X=>ae (ah (ao T .eql 3 X (.int .i64 1))) fun Y=>ae (call 127 [Y]) fun Z=>ae (au 4 [] Z) fun u0=>M.pure (AV.agg [nth (aa u0) 0,nth (aa u0) 1,nth (aa u0) 2,nth (aa u0) 3])) (ae (ah (ao T .eql 3 E (.int .i64 2))) fun u1=>az u1 (ae (ah (ab T 166 (.ip (aa a1)) 1)) fun u2=>ae (ah (af T 27 u2)) fun u3=>ae (ah (aE T 27 u3)) fun u4=>ae (ah (ao T .sub 3 u4 (.int .i64 1))) fun u5=>fx (L81_0 call fx C) [a0,.ip (aa a1),.ip (aa a2),u5,.int .i64 0,.int .i64 0,.sl [],.sl []]) (jn (K81_2 call fx C) fun u6=>ae (ah (ao T .eql 3 E (.int .i64 3))) fun u7=>az u7 (u6 [a0,.ip (aa a1),.ip (aa a2),E,u7,.int .i64 0,.int .i64 0,.sl [],.sl []]) (ae (ah (ao T .eql 3 E (.int .i64 4))) fun u8=>az u8 (u6 [a0,.ip (aa a1),.ip (aa a2),E,u8,.int .i64 0,.int .i64 0,.sl [],.sl []]) (ae (ah (ao T .eql 3 E (.int .i64 5))) fun u9=>az u9 (u6 [a0,.ip (aa a1),.ip (aa a2),E,u9,.int .i64 0,.int .i64 0,.sl [],.sl []]) (ae (ah (ao T .eql 3 E (.int .i64 6))) fun w0=>az w0 (u6 [a0,.ip (aa a1),.ip (aa a2),E,w0,.int .i64 0,.int .i64 0,.sl [],.sl []]) (ae (ah (ao T .eql 3 E (.int .i64 7))) fun w1=>u6 [a0,.ip (aa a1),.ip (aa a2),E,w1,.int .i64 0,.int .i64 0,.sl [],.sl []])))))))
def E81(a0 a1 a2:AV):EE 81 Tryz.f81 Cs [a0,a1,a2] (fun c x=>S81 c x a0 a1 a2):=fun _ _=>by kernel_rfl
def C81(a0 a1 a2:AV):ai pg 81 [a0,a1,a2]=S81 (ai pg) ak a0 a1 a2:=(cr aG rfl rfl rfl _).trans (E81 a0 a1 a2 _ _)
def L82_0(call:CC)(fx:b7 AV)(a:RR)(b:List AV):M AV:=ae (ah (ao T .lss 3 (nth b 4) (nth b 3))) fun c=>az c (ae (ah (aj T 22 (nth b 2) (nth b 4))) fun d=>ae (ah (af T 34 d)) fun e=>ae (aR 9 e) fun f=>ae (ah (aj T 44 (nth b 0) (nth b 4))) fun g=>ae (ah (af T 53 g)) fun h=>ae (aR 2 h) fun i=>ae (ah (af T 34 (.ip (aa f)))) fun j=>ae (ah (af T 53 (.ip (aa i)))) fun k=>ae (bO call (nth b 1) [j,k]) fun l=>ae (ah (ka UnOp.not l)) fun m=>az m (M.pure (AV.bool false)) (ae (ah (ao T .add 3 (nth b 4) (.int .i64 1))) fun n=>a [nth b 0,nth b 1,nth b 2,nth b 3,n])) (M.pure (AV.bool true))
def XL82_0{call:CC}:cf (L82_0 call ak) fun _n=>L82_0 call ak  :=by
 intro a b c d;unfold L82_0;exact (lb fun _=>(aB (by(iterate 10 refine lb fun _=>?_);exact (aB (aL.const _) (lb fun _=>c _))) (aL.const _)))
def FL82_0(call:CC)(vs:List AV):ak (L82_0 call ak) vs=L82_0 call ak  (ak (L82_0 call ak)) vs:=bq (XL82_0) vs
def S82(call:CC)(fx:b7 AV)(a0 a1 a2:AV):M AV:=ae (ah (aE T 22 a0)) fun a=>ae (ah (aE T 44 a1)) fun b=>ae (ah (ao T .neq 3 a b)) fun c=>az c (M.pure (AV.bool false)) (ae (ah (aE T 22 a0)) fun d=>fx (L82_0 call fx) [a1,a2,a0,d,.int .i64 0])
def E82(a0 a1 a2:AV):EE 82 Tryz.f82 Ct [a0,a1,a2] (fun c x=>S82 c x a0 a1 a2):=fun _ _=>by kernel_rfl
def C82(a0 a1 a2:AV):ai pg 82 [a0,a1,a2]=aH (S82 (ai pg) ak (cl ar a0) (cl ar a1) (cl ar a2)):=(aA aG rfl rfl rfl _).trans (Kv aH (E82 (cl ar a0) (cl ar a1) (cl ar a2) _ _))
def S86(call:CC)(fx:b7 AV)(a0 a1:AV):M AV:=ae (ah (ab T 34 (.ip (aa a0)) 0)) fun a=>ae (ah (af T 9 a)) fun b=>ae (ah (af T 9 a1)) fun c=>ae (ah (ao T .eql 9 b c)) fun d=>M.pure d
def E86(a0 a1:AV):EE 86 Tryz.f86 Cy [a0,a1] (fun c x=>S86 c x a0 a1):=fun _ _=>by kernel_rfl
def C86(a0 a1:AV):ai pg 86 [a0,a1]=aH (S86 (ai pg) ak (cl ar a0) (cl ar a1)):=(aA aG rfl rfl rfl _).trans (Kv aH (E86 (cl ar a0) (cl ar a1) _ _))
def L87_0(call:CC)(fx:b7 AV)(a:RR)(b:List AV):M AV:=ae (ah (ao T .lss 3 (nth b 3) (nth b 2))) fun c=>az c (ae (ah (aj T 30 (nth b 0) (nth b 3))) fun d=>ae (ah (af T 61 d)) fun e=>ae (bO call (nth b 1) [e]) fun f=>az f (M.pure (nth b 3)) (ae (ah (ao T .add 3 (nth b 3) (.int .i64 1))) fun g=>a [nth b 0,nth b 1,nth b 2,g])) (M.pure (AV.int .i64 (-1)))
def XL87_0{call:CC}:cf (L87_0 call ak) fun _n=>L87_0 call ak  :=by
 intro a b c d;unfold L87_0;exact (lb fun _=>(aB (lb fun _=>(lb fun _=>(lb fun _=>(aB (aL.const _) (lb fun _=>c _))))) (aL.const _)))
def FL87_0(call:CC)(vs:List AV):ak (L87_0 call ak) vs=L87_0 call ak  (ak (L87_0 call ak)) vs:=bq (XL87_0) vs
def S87(call:CC)(fx:b7 AV)(a0 a1:AV):M AV:=ae (ah (aE T 30 a0)) fun a=>fx (L87_0 call fx) [a0,a1,a,.int .i64 0]
def E87(a0 a1:AV):EE 87 Tryz.f87 Cz [a0,a1] (fun c x=>S87 c x a0 a1):=fun _ _=>by kernel_rfl
def C87(a0 a1:AV):ai pg 87 [a0,a1]=aH (S87 (ai pg) ak (cl ar a0) (cl ar a1)):=(aA aG rfl rfl rfl _).trans (Kv aH (E87 (cl ar a0) (cl ar a1) _ _))
def S90(call:CC)(fx:b7 AV)(a0 a1:AV):M AV:=ae (ah (af T 3 (.ip (aa a1)))) fun a=>ae (ah (ao T .eql 3 a (.int .i64 0))) fun b=>az b (M.pure (AV.bool false)) (ae (ah (ab T 42 (.ip (aa a0)) 0)) fun c=>ae (ah (af T 3 c)) fun d=>ae (ah (ao T .eql 3 d (.int .i64 0))) fun e=>ae (aC e false 1 (ae (ah (ab T 42 (.ip (aa a0)) 0)) fun f=>ae (ah (af T 3 f)) fun g=>ae (ah (ao T .eql 3 g (.int .i64 1))) fun h=>M.pure [h])) fun i=>ae (ah (aU e (.bool true) (nth i 0))) fun j=>az j (ae (ah (ab T 42 (.ip (aa a0)) 2)) fun k=>ae (ah (af T 27 k)) fun l=>ae (ah (aE T 27 l)) fun m=>ae (ah (ao T .eql 3 m (.int .i64 0))) fun n=>ae (aC n true 1 (ae (ah (ab T 42 (.ip (aa a0)) 3)) fun o=>ae (ah (af T 37 o)) fun p=>ae (ah (aE T 37 p)) fun q=>ae (ah (ao T .eql 3 q (.int .i64 0))) fun r=>M.pure [r])) fun s=>ae (ah (aU n (nth s 0) (.bool false))) fun u=>ae (aC u true 1 (ae (ah (ab T 42 (.ip (aa a0)) 0)) fun v=>ae (ah (af T 3 v)) fun w=>ae (ah (ao T .eql 3 w (.int .i64 0))) fun x=>M.pure [x])) fun y=>ae (aC (nth y 0) false 1 (ae (ah (ab T 42 (.ip (aa a0)) 1)) fun z=>ae (ah (af T 3 z)) fun A=>ae (ah (ao T .eql 3 A (.int .i64 0))) fun B=>M.pure [B])) fun C=>ae (aC u true 1 (ae (ah (aU (nth y 0) (.bool true) (nth C 0))) fun D=>M.pure [D])) fun E=>ae (aC (nth E 0) false 1 (ae (ah (ab T 42 (.ip (aa a0)) 1)) fun F=>ae (ah (af T 3 F)) fun G=>ae (ah (ao T .eql 3 G (.int .i64 1))) fun H=>M.pure [H])) fun I=>ae (aC u true 1 (ae (ah (aU (nth E 0) (.bool true) (nth I 0))) fun J=>M.pure [J])) fun K=>ae (ah (aU u (nth K 0) (.bool false))) fun L=>M.pure L) (ae (ah (ab T 42 (.ip (aa a0)) 0)) fun N=>ae (ah (af T 3 N)) fun O=>ae (ah (ao T .neq 3 O (.int .i64 2))) fun P=>ae (aC P false 1 (ae (ah (ab T 42 (.ip (aa a0)) 1)) fun Q=>ae (ah (af T 3 Q)) fun R=>ae (ah (ao T .neq 3 R (.int .i64 0))) fun S=>M.pure [S])) fun U=>ae (ah (aU P (.bool true) (nth U 0))) fun V=>ae (aC V false 1 (ae (ah (ab T 42 (.ip (aa a0)) 2)) fun W=>ae (ah (af T 27 W)) fun X=>ae (ah (aE T 27 X)) fun Y=>ae (ah (ab T 42 (.ip (aa a0)) 3)) fun Z=>ae (ah (af T 37 Z)) fun u0=>ae (ah (aE T 37 u0)) fun u1=>ae (ah (ao T .neq 3 Y u1)) fun u2=>M.pure [u2])) fun u3=>ae (ah (aU V (.bool true) (nth u3 0))) fun u4=>ae (aC u4 false 1 (ae (ah (ab T 42 (.ip (aa a0)) 2)) fun u5=>ae (ah (af T 27 u5)) fun u6=>ae (ah (aE T 27 u6)) fun u7=>ae (ah (ao T .gtr 3 u7 (.int .i64 8))) fun u8=>M.pure [u8])) fun u9=>ae (ah (aU u4 (.bool true) (nth u9 0))) fun w0=>ae (aC w0 false 1 (ae (ah (ab T 42 (.ip (aa a0)) 2)) fun w1=>ae (ah (af T 27 w1)) fun w2=>ae (call 134 [w2]) fun w3=>ae (ah (ka UnOp.not w3)) fun w4=>M.pure [w4])) fun w5=>ae (ah (aU w0 (.bool true) (nth w5 0))) fun w6=>az w6 (M.pure (AV.bool false)) (ae (ah (ab T 42 (.ip (aa a0)) 3)) fun w7=>ae (ah (af T 37 w7)) fun w8=>ae (call 39 [w8,.fn (Fn.func 135) [] [.ip (aa a1)]]) fun w9=>ae (ah (ka UnOp.not w9)) fun x0=>M.pure x0)))
def E90(a0 a1:AV):EE 90 Tryz.f90 CF [a0,a1] (fun c x=>S90 c x a0 a1):=fun _ _=>by kernel_rfl
def C90(a0 a1:AV):ai pg 90 [a0,a1]=aH (S90 (ai pg) ak (cl ar a0) (cl ar a1)):=(aA aG rfl rfl rfl _).trans (Kv aH (E90 (cl ar a0) (cl ar a1) _ _))
def S127(call:CC)(fx:b7 AV)(a0:AV):M AV:=az a0 (ae (ah (bi T false 42 [(0,.int .i64 1),(1,.int .i64 1)])) fun a=>ae (au 4 [] a) fun b=>M.pure (AV.agg [nth (aa b) 0,nth (aa b) 1,nth (aa b) 2,nth (aa b) 3])) (ae (ah (bi T false 42 [(0,.int .i64 1)])) fun c=>ae (au 4 [] c) fun d=>M.pure (AV.agg [nth (aa d) 0,nth (aa d) 1,nth (aa d) 2,nth (aa d) 3]))
def E127(a0:AV):EE 127 Tryz.f127 xX [a0] (fun c x=>S127 c x a0):=fun _ _=>by kernel_rfl
def C127(a0:AV):ai pg 127 [a0]=aH (S127 (ai pg) ak (cl ar a0)):=(aA aG rfl rfl rfl _).trans (Kv aH (E127 (cl ar a0) _ _))
def L131_0(call:CC)(fx:b7 AV)(a:RR)(b:List AV):M AV:=ae (ah (ao T .lss 3 (nth b 3) (nth b 2))) fun c=>az c (ae (ah (aj T 27 (nth b 0) (nth b 3))) fun d=>ae (ah (af T 9 d)) fun e=>ae (ah (ao T .eql 9 (nth b 1) e)) fun f=>az f (M.pure (nth b 3)) (ae (ah (ao T .add 3 (nth b 3) (.int .i64 1))) fun g=>a [nth b 0,nth b 1,nth b 2,g])) (M.pure (AV.int .i64 (-1)))
def XL131_0{call:CC}:cf (L131_0 call ak) fun _n=>L131_0 call ak  :=by
 intro a b c d;unfold L131_0;exact (lb fun _=>(aB (lb fun _=>(lb fun _=>(lb fun _=>(aB (aL.const _) (lb fun _=>c _))))) (aL.const _)))
def FL131_0(call:CC)(vs:List AV):ak (L131_0 call ak) vs=L131_0 call ak  (ak (L131_0 call ak)) vs:=bq (XL131_0) vs
def S131(call:CC)(fx:b7 AV)(a0 a1:AV):M AV:=ae (ah (aE T 27 a0)) fun a=>fx (L131_0 call fx) [a0,a1,a,.int .i64 0]
def E131(a0 a1:AV):EE 131 Tryz.f131 yb [a0,a1] (fun c x=>S131 c x a0 a1):=fun _ _=>by kernel_rfl
def C131(a0 a1:AV):ai pg 131 [a0,a1]=aH (S131 (ai pg) ak (cl ar a0) (cl ar a1)):=(aA aG rfl rfl rfl _).trans (Kv aH (E131 (cl ar a0) (cl ar a1) _ _))
def S135(call:CC)(fx:b7 AV)(a0 a1:AV):M AV:=ae (ah (af T 42 (.ip (aa a0)))) fun a=>ae (ah (af T 3 a1)) fun b=>ae (ah (ao T .sub 3 b (.int .i64 1))) fun c=>ae (call 90 [a,c]) fun d=>ae (ah (ka UnOp.not d)) fun e=>M.pure e
def E135(a0 a1:AV):EE 135 Tryz.f135 yf [a0,a1] (fun c x=>S135 c x a0 a1):=fun _ _=>by kernel_rfl
def C135(a0 a1:AV):ai pg 135 [a0,a1]=aH (S135 (ai pg) ak (cl ar a0) (cl ar a1)):=(aA aG rfl rfl rfl _).trans (Kv aH (E135 (cl ar a0) (cl ar a1) _ _))
def S136(call:CC)(fx:b7 AV)(a0:AV):M AV:=ae (ah (aE T 27 a0)) fun a=>ae (ah (aE T 27 a0)) fun b=>ae (ah (cC T 27 a0 none (some a) (some b))) fun c=>M.pure c
def E136(a0:AV):EE 136 Tryz.f136 yg [a0] (fun c x=>S136 c x a0):=fun _ _=>by kernel_rfl
def C136(a0:AV):ai pg 136 [a0]=aH (S136 (ai pg) ak (cl ar a0)):=(aA aG rfl rfl rfl _).trans (Kv aH (E136 (cl ar a0) _ _))
def S137(call:CC)(fx:b7 AV)(a0:AV):M AV:=ae (ah (aE T 37 a0)) fun a=>ae (ah (aE T 37 a0)) fun b=>ae (ah (cC T 37 a0 none (some a) (some b))) fun c=>M.pure c
def E137(a0:AV):EE 137 Tryz.f137 yh [a0] (fun c x=>S137 c x a0):=fun _ _=>by kernel_rfl
def C137(a0:AV):ai pg 137 [a0]=aH (S137 (ai pg) ak (cl ar a0)):=(aA aG rfl rfl rfl _).trans (Kv aH (E137 (cl ar a0) _ _))
def yq(l:List bA)(i k:Nat)(hk:k=i+1)(h:k<l.length):wD (l.drop i)=(dP (l[i]'(by omega)) l[k]&&wD (l.drop k)):=by
 subst hk;have e1:l.drop i=l[i]:: l.drop (i+1):=KE (by omega);have e2:l.drop (i+1)=l[i+1]:: l.drop (i+2):=KE h;rw[e1,e2];rfl
def Bf(call)(l:List bA)(hb:l.length<=4611686018427387904):∀(n:Nat)(i:Int),l.length-i.toNat=n->1<=i->ak (L134_0 call ak) [strs l,.int .i64 i]=M.pure (.bool (wD (l.drop (i.toNat-1)))):=by
 intro n
 induction n with
 | zero=>
  intro i hn hi;rw[FL134_0];simp only[L134_0];have h1:¬(i<(l.length:Int)):=by omega
  have h2:wD (l.drop (i.toNat-1))=true:=by
   have:(l.drop (i.toNat-1)).length<=1:=by simp;omega
   match hq:l.drop (i.toNat-1),this with
   |[],_=>rfl
   |[x],_=>rfl
   |x:: y:: r,h=>simp at h
  simp[h1,h2]
 |succ n ih=>
  intro i hn hi;have h1:i<(l.length:Int):=by omega
  rw[FL134_0];simp only[L134_0];simp (disch:=omega) [h1,bo,Ak];rw[ih (i+1) (by omega) (by omega),yq l (i.toNat-1) i.toNat (by omega) (by omega),show (i+1).toNat-1=i.toNat by omega];cases dP l[i.toNat-1] l[i.toNat]<;>simp
def t134(l:List bA)(hb:l.length<=4611686018427387904):ai pg 134 [strs l]=M.pure (.bool (wD l)):=by
 rw[C134];simp[S134,Bf (ai pg) l hb (l.length-1) 1 rfl (by omega)]
def EX(f:AV)(F:Val->Bool)(l:List Val)(hb:l.length<=4611686018427387904)(hf:∀x∈l,bO (ai pg) f [Val.av x]=M.pure (.bool (F x))):∀(n:Nat)(i:Int),l.length-i.toNat=n->0<=i->i<=l.length->
  ak (L89_0 (ai pg) ak) [vals l,f,.int .i64 l.length,.int .i64 i]=M.pure (.int .i64 (bI F (l.drop i.toNat) i)):=by
 intro n
 induction n with
 |zero=>
  intro i hn hi hl;rw[FL89_0];simp only[L89_0];have h1:¬(i<(l.length:Int)):=by omega
  have h2:l.drop i.toNat=[]:=Kx (by omega);simp[h1,h2,bI]
 |succ n ih=>
  intro i hn hi hl;have h1:i<(l.length:Int):=by omega
  have hlt:i.toNat<l.length:=by omega
  have h2:bI F (l.drop i.toNat) i=if F l[i.toNat]=true then i else bI F (l.drop (i.toNat+1)) (i+1):=by rw[KE hlt];rfl
  have h3:=hf l[i.toNat] (KB hlt);have h4:=ih (i+1) (by omega) (by omega) (by omega);rw[show (i+1).toNat=i.toNat+1 by omega]at h4;rw[FL89_0];simp only[L89_0];simp (disch:=omega) [h1,bo,mT,h3,h2];cases F l[i.toNat]
  ·simpa using h4
  ·simp
def t89(f:AV)(F:Val->Bool)(l:List Val)(hb:l.length<=4611686018427387904)(hc:∀g,cl g f=f)(hf:∀x∈l,bO (ai pg) f [Val.av x]=M.pure (.bool (F x))):ai pg 89 [vals l,f]=M.pure (.int .i64 (bI F l 0)):=by
 rw[C89];simp[S89,hc,EX f F l hb hf l.length 0 rfl (by omega) (by omega)]
def t39(f:AV)(F:Val->Bool)(l:List Val)(hb:l.length<=4611686018427387904)(hc:∀g,cl g f=f)(hf:∀x∈l,bO (ai pg) f [Val.av x]=M.pure (.bool (F x))):ai pg 39 [vals l,f]=M.pure (.bool (l.any F)):=by
 rw[C39];simp[S39,hc,t89 f F l hb hc hf,py]
def yJ{α:Type}[BEq α](a b:List α)(i:Nat)(h1:i<a.length)(h2:i<b.length):(a.drop i== b.drop i)=(a[i]== b[i]&&a.drop (i+1)== b.drop (i+1)):=by
 rw[KE h1,KE h2];rfl
def EM(a b:List bA)(hb:a.length<=4611686018427387904)(hab:a.length=b.length):∀(n:Nat)(i:Int),a.length-i.toNat=n->0<=i->i<=a.length->
  ak (L29_0 (ai pg) ak) [strs a,strs b,.int .i64 a.length,.int .i64 i]=M.pure (.bool (a.drop i.toNat== b.drop i.toNat)):=by
 intro n
 induction n with
 |zero=>
  intro i hn hi hl;rw[FL29_0];simp only[L29_0];have h1:¬(i<(a.length:Int)):=by omega
  have h2:a.drop i.toNat=[]:=Kx (by omega);have h3:b.drop i.toNat=[]:=Kx (by omega);simp[h1,h2,h3]
 | succ n ih=>
  intro i hn hi hl;have h1:i<(a.length:Int):=by omega
  have h1':i<(b.length:Int):=by omega
  have hlt:i.toNat<a.length:=by omega
  have h4:=ih (i+1) (by omega) (by omega) (by omega);rw[show (i+1).toNat=i.toNat+1 by omega]at h4;rw[FL29_0,yJ a b i.toNat hlt (by omega)];simp only[L29_0];simp (disch:=omega) [h1,bo,Ak,h4];by_cases h:a[i.toNat]=b[i.toNat]
  ·simp[h]
  ·have h':(a[i.toNat]== b[i.toNat])=false:=LD.2 h;simp[h,h']
def t29(a b:List bA)(hb:a.length<=4611686018427387904):ai pg 29 [strs a,strs b]=M.pure (.bool (a== b)):=by
 rw[C29];by_cases h:a.length=b.length
 ·have:=EM a b hb h a.length 0 rfl (by omega) (by omega)
  simp[S29,h]at this |-;simp[this]
 ·have h2:(a== b)=false:=by
   rw[LD];intro hh;exact h (by rw[hh])
  have h3:((a.length:Int) != (b.length:Int))=true:=by simp;omega
  simp[S29,h3,h2]
theorem t90:∀(d:Nat),d<=4->∀(v:Val),v.sz<=4611686018427387904->ai pg 90 [v.av,.int .i64 d]=M.pure (.bool (bn d v))
 |0,_,v,_=>by
  rw[C90];simp[S90,bn]
 | d+1,hd,v,hv=>by
  have ih:=t90 d (by omega);have h1:=t134 v.names (Lg v.sz_names hv);have hf:∀x∈v.values,bO (ai pg) (.fn (.func 135) [] [.ip [.int .i64 ((d:Int)+1)]]) [x.av]=M.pure (.bool !(bn d x)):=by
   intro x hx;have hsz:=J3 hx
   have:=ih x (by omega)
   show ai pg 135 [x.av,.ip [.int .i64 ((d:Int)+1)]]=_;rw[C135];simp (disch:=omega) [S135,cl,de,bo,this,show (d:Int)+1-1=d by omega]
  have h2:=t39 (.fn (.func 135) [] [.ip [.int .i64 ((d:Int)+1)]]) (fun x=>!(bn d x)) v.values (by have:=v.sz_len;omega) (fun g=>rfl) hf;have h0:¬((d:Int)+1=0):=by omega
  rw[C90];simp[S90,bn,h0,h1,h2];have hall:(!v.values.any fun x=>!bn d x)=v.values.all (bn d):=by simp[List.not_any_eq_all_not]
  rw[hall];split
  ·rfl
  ·congr 2;rw[show (v.kind== 2)=decide (v.kind=2)from rfl,show (v.n== 0)=decide (v.n=0)from rfl,show (v.names.length== v.values.length)=decide (v.names.length=v.values.length) by rw[LV];simp,
    show (!decide ((8:Int)<(v.names.length:Int)))=decide (v.names.length<=8) by rw[LV];simp;omega]
def ES(f:AV)(F:Val->Val->Bool)(a:List Val)(b:List Val)(hb:a.length<=4611686018427387904)(hab:a.length=b.length)(hf:∀x∈a,∀y∈b,bO (ai pg) f [Val.av x,Val.av y]=M.pure (.bool (F x y))):∀(n:Nat)(i:Int),a.length-i.toNat=n->0<=i->i<=a.length->
  ak (L48_0 (ai pg) ak) [vals b,f,vals a,.int .i64 a.length,.int .i64 i]=M.pure (.bool (c8 F (a.drop i.toNat) (b.drop i.toNat))):=by
 intro n
 induction n with
 |zero=>
  intro i hn hi hl;rw[FL48_0];simp only[L48_0];have h1:¬(i<(a.length:Int)):=by omega
  have h2:a.drop i.toNat=[]:=Kx (by omega);have h3:b.drop i.toNat=[]:=Kx (by omega);simp[h1,h2,h3,c8]
 |succ n ih=>
  intro i hn hi hl;have h1:i<(a.length:Int):=by omega
  have h1':i<(b.length:Int):=by omega
  have hlt:i.toNat<a.length:=by omega
  have hlt':i.toNat<b.length:=by omega
  have h3:=hf a[i.toNat] (KB hlt) b[i.toNat] (KB hlt');have h4:=ih (i+1) (by omega) (by omega) (by omega);rw[show (i+1).toNat=i.toNat+1 by omega]at h4;rw[FL48_0,gH F a b i.toNat hlt hlt'];simp only[L48_0];simp (disch:=omega) [h1,bo,mT,mT,h4];rw[h3];cases F a[i.toNat] b[i.toNat]<;>simp
def t48(f:AV)(F:Val->Val->Bool)(a:List Val)(b:List Val)(hb:a.length<=4611686018427387904)(hc:∀g,cl g f=f)(hf:∀x∈a,∀y∈b,bO (ai pg) f [Val.av x,Val.av y]=M.pure (.bool (F x y))):ai pg 48 [vals a,vals b,f]=M.pure (.bool (c8 F a b)):=by
 rw[C48];by_cases h:a.length=b.length
 ·have:=ES f F a b hb h hf a.length 0 rfl (by omega) (by omega)
  simp[S48,h,hc]at this |-;simp[this]
 ·have h3:(a.length != b.length)=true:=by simp[h]
  simp[S48,h3,dF F a b h]
mutual
def ff:Val->Val->Bool
 |.mk k n ns vs,.mk k' n' ns' vs'=>k== k'&&n== n'&&ns== ns'&&lK vs vs'
def lK:List Val->List Val->Bool
 |[],[]=>true
 |v:: vs,w:: ws=>ff v w&&lK vs ws
 |_,_=>false
end
theorem mq:(a b:List Val)->lK a b=c8 ff a b
 |[],[]=>rfl
 |[],_:: _=>rfl
 |_:: _,[]=>rfl
 |v:: a,w:: b=>by simp only[lK,c8,mq a b]
def tc(v w:Val):ff v w=(v.kind== w.kind&&v.n== w.n&&v.names== w.names&&c8 ff v.values w.values):=by
 cases v;cases w;simp only[ff,mq,Val.kind,Val.n,Val.names,Val.values]
def t41(v:Val)(hv:v.sz<=4611686018427387904):ai pg 41 [v.av]=M.pure (.bool (bn 4 v)):=by
 rw[C41]
 have:=t90 4 (by omega) v hv
 simp at this;simp[S41,this]
def EV(f:AV)(F:Mod->Bool)(l:List Mod)(hb:l.length<=4611686018427387904)(hf:∀x∈l,bO (ai pg) f [Mod.av x]=M.pure (.bool (F x))):∀(n:Nat)(i:Int),l.length-i.toNat=n->0<=i->i<=l.length->
  ak (L85_0 (ai pg) ak) [mods l,f,.int .i64 l.length,.int .i64 i]=M.pure (.int .i64 (bI F (l.drop i.toNat) i)):=by
 intro n
 induction n with
 |zero=>
  intro i hn hi hl;rw[FL85_0];simp only[L85_0];have h1:¬(i<(l.length:Int)):=by omega
  have h2:l.drop i.toNat=[]:=Kx (by omega);simp[h1,h2,bI]
 |succ n ih=>
  intro i hn hi hl;have h1:i<(l.length:Int):=by omega
  have hlt:i.toNat<l.length:=by omega
  have h2:bI F (l.drop i.toNat) i=if F l[i.toNat]=true then i else bI F (l.drop (i.toNat+1)) (i+1):=by rw[KE hlt];rfl
  have h3:=hf l[i.toNat] (KB hlt);have h4:=ih (i+1) (by omega) (by omega) (by omega);rw[show (i+1).toNat=i.toNat+1 by omega]at h4;rw[FL85_0];simp only[L85_0];simp (disch:=omega) [h1,bo,rj,h3,h2];cases F l[i.toNat]
  ·simpa using h4
  ·simp
def t85(f:AV)(F:Mod->Bool)(l:List Mod)(hb:l.length<=4611686018427387904)(hc:∀g,cl g f=f)(hf:∀x∈l,bO (ai pg) f [Mod.av x]=M.pure (.bool (F x))):ai pg 85 [mods l,f]=M.pure (.int .i64 (bI F l 0)):=by
 rw[C85];simp[S85,hc,EV f F l hb hf l.length 0 rfl (by omega) (by omega)]
def t77(f:AV)(F:Mod->Bool)(l:List Mod)(hb:l.length<=4611686018427387904)(hc:∀g,cl g f=f)(hf:∀x∈l,bO (ai pg) f [Mod.av x]=M.pure (.bool (F x))):ai pg 77 [mods l,f]=M.pure (.bool (l.any F)):=by
 rw[C77];simp[S77,hc,t85 f F l hb hc hf,py]
def EW(f:AV)(F:Fun->Bool)(l:List Fun)(hb:l.length<=4611686018427387904)(hf:∀x∈l,bO (ai pg) f [Fun.av x]=M.pure (.bool (F x))):∀(n:Nat)(i:Int),l.length-i.toNat=n->0<=i->i<=l.length->
  ak (L87_0 (ai pg) ak) [kD l,f,.int .i64 l.length,.int .i64 i]=M.pure (.int .i64 (bI F (l.drop i.toNat) i)):=by
 intro n
 induction n with
 |zero=>
  intro i hn hi hl;rw[FL87_0];simp only[L87_0];have h1:¬(i<(l.length:Int)):=by omega
  have h2:l.drop i.toNat=[]:=Kx (by omega);simp[h1,h2,bI]
 |succ n ih=>
  intro i hn hi hl;have h1:i<(l.length:Int):=by omega
  have hlt:i.toNat<l.length:=by omega
  have h2:bI F (l.drop i.toNat) i=if F l[i.toNat]=true then i else bI F (l.drop (i.toNat+1)) (i+1):=by rw[KE hlt];rfl
  have h3:=hf l[i.toNat] (KB hlt);have h4:=ih (i+1) (by omega) (by omega) (by omega);rw[show (i+1).toNat=i.toNat+1 by omega]at h4;rw[FL87_0];simp only[L87_0];simp (disch:=omega) [h1,bo,xP,h3,h2];cases F l[i.toNat]
  ·simpa using h4
  ·simp
def t87(f:AV)(F:Fun->Bool)(l:List Fun)(hb:l.length<=4611686018427387904)(hc:∀g,cl g f=f)(hf:∀x∈l,bO (ai pg) f [Fun.av x]=M.pure (.bool (F x))):ai pg 87 [kD l,f]=M.pure (.int .i64 (bI F l 0)):=by
 rw[C87];simp[S87,hc,EW f F l hb hf l.length 0 rfl (by omega) (by omega)]
def Bg(f:AV)(F:hP->Bool)(l:List hP)(hb:l.length<=4611686018427387904)(hf:∀x∈l,bO (ai pg) f [dz x]=M.pure (.bool (F x))):∀(n:Nat)(i:Int),l.length-i.toNat=n->0<=i->i<=l.length->
  ak (L162_0 (ai pg) ak) [cF l,f,.int .i64 l.length,.int .i64 i]=M.pure (.int .i64 (bI F (l.drop i.toNat) i)):=by
 intro n
 induction n with
 |zero=>
  intro i hn hi hl;rw[FL162_0];simp only[L162_0];have h1:¬(i<(l.length:Int)):=by omega
  have h2:l.drop i.toNat=[]:=Kx (by omega);simp[h1,h2,bI]
 |succ n ih=>
  intro i hn hi hl;have h1:i<(l.length:Int):=by omega
  have hlt:i.toNat<l.length:=by omega
  have h2:bI F (l.drop i.toNat) i=if F l[i.toNat]=true then i else bI F (l.drop (i.toNat+1)) (i+1):=by rw[KE hlt];rfl
  have h3:=hf l[i.toNat] (KB hlt);have h4:=ih (i+1) (by omega) (by omega) (by omega);rw[show (i+1).toNat=i.toNat+1 by omega]at h4;rw[FL162_0];simp only[L162_0];simp (disch:=omega) [h1,bo,Al,h3,h2];cases F l[i.toNat]
  ·simpa using h4
  ·simp
def t162(f:AV)(F:hP->Bool)(l:List hP)(hb:l.length<=4611686018427387904)(hc:∀g,cl g f=f)(hf:∀x∈l,bO (ai pg) f [dz x]=M.pure (.bool (F x))):ai pg 162 [cF l,f]=M.pure (.int .i64 (bI F l 0)):=by
 rw[C162];simp[S162,hc,Bg f F l hb hf l.length 0 rfl (by omega) (by omega)]
def t86(m:Mod)(s:bA):ai pg 86 [m.av,.ip [.str s]]=M.pure (.bool (m.name== s)):=by
 rw[C86];simp[S86,cl,de]
def t88(f:Fun)(s:bA):ai pg 88 [f.av,.ip [.str s]]=M.pure (.bool (f.name== s)):=by
 rw[C88];simp[S88,cl,de]
def t78(m w:Mod):ai pg 78 [m.av,.ip (aa w.av)]=M.pure (.bool (m.name== w.name)):=by
 rw[C78];simp[S78,cl,de]
def JK(p:List Mod)(hp:p.length<=4611686018427387904)(s:bA):ai pg 85 [mods p,.fn (.func 86) [] [.ip [.str s]]]=M.pure (.int .i64 (fA p s)):=
 t85 _ _ p hp (fun g=>rfl) (fun m _=>t86 m s)
def JL(p:List Fun)(hp:p.length<=4611686018427387904)(s:bA):ai pg 87 [kD p,.fn (.func 88) [] [.ip [.str s]]]=M.pure (.int .i64 (jG p s)):=
 t87 _ _ p hp (fun g=>rfl) (fun m _=>t88 m s)
def t126(n:Int):ai pg 126 [.int .i64 n]=M.pure (Val.mk 0 n [] []).av:=by
 rw[C126];rfl
def t127(b:Bool):ai pg 127 [.bool b]=M.pure (eQ b).av:=by
 rw[C127];cases b<;>rfl
def t92(b:Bool)(n:Int):ai pg 92 [.bool b,.int .i64 n]=if b=true then M.pure (.tup [])else fp (.iface 40 (.int .i64 n)):=by
 rw[C92];cases b<;>rfl
def Es(l:List bA):cC T 27 (strs l) none (some (.int .i64 l.length)) (some (.int .i64 l.length))=some (strs l):=by
 have:=my (T:=T) (t:=27) (e:=9) rfl rfl rfl (l.map AV.str)
 simpa [strs]using this
def Er(l:List Val):cC T 37 (vals l) none (some (.int .i64 l.length)) (some (.int .i64 l.length))=some (vals l):=by
 have:=my (T:=T) (t:=37) (e:=42) rfl rfl rfl (dn l)
 simpa [vals,cU]using this
def t136(l:List bA):ai pg 136 [strs l]=M.pure (strs l):=by
 rw[C136];simp[S136,Es,bm (a:=strs l) fun g=>ki g l]
def t137(l:List Val):ai pg 137 [vals l]=M.pure (vals l):=by
 rw[C137];simp[S137,Er]
def bb(o:Int)(ns:List bA)(vs:List Val):AV:=.agg [.int .i64 o,strs ns,vals vs]
@[simp] theorem dc(o:Int)(ns:List bA)(vs:List Val):aa (bb o ns vs)=[.int .i64 o,strs ns,vals vs]:=rfl
theorem bl(o:Int)(ns:List bA)(vs:List Val):AV.agg [.int .i64 o,strs ns,vals vs]=bb o ns vs:=rfl
def rJ(g)(o:Int)(ns:List bA)(vs:List Val):cl g (bb o ns vs)=bb o ns vs:=by
 simp[bb,cl,de,ki,ie]
def j0(o:Int)(ns:List bA)(vs:List Val):bv 3 (bb o ns vs)=true:=by simp[bv,aI,strs,vals,bb,bT,aa]
def uu(o:Int)(ns:List bA)(vs:List Val):aH (M.pure (bb o ns vs))=M.pure (bb o ns vs):=bm fun g=>rJ g o ns vs
set_option maxHeartbeats 1000000 in
def t125(n:Int):ai pg 125 [.int .i64 n]=M.pure (.int .i64 (bg n)):=by
 rw[C125];unfold bg;simp only[S125,K125_0,K125_1,K125_2,K125_3,cl,lz,ej,am,ax,aJ,bj,Lj];by_cases h0:n=0
 ·simp[h0]
 by_cases h1:n=1
 ·simp[h1]
 by_cases h2:n=2
 ·simp[h2]
 by_cases h17:n=17
 ·simp[h17]
 by_cases h10:n=10
 ·simp[h10]
 by_cases h14:n=14
 ·simp[h14]
 by_cases h16:n=16
 ·simp[h16]
 by_cases h18:n=18
 ·simp[h18]
 by_cases h3:n=3
 ·simp[h3]
 by_cases h4:n=4
 ·simp[h4]
 by_cases h5:n=5
 ·simp[h5]
 by_cases h6:n=6
 ·simp[h6]
 by_cases h7:n=7
 ·simp[h7]
 by_cases h8:n=8
 ·simp[h8]
 by_cases h9:n=9
 ·simp[h9]
 by_cases h12:n=12
 ·simp[h12]
 by_cases h11:n=11
 ·simp[h11]
 by_cases h13:n=13
 ·simp[h13]
 by_cases h15:n=15
 ·simp[h15]
 simp[h0,h1,h2,h17,h10,h14,h16,h18,h3,h4,h5,h6,h7,h8,h9,h12,h11,h13,h15]
theorem t93(o:Int)(ns:List bA)(vs:List Val)(s:bA)(v:Val)(h1:ns.length<=1099511627776)(h2:vs.length<=1099511627776):
  ai pg 93 [bb o ns vs,.str s,v.av]=M.pure (bb o (ns++[s]) (vs++[v])):=by
 have hb1:aD T 27 1 [(0,.str s)]=some (strs [s]):=rfl;have hb2:aD T 37 1 [(0,v.av)]=some (vals [v]):=by rw[v.av_eq];simp[vals,dn,v.av_eq];rfl
 have ha1:cu T 27 (strs ns) (strs [s])=some (strs (ns++[s])):=FX (by simp;omega);have ha2:cu T 37 (vals vs) (vals [v])=some (vals (vs++[v])):=Ai (by simp;omega);have hb3:bi T false 166 [(0,.int .i64 o),(1,strs (ns++[s])),(2,vals (vs++[v]))]=some (bb o (ns++[s]) (vs++[v])):=rfl;rw[C93,rJ];simp[S93,cl,t136,t137,hb1,hb2,ha1,ha2,hb3,bl,j0,uu]
def km(e:Int):AV:=.iface 40 (.int .i64 e)
def bS(b:Bool)(e:Int)(x:M AV):M AV:=if b=true then x else fp (km e)
def aP(b:Bool)(e:Int)(f:AV->M AV):ae (ai pg 92 [.bool b,.int .i64 e]) f=bS b e (f (.tup [])):=by
 rw[t92];unfold bS;cases b<;>rfl
def fB:X Val->M AV:=fun x=>match x ⟨0,0,[],[],[],[]⟩with
 |.ok v _=>M.pure v.av
 |.er e _=>fp (km e)
def t128(op:Int)(a b:Val)(h:op=3\/op=4\/op=5\/op=6\/op=7):ai pg 128 [.int .i64 op,a.av,b.av]=fB (iN op a b):=by
 rw[C128];unfold iN;have hn:=t126;have ht:=t127;simp only[S128,ej,am,ax,cR];by_cases h7:op=7
 ·by_cases hk:a.kind=b.kind
  ·by_cases h2:a.kind=2
   ·have h2':b.kind=2:=by omega
    simp[h7,hk,h2',aP,bS,fB,X.er]
   ·have h2':¬b.kind=2:=by omega
    simp[h7,hk,h2',aP,bS,fB,X.ok,ht]
  ·simp[h7,hk,aP,bS,fB,X.er]
 ·by_cases ha:a.kind=0
  ·by_cases hb:b.kind=0
   ·simp only[h7,ha,hb,Lb,Mc,Kt,Ks,Lj,FA42_0,FA42_1,KV,LD3,am,ej,cj,ay,lJ,aJ,aP,bS,Lz,KP,ax,dx,vp,Ay,bY,hn,ht];by_cases h3:op=3
    ·simp[h3,fB,X.ok,jY,wr];rfl
    by_cases h4:op=4
    ·simp[h4,fB,X.ok,jY,wr];rfl
    by_cases h5:op=5
    ·simp[h5,fB,X.ok,jY,wr];rfl
    simp[h3,h4,h5,fB,X.ok]
   ·simp[h7,ha,hb,aP,bS,fB,X.er]
  ·simp[h7,ha,aP,bS,fB,X.er]
def t131(l:List bA)(s:bA)(hb:l.length<=1099511627776):ai pg 131 [strs l,.str s]=M.pure (.int .i64 (bI (fun x=>s== x) l 0)):=by
 have hl:∀(n:Nat)(i:Int),l.length-i.toNat=n->0<=i->i<=l.length->ak (L131_0 (ai pg) ak) [strs l,.str s,.int .i64 l.length,.int .i64 i]=M.pure (.int .i64 (bI (fun x=>s== x) (l.drop i.toNat) i)):=by
  intro n
  induction n with
  |zero=>
   intro i hn hi hl;rw[FL131_0];simp only[L131_0];have h1:¬(i<(l.length:Int)):=by omega
   have h2:l.drop i.toNat=[]:=Kx (by omega);simp[h1,h2,bI]
  | succ n ih=>
   intro i hn hi hl;have h1:i<(l.length:Int):=by omega
   have hlt:i.toNat<l.length:=by omega
   have h2:bI (fun x=>s== x) (l.drop i.toNat) i=if(s== l[i.toNat])=true then i else bI (fun x=>s== x) (l.drop (i.toNat+1)) (i+1):=by rw[KE hlt];rfl
   have h4:=ih (i+1) (by omega) (by omega) (by omega);rw[show (i+1).toNat=i.toNat+1 by omega]at h4;rw[FL131_0];simp only[L131_0];simp (disch:=omega) [h1,bo,Ak,h2];by_cases h:s=l[i.toNat]
   ·simp[h]
   ·simp[h];simpa using h4
 rw[C131];simp[S131,cl,hl l.length 0 rfl (by omega) (by omega)]
def t164:∀(n:Nat)(v:Val),v.sz<=n->v.sz<=1099511627776->ai pg 164 [v.av]=M.pure (.int .i64 (dT v:Nat)):=by
 intro n
 induction n with
 |zero=>intro v h;have:=v.sz_pos;omega
 | succ n ih=>
  intro v hn hv;have hlen:=v.sz_len;have hlv:∀(l:List Val),aY l<=1099511627776->dA l<=1099511627776:=by
   intro l
   induction l with
   |nil=>intro _;simp[dA]
   | cons x l ih2=>
    intro h;simp only[aY]at h
    have:=ih2 (by omega)
    have hx:∀(k:Nat)(y:Val),y.sz<=k->dT y<=y.sz:=by
     intro k
     induction k with
     |zero=>intro y hy;have:=y.sz_pos;omega
     |succ k ihk=>
      intro y hy;rw[gR];have h1:=y.sz_values;have h2:dA y.values<=aY y.values:=(gd _ _).2 fun z hz=>Lg (ihk z (by have:=J3 hz;omega)) (eS hz);omega
    simp only[dA]
    have:=hx _ x (Kk _)
    omega
  have hl:∀(B A:List Val)(c:Nat),A++B=v.values->c<=1099511627776->ak (L164_0 (ai pg) ak) [.int .i64 (c:Nat),vals v.values,.int .i64 v.values.length,.int .i64 A.length]=M.pure (.int .i64 ((max c (dA B)+1:Nat))):=by
   intro B
   induction B with
   |nil=>
    intro A c e hc;simp only[Lk]at e;subst e;rw[FL164_0];simp (disch:=omega) [L164_0,dA,bo]
   | cons x B ih2=>
    intro A c e hc;have hll:A.length+(B.length+1)=v.values.length:=by rw[<- e];simp
    have h1:(A.length:Int)<(v.values.length:Int):=by omega
    have hx:v.values[A.length]! = x:=by
     rw[<- e,KM _ _ (by simp)];simp
    have hm:x∈v.values:=by rw[<- e];simp
    have hx':v.values[A.length]'(by omega)=x:=by rw[<- hx,KM]
    have h3:=ih x (by have:=J3 hm;omega) (by have:=J3 hm;omega);have hxb:dT x<=1099511627776:=Lg ((gd v.values _).1 (hlv v.values (by have:=v.sz_values;omega)) x hm) (Kk _);have h4:=ih2 (A++[x]) (max c (dT x)) (by rw[<- e];simp) (by omega);rw[FL164_0];have hmx:(max (c:Int) (dT x:Int))=((max c (dT x):Nat):Int):=by omega
    simp (disch:=omega) [L164_0,h1,bo,mT,hx',h3,hmx]at h4 |-;rw[h4];simp only[dA]
  rw[C164]
  have:=hl v.values [] 0 rfl (by omega)
  simp at this;simp[S164,this,gR]
def t165(f:hP)(e:Exp):ai pg 165 [dz f,.ip (aa e.av)]=M.pure (.bool (f.1== e.s)):=by
 rw[C165];simp[S165,cl,de]
def H5(l:List hP)(hl:l.length<=1099511627776)(e:Exp):ai pg 162 [cF l,.fn (.func 165) [] [.ip (aa e.av)]]=M.pure (.int .i64 (gO l e.s)):=
 t162 _ _ l (by omega) (fun g=>by simp[cl,de]) (fun f _=>t165 f e)
def qL(t:Bool)(p:List Mod):AV:=if t=true then(match p with|[]=>.hn|_=>mods p)else mods p
def mP{t:Bool}{p:List Mod}(h:p≠[]):qL t p=mods p:=by
 cases t with
 |false=>rfl
 |true=>cases p with
  |nil=>exact absurd rfl h
  |cons _ _=>rfl
def oK(t:Bool)(w:List Int):AV:=if t=true then .hn else ints w
def rowP(p:List Mod)(t:Bool)(m:Ms)(dv cv sv:AV):List AV:=[qL t p,oK t m.world,.int .i64 m.fuel,.int .i64 m.frames,.int .i64 0,.int .i64 0,.int .i64 0,.hn,.hn,dv,cv,sv]
abbrev dq(p:List Mod)(nm:SNm):=JY (rowP p nm.told) nm
structure LimP (p:List Mod):Prop where
 len:p.length<=1099511627776
 funcs:∀m∈p,m.funcs.length<=1099511627776/\m.vars.length<=1099511627776
def LimP.funcsAt{p:List Mod}(L:LimP p)(i:Nat):(p[i]?.getD default).funcs.length<=1099511627776/\(p[i]?.getD default).vars.length<=1099511627776:=by
 cases h:p[i]? with
 |none=>exact⟨LF _,LF _⟩
 |some m=>exact L.funcs m (K8 h)
theorem iV{α:Type}(F:α->Bool):(l:List α)->(i:Int)->bI F l i= -1\/(i<=bI F l i/\bI F l i<i+l.length)
 |[],i=>.inl rfl
 | x:: l,i=>by
  simp only[bI];split
  ·exact .inr ⟨LX _,by simp;omega⟩
  ·rcases iV F l (i+1)with h|h
   ·exact .inl h
   ·exact .inr ⟨by omega,by simp;omega⟩
def t37{p:List Mod}{nm:SNm}{m:Ms}{h:Hp}(R:dq p nm m h)(L:LimP p)(s:bA):ai pg 37 [.hp 0 0,.str s] h= .ok (.int .i64 (fA p s)) h:=by
 obtain⟨tag,dv,cv,sv,R⟩:=R;have h0:a7 T 22 (.hp 0 (0+0)) h= .ok (qL nm.told p) h:=cp rfl rfl R.r0 rfl;have hpv:∀f:AV,ai pg 85 [qL nm.told p,f]=ai pg 85 [mods p,f]:=fun f=>by
  by_cases hp:p=[]
  ·subst hp;cases nm.told with
   |false=>rfl
   |true=>rw[C85,C85];rfl
  ·rw[mP hp]
 rw[C37];simp only[S37,cS,am,FH98_0];rw[bp h0,hpv]
 have:=JK p (by have:=L.len;omega) s
 simp only[m5,this,ay];rfl
def nD:Option Fun->AV
 |some f=>.tup [f.av,.bool true]
 |none=>.tup [Fun.av default,.bool false]
theorem t38{p:List Mod}{nm:SNm}{m:Ms}{h:Hp}(R:dq p nm m h)(L:LimP p)(a:Int)(ha:a<p.length)(s:bA):ai pg 38 [.hp 0 0,.int .i64 a,.str s] h= .ok (nD (jH p a s)) h:=by
 obtain⟨tag,dv,cv,sv,R⟩:=R;have h0:p≠[]->a7 T 22 (.hp 0 (0+0)) h= .ok (mods p) h:=fun hp=>cp rfl rfl R.r0 (by rw[<- mP (t:=nm.told) hp];rfl);have hz:bi T false 61 []=some (Fun.av default):=rfl;have hzz:∀f:Fun,AV.agg [nth (aa f.av) 0,nth (aa f.av) 1,nth (aa f.av) 2,nth (aa f.av) 3,nth (aa f.av) 4,nth (aa f.av) 5,nth (aa f.av) 6,nth (aa f.av) 7,nth (aa f.av) 8,nth (aa f.av) 9,nth (aa f.av) 10,nth (aa f.av) 11]=f.av:=fun f=>by simp
 have hcf:∀f:Fun,au 12 [] f.av=M.pure (.agg (aa f.av)):=fun f=>bd (i5 f);have hac:∀f:Fun,aa (.agg (aa f.av))=aa f.av:=fun _=>rfl;rw[C38];unfold jH;simp only[S38,bY,am,ax];by_cases h1:a<0
 ·simp only[h1,Ll,Kt,hz,am,hcf,ay,hac,hzz];rfl
 ·simp only[h1,LG,Ki,Ks,cS,am,FH98_0];rw[bp (h0 (fun e=>by subst e;simp at ha;omega))];have hi:=rj (l:=p) (n:=a) (by omega) ha;have hlt:a.toNat<p.length:=by omega
  have e1:p[a.toNat]! = p[a.toNat]?.getD default:=by rw[KM p a.toNat hlt,Kl hlt];rfl
  have hlen:=(L.funcsAt a.toNat).1;have hx:=JL (p[a.toNat]?.getD default).funcs (by omega) s;generalize hm:p[a.toNat]?.getD default=md at hx hlen e1;rw[hi,e1];simp only[am,eE,FA34_4,KP,KV,LD30,m5,hx,ay,bY,ax];by_cases h2:jG md.funcs s<0
  ·simp only[h2,Ll,Kt,hz,am,hcf,ay,hac,hzz];rfl
  ·simp only[h2,LG,Ki,Ks];rcases iV (fun f=>f.name== s) md.funcs 0 with h3|h3
   ·exact absurd (show jG md.funcs s<0 by unfold jG;rw[h3];decide) h2
   ·have h4:jG md.funcs s<(md.funcs.length:Int):=by unfold jG;omega
    have h5:(jG md.funcs s).toNat<md.funcs.length:=by omega
    rw[xP (by omega) h4,KM md.funcs _ h5,Kl h5];have hld:af T 61 (.ip (aa (md.funcs[(jG md.funcs s).toNat]).av))=some (md.funcs[(jG md.funcs s).toNat]).av:=by simp
    simp only[am,hld,hcf,ay,hac,hzz];rfl
def fE{α:Type}(p:List Mod)(nm:SNm)(enc:α->AV)(r:Rs α)(c:R AV):Prop:=match r with
 |.ok v s=>∃h',c= .ok (enc v) h'/\dq p nm s h'
 |.er e s=>∃h',c= .pan (km e) h'/\dq p nm s h'
def bD{α β:Type}{p:List Mod}{nm:SNm}{enc:α->AV}{enc':β->AV}{x:X α}{f:α->X β}{c:M AV}{d:AV->M AV}{m:Ms}{h:Hp}(H:fE p nm enc (x m) (c h))(K:∀a s h',x m= .ok a s->dq p nm s h'->fE p nm enc' (f a s) (d (enc a) h')):fE p nm enc' (x.bind f m) (ae c d h):=by
 unfold X.bind;cases hr:x m with
 |ok a s=>
  rw[hr]at H;obtain⟨h',h1,h2⟩:=H;rw[bp h1];exact K a s h' hr h2
 |er e s=>
  rw[hr]at H;obtain⟨h',h1,h2⟩:=H;exact⟨h',vq h1,h2⟩
def cQ{α:Type}{p:List Mod}{nm:SNm}{enc:α->AV}{a:α}{m:Ms}{h:Hp}(R:dq p nm m h):fE p nm enc (X.ok a m) (M.pure (enc a) h):=⟨h,rfl,R⟩
def dJ{α:Type}{p:List Mod}{nm:SNm}{enc:α->AV}{e:Int}{m:Ms}{h:Hp}(R:dq p nm m h):fE p nm enc (X.er e m) (fp (km e) h):=⟨h,rfl,R⟩
def CV(v:Val):ae (au 4 [] v.av) (fun w=>M.pure (AV.agg [nth (aa w) 0,nth (aa w) 1,nth (aa w) 2,nth (aa w) 3]))=M.pure v.av:=by simp
def fD(m:Ms):Ms:={ m with fuel:=m.fuel-1 }
def zD{p:List Mod}{nm:SNm}{tag:Nat->Nat}{dv cv sv:AV}{m:Ms}{h:Hp}(R:RepT (rowP p nm.told) nm tag dv cv sv m h):RepT (rowP p nm.told) nm tag dv cv sv (fD m) (h.set 0 (rowP p nm.told (fD m) dv cv sv)):=R.set0 rfl rfl rfl id
def step0{p:List Mod}{nm:SNm}{m:Ms}{h:Hp}(R:dq p nm m h):∃h1,dq p nm (fD m) h1/\
  (∀f:AV->M AV,ae (a7 T 3 (.hp 0 2)) f h=f (.int .i64 m.fuel) h)/\(∀f:AV->M AV,ae (bH T 3 (.hp 0 2) (.int .i64 (m.fuel-1))) f h=f (.tup []) h1):=by
 obtain⟨tag,dv,cv,sv,R⟩:=R;refine⟨_,⟨tag,dv,cv,sv,zD R⟩,fun f=>bp (cp rfl rfl R.r0 rfl),fun f=>bp (dO rfl R.r0 rfl (show 2+1<=12 by decide) (by decide))⟩
def yO{p:List Mod}{nm:SNm}{m:Ms}{h:Hp}(R:dq p nm m h)(hf:¬0<m.fuel)(sc:AV)(e:Exp):ai pg 81 [.hp 0 0,sc,e.av] h= .pan (km 16) h:=by
 obtain⟨tag,dv,cv,sv,R⟩:=R;have h0:∀f:AV->M AV,ae (a7 T 3 (.hp 0 2)) f h=f (.int .i64 m.fuel) h:=fun f=>bp (cp rfl rfl R.r0 rfl);rw[C81];simp[S81,h0,hf,aP,bS,fp]
def lP(e:Exp):Prop:=¬bg e.op= -2/\(bg e.op= -1\/bg e.op=e.args.length)
def Ey{p:List Mod}{nm:SNm}{m:Ms}{h:Hp}(R:dq p nm m h)(G:GoodM p m)(hf:0<m.fuel)(sc:AV)(e:Exp)(hc:¬lP e):∃h1,dq p nm (fD m) h1/\ai pg 81 [.hp 0 0,sc,e.av] h= .pan (km 13) h1:=by
 obtain⟨h1,R1,hl,hs⟩:=step0 R;refine⟨h1,R1,?_⟩;have hw:IntKind.i64.wrap (m.fuel-1)=m.fuel-1:=bo (by omega) (by have:=G.bud;simp only[mu]at this;omega);unfold lP at hc;rw[C81];simp[S81,hl,hs,hf,aP,bS,hw,t125,hc];rfl
mutual
def aN:Exp->Prop
 |.mk _ _ _ _ ns es=>ns.length<=8796093022208/\es.length<=274877906944/\kq es
def kq:List Exp->Prop
 |[]=>True
 |e:: es=>aN e/\kq es
end
theorem l8:{l:List Exp} ->kq l->∀e∈l,aN e
 |[],_,_,h=>by cases h
 |x:: l,H,e,h=>by
  simp only[kq]at H;rcases KI.1 h with rfl|h
  ·exact H.1
  ·exact l8 H.2 e h
def aZ{e x:Exp}(H:aN e)(h:x∈e.args):aN x:=by
 obtain⟨o,n,s,m,ns,es⟩:=e;simp only[aN]at H;exact l8 H.2.2 x h
def ij{e:Exp}(H:aN e):e.names.length<=8796093022208/\e.args.length<=274877906944:=by
 obtain⟨o,n,s,m,ns,es⟩:=e;simp only[aN]at H;exact⟨H.1,H.2.1⟩
structure LimB (p:List Mod):Prop where
 lim:LimP p
 body:∀m∈p,∀f∈m.funcs,aN f.body/\f.params.length<=274877906944
structure Sc (p:List Mod) (own:Int) (ns:List bA) (vs:List Val) (m:Ms):Prop where
 own:own<p.length
 right:iI ns vs
 len:(ns.length:Int)+m.fuel<=549755813888
def mC(p:List Mod)(nm:SNm)(n:Nat):Prop:=∀own ns vs e m h,dq p nm m h->GoodM p m->m.fuel<=n->Sc p own ns vs m->aN e->fE p nm Val.av (bh p n own ns vs e m) (ai pg 81 [.hp 0 0,bb own ns vs,e.av] h)
def CX(p:List Mod)(nm:SNm)(n:Nat):Prop:=∀own ns vs e m h,dq p nm m h->GoodM p m->m.fuel<=n->Sc p own ns vs m->aN e->fE p nm AV.bool (boolX (bh p n own ns vs e) m) (ai pg 129 [.hp 0 0,bb own ns vs,e.av] h)
def BQ(p:List Mod)(nm:SNm)(n:Nat):Prop:=∀own ns vs e m h,dq p nm m h->GoodM p m->m.fuel<=n->Sc p own ns vs m->aN e->fE p nm Val.av (fK (bh p n own ns vs) e m) (ai pg 130 [.hp 0 0,bb own ns vs,e.av] h)
def xN(p:List Mod)(nm:SNm)(n:Nat):Prop:=∀own ns vs e m h,dq p nm m h->GoodM p m->mu m<1000000->m.fuel<=n->Sc p own ns vs m->aN e->fE p nm Val.av (kh p (bh p n) own ns vs e m) (ai pg 132 [.hp 0 0,bb own ns vs,e.av] h)
def oJ(p:List Mod)(r:Exp->X Val)(own:Int)(e:Exp):X Val:=if e.op=16 then qf (r e.args[0]!) e else rc p r own e
def ve(p:List Mod)(nm:SNm)(n:Nat):Prop:=∀own ns vs e m h,e.op=16\/e.op=17\/e.op=18->lP e->dq p nm m h->GoodM p m->mu m<1000000->m.fuel<=n->Sc p own ns vs m->aN e->fE p nm Val.av (oJ p (bh p n own ns vs) own e m) (ai pg 133 [.hp 0 0,bb own ns vs,e.av] h)
def Sc.less{p:List Mod}{own:Int}{ns:List bA}{vs:List Val}{m s:Ms}(H:Sc p own ns vs m)(h:s.fuel<=m.fuel):Sc p own ns vs s:=⟨H.own,H.right,by have:=H.len;omega⟩
theorem t129{p:List Mod}{nm:SNm}{n:Nat}(IH:mC p nm n):CX p nm n:=by
 intro own ns vs e m h R G hn hs he;unfold boolX;have hsc:af T 166 (.ip (aa (bb own ns vs)))=some (bb own ns vs):=rfl;have hex:af T 59 (.ip (aa e.av))=some e.av:=by simp
 rw[C129];simp only[S129,hsc,hex,am];refine bD (IH own ns vs e m h R G hn hs he) fun v s h' hv Rs=>?_;simp only[aS (c9 v),ay,bQ,cR,FA42_0,FA42_1,KV,LD3,am,ej,aP,bS,KP];by_cases hk:v.kind=1
 ·simp only[hk,Lb,Kt];exact cQ Rs
 ·have:(v.kind== 1)=false:=by simpa using hk
  simp only[hk,this,Ks,Ki];exact dJ Rs
theorem pF:∀(ns:List bA)(vs:List Val)(n:bA)(v:Val)(s:bA),ns.length=vs.length->gw (ns++[n]) (vs++[v]) s=if n=s then some v else gw ns vs s
 |[],[],n,v,s,_=>by simp[gw]
 |a:: ns,b:: vs,n,v,s,h=>by
  simp only[KW,gw,pF ns vs n v s (by simpa using h)];by_cases hn:n=s
  ·simp[hn]
  ·simp[hn]
 |[],_:: _,_,_,_,h=>by simp at h
 |_:: _,[],_,_,_,h=>by simp at h
def zn(o:Option Val):M AV:=match o with
 |some v=>M.pure v.av
 |none=>fp (km 12)
theorem sN(kk:List AV->M AV)(own:Int)(ns:List bA)(vs:List Val)(e:Exp)(x1 x2 x3 x4:AV)(hl:ns.length=vs.length)(hb:ns.length<=1099511627776):∀(i:Nat),i<=ns.length->
  ak (L81_0 (ai pg) ak kk) [.hp 0 0,.ip [.int .i64 own,strs ns,vals vs],.ip (aa e.av),.int .i64 ((i:Int)-1),x1,x2,x3,x4]=zn (gw (ns.take i) (vs.take i) e.s)
 |0,_=>by
  have hi:gV T 40 (.int .i64 12)=some (km 12):=rfl;rw[FL81_0];simp only[L81_0,aJ,bj,ke,am,ax,hi];simp[gw,zn,Bo];rfl
 |i+1,hi=>by
  have ih:=sN kk own ns vs e x1 x2 x3 x4 hl hb i (by omega);have h1:i<ns.length:=by omega
  have h2:i<vs.length:=by omega
  have h3:(ns.take (i+1))=ns.take i++[ns[i]]:=by simp
  have h4:(vs.take (i+1))=vs.take i++[vs[i]]:=by simp
  rw[h3,h4,pF _ _ _ _ _ (by simp;omega),FL81_0];have e1:((i+1:Nat):Int)-1=(i:Int):=by omega
  rw[e1];simp only[L81_0];simp (disch:=omega) [bo,Ak,mT,h1,h2];simp only[bE]at ih;by_cases hs:ns[i]=e.s
  ·simp[hs,zn]
  ·simp[hs,ih]
end
end Go.Proofs.YtmgjpakjlbofpaaGreat
namespace Go.Proofs.YtmgjpakjlbofpaaGreat
open Go Go.Av Go.Av.Ap
set_option maxRecDepth 100000
@[simp] theorem HE(a:Exp)(l:List Exp):aj T 29 (dj (a:: l)) (.int .i64 0)=some (.ip (aa a.av)):=by
 have:=rk (l:=a:: l) (n:=0) (by omega) (by simp<;>omega)
 simpa using this
@[simp] theorem JZ(a b:Exp)(l:List Exp):aj T 29 (dj (a:: b:: l)) (.int .i64 1)=some (.ip (aa b.av)):=by
 have:=rk (l:=a:: b:: l) (n:=1) (by omega) (by simp<;>omega)
 simpa using this
@[simp] theorem J0(a b c:Exp)(l:List Exp):aj T 29 (dj (a:: b:: c:: l)) (.int .i64 2)=some (.ip (aa c.av)):=by
 have:=rk (l:=a:: b:: c:: l) (n:=2) (by omega) (by simp<;>omega)
 simpa using this
section
variable (o n:Int) (s m:bA) (ns:List bA) (es:List Exp)
@[simp] theorem i8:(Exp.mk o n s m ns es).op=o:=rfl
@[simp] theorem oX:(Exp.mk o n s m ns es).n=n:=rfl
@[simp] theorem uN:(Exp.mk o n s m ns es).s=s:=rfl
@[simp] theorem xp:(Exp.mk o n s m ns es).m=m:=rfl
@[simp] theorem dI:(Exp.mk o n s m ns es).names=ns:=rfl
@[simp] theorem eT:(Exp.mk o n s m ns es).args=es:=rfl
end
def gP(o n:Int)(s m:bA)(ns:List bA)(es:List Exp):AV.agg [.int .i64 o,.int .i64 n,.str s,.str m,strs ns,dj es]=(Exp.mk o n s m ns es).av:=by rw[Exp.av,Exp.cells_eq];rfl
theorem np:∀(ns:List bA)(vs:List Val)(s:bA)(i:Int),ns.length=vs.length->(bI (fun x=>s== x) ns i= -1/\gB ns vs s=none)\/(∃(k:Nat)(h:k<vs.length),bI (fun x=>s== x) ns i=i+k/\gB ns vs s=some vs[k])
 |[],[],s,i,_=>.inl ⟨rfl,rfl⟩
 | n:: ns,v:: vs,s,i,h=>by
  simp only[bI,gB];by_cases hn:n=s
  ·right;exact⟨0,by simp,by simp[hn],by simp[hn]⟩
  ·have hn':(s== n)=false:=by simpa using fun e=>hn e.symm
   simp only[if_neg hn,hn',Ki,Ks];rcases np ns vs s (i+1) (by simpa using h)with⟨h1,h2⟩|⟨k,hk,h1,h2⟩
   ·left;exact⟨by simpa using h1,h2⟩
   ·right;exact⟨k+1,by simp;omega,by simp[h1];omega,by simpa using h2⟩
 |[],_:: _,_,_,h=>by simp at h
 |_:: _,[],_,_,h=>by simp at h
def g8{p:List Mod}{nm:SNm}{x:X Val}(hx:(∃v,x= .ok v)\/(∃e,x= .er e)){m:Ms}{h:Hp}(R:dq p nm m h):fE p nm Val.av (x m) (fB x h):=by
 rcases hx with⟨v,rfl⟩|⟨e,rfl⟩
 ·exact cQ R
 ·exact dJ R
def gI(op:Int)(a b:Val):(∃v,iN op a b= .ok v)\/(∃e,iN op a b= .er e):=by
 unfold iN;split
 ·split
  ·exact .inl ⟨_,rfl⟩
  ·exact .inr ⟨_,rfl⟩
 ·split
  ·split
   ·exact .inl ⟨_,rfl⟩
   ·split
    ·exact .inl ⟨_,rfl⟩
    ·split
     ·exact .inl ⟨_,rfl⟩
     ·exact .inl ⟨_,rfl⟩
  ·exact .inr ⟨_,rfl⟩
def EF{l:List Exp}(h:l.length=1):∃a,l=[a]:=by
 match l,h with
 |[a],_=>exact⟨a,rfl⟩
def sJ{l:List Exp}(h:l.length=2):∃a b,l=[a,b]:=by
 match l,h with
 |[a,b],_=>exact⟨a,b,rfl⟩
def Jw{l:List Exp}(h:l.length=3):∃a b c,l=[a,b,c]:=by
 match l,h with
 |[a,b,c],_=>exact⟨a,b,c,rfl⟩
def wb{α:Type}{p:List Mod}{nm:SNm}{enc:α->AV}{c:Prop}[Decidable c]{x y:X α}{a b:M AV}{m:Ms}{h:Hp}(h1:c->fE p nm enc (x m) (a h))(h2:¬c->fE p nm enc (y m) (b h)):fE p nm enc ((if c then x else y) m) ((if c then a else b) h):=by
 split
 ·exact h1 ‹_›
 ·exact h2 ‹_›
def vD(a b:Bool):ao T .eql 4 (.bool a) (.bool b)=some (.bool (a== b)):=by cases a<;>cases b<;>rfl
def lO(v:Val)(h:Hp):ae (au 4 [] v.av) (fun w=>M.pure (AV.agg [nth (aa w) 0,nth (aa w) 1,nth (aa w) 2,nth (aa w) 3])) h=M.pure v.av h:=by rw[CV]
def cz{p:List Mod}{nm:SNm}{r:Rs Val}{c:M AV}{h:Hp}(H:fE p nm Val.av r (c h)):fE p nm Val.av r (ae c (fun v=>ae (au 4 [] v) fun w=>M.pure (AV.agg [nth (aa w) 0,nth (aa w) 1,nth (aa w) 2,nth (aa w) 3])) h):=by
 cases r with
 |ok v s=>
  obtain⟨h',h1,h2⟩:=H;refine⟨h',?_,h2⟩;rw[bp h1,CV];rfl
 |er e s=>
  obtain⟨h',h1,h2⟩:=H;exact⟨h',vq h1,h2⟩
theorem wT{p:List Mod}{nm:SNm}{n:Nat}(IH:mC p nm n)(IR:BQ p nm n)(IC:xN p nm n)(IW:ve p nm n):mC p nm (n+1):=by
 intro own ns vs e m h R G hn hs he;have IB:=t129 IH;by_cases hf:0<m.fuel
 rotate_left
 ·have e1:bh p (n+1) own ns vs e m= .er 16 m:=by
   show jh p (bh p n) own ns vs e m=_;unfold jh X.get;simp only;rw[Kn (by omega)];rfl
  rw[e1];exact⟨h,yO R hf _ e,R⟩
 have hspec:bh p (n+1) own ns vs e m=(if bg e.op= -2\/(bg e.op≠-1/\bg e.op≠e.args.length)then .er 13
   else if e.op=0 then .ok (jY e.n)
   else if e.op=1 then(if e.n=0\/e.n=1 then .ok (eQ (e.n== 1))else .er 13)
   else if e.op=2 then(match gw ns vs e.s with|some v=>.ok v|none=>.er 12)
   else if e.op=3\/e.op=4\/e.op=5\/e.op=6\/e.op=7 then(bh p n own ns vs e.args[0]!).bind fun a=>(bh p n own ns vs e.args[1]!).bind fun b=>iN e.op a b
   else if e.op=8\/e.op=9 then(boolX (bh p n own ns vs e.args[0]!)).bind fun x=>if x=(e.op== 9)then .ok (eQ (e.op== 9))else(boolX (bh p n own ns vs e.args[1]!)).bind fun y=>.ok (eQ y)
   else if e.op=10 then(boolX (bh p n own ns vs e.args[0]!)).bind fun x=>.ok (eQ !x)
   else if e.op=11 then(boolX (bh p n own ns vs e.args[0]!)).bind fun x=>if x=true then bh p n own ns vs e.args[1]! else bh p n own ns vs e.args[2]!
   else if e.op=12 then(bh p n own ns vs e.args[0]!).bind fun v=>bh p n own (ns++[e.s]) (vs++[v]) e.args[1]!
   else if e.op=13 then fK (bh p n own ns vs) e
   else if e.op=14 then(bh p n own ns vs e.args[0]!).bind fun v=>(match gB v.names v.values e.s with|some x=>if v.kind=2 then .ok x else .er 13|none=>.er 13)
   else if e.op=15 then kh p (bh p n) own ns vs e
   else oJ p (bh p n own ns vs) own e:X Val) (fD m):=by
  show jh p (bh p n) own ns vs e m=_;unfold jh X.get;simp only;rw[if_neg (by omega)];have hw:(if e.op=16 then qf (bh p n own ns vs e.args[0]!) e else rc p (bh p n own ns vs) own e)=oJ p (bh p n own ns vs) own e:=rfl;rw[hw];rfl
 have hbm:=G.bud;have G1:GoodM p (fD m):=⟨G.right,by simp only[mu,fD]at hbm |-;omega,G.fr,by simp only[fD];omega,G.shape⟩;have hmu:mu (fD m)<1000000:=by simp only[mu,fD]at hbm |-;omega
 have hn1:(fD m).fuel<=n:=by simp only[fD];omega
 have hft:(fD m).fuel<=m.fuel:=by simp only[fD];omega
 have hs1:Sc p own ns vs (fD m):=hs.less hft;by_cases hc:lP e
 rotate_left
 ·obtain⟨h1,R1,e1⟩:=Ey R G hf (bb own ns vs) e hc;have hc':bg e.op= -2\/(bg e.op≠-1/\bg e.op≠e.args.length):=by
   unfold lP at hc;by_cases k:bg e.op= -2
   ·exact .inl k
   ·right;exact⟨fun k2=>hc ⟨k,.inl k2⟩,fun k2=>hc ⟨k,.inr k2⟩⟩
  rw[hspec,Kn hc'];exact⟨h1,e1,R1⟩
 obtain⟨h1,R1,hl,hst⟩:=step0 R;have hw:IntKind.i64.wrap (m.fuel-1)=m.fuel-1:=bo (by omega) (by simp only[mu]at hbm;omega);have hc':¬(bg e.op= -2\/(bg e.op≠-1/\bg e.op≠e.args.length)):=by
  unfold lP at hc;rintro (k|⟨k1,k2⟩)
  ·exact hc.1 k
  ·rcases hc.2 with k|k
   ·exact k1 k
   ·exact k2 k
 rw[hspec,if_neg hc'];have hcc:=hc;have hce:=hc.2;obtain⟨op,en,es,em,en2,ea⟩:=e;simp only[i8,oX,uN,eT]at hce |-;unfold lP at hc;simp only[i8,eT]at hc;generalize hcode:ai pg 81 [.hp 0 0,bb own ns vs,(Exp.mk op en es em en2 ea).av] h=code;rw[C81]at hcode;have hW:∀v:Val,∀h,ae (au 4 [] v.av) (fun w=>M.pure (AV.agg [nth (aa w) 0,nth (aa w) 1,nth (aa w) 2,nth (aa w) 3])) h=M.pure v.av h:=lO;by_cases k0:op=0
 ·subst k0;have hlen:ea.length=0:=by simp[bg]at hce;omega
  obtain rfl:=Kq hlen;simp[S81,hl,hst,hf,aP,bS,hw,t125,bg,K81_2,K81_1,K81_0,bl,t126]at hcode;simp;rw[<- hcode];exact cQ (a:=jY en) R1
 by_cases k1:op=1
 ·subst k1;have hlen:ea.length=0:=by simp[bg]at hce;omega
  obtain rfl:=Kq hlen;simp[S81,hl,hst,hf,aP,bS,hw,t125,bg,K81_2,K81_1,K81_0,bl,t127]at hcode;simp;rw[<- hcode];exact wb (fun _=>cQ (a:=eQ (en== 1)) R1) (fun _=>dJ R1)
 by_cases k2:op=2
 ·subst k2;have hlen:ea.length=0:=by simp[bg]at hce;omega
  obtain rfl:=Kq hlen;have hnl:=hs.right.1;have hns:(ns.length:Int)<=549755813888:=by have:=hs.len;omega
  have hloop:=sN (K81_0 (ai pg) ak) own ns vs (.mk 2 en es em en2 []) (.int .i64 0) (.int .i64 0) (.sl []) (.sl []) hnl (by omega) ns.length (Kk _);have hwl:IntKind.i64.wrap ((ns.length:Int)-1)=(ns.length:Int)-1:=bo (by omega) (by omega);rw[LR,hnl,LR]at hloop;simp only[bE,i8,oX,uN,xp,dI,eT]at hloop;simp[S81,hl,hst,hf,aP,bS,hw,t125,bg,hwl]at hcode;rw[hnl,hloop]at hcode;simp;rw[<- hcode];cases gw ns vs es with
  |none=>exact dJ R1
  |some v=>exact cQ R1
 by_cases k3:op=3
 ·subst k3;have hlen:ea.length=2:=by simp[bg]at hce;omega
  obtain⟨a,b,rfl⟩:=sJ hlen;have ha:aN a:=aZ he (by simp);have hb:aN b:=aZ he (by simp);simp[S81,hl,hst,hf,aP,bS,hw,t125,bg,K81_2,K81_1,K81_0,bl]at hcode;simp;rw[<- hcode];refine bD (IH own ns vs a _ _ R1 G1 hn1 hs1 ha) fun x s1 h2 hx R2=>?_;obtain⟨G2,_,f2⟩:=G1.eval hs1.right hx;refine bD (IH own ns vs b _ _ R2 G2 (by omega) (hs1.less f2) hb) fun y s2 h3 hy R3=>?_;rw[t128 3 x y (by simp)];exact cz (c:=fB (iN 3 x y)) (g8 (gI _ _ _) R3)
 by_cases k4:op=4
 ·subst k4;have hlen:ea.length=2:=by simp[bg]at hce;omega
  obtain⟨a,b,rfl⟩:=sJ hlen;have ha:aN a:=aZ he (by simp);have hb:aN b:=aZ he (by simp);simp[S81,hl,hst,hf,aP,bS,hw,t125,bg,K81_2,K81_1,K81_0,bl]at hcode;simp;rw[<- hcode];refine bD (IH own ns vs a _ _ R1 G1 hn1 hs1 ha) fun x s1 h2 hx R2=>?_;obtain⟨G2,_,f2⟩:=G1.eval hs1.right hx;refine bD (IH own ns vs b _ _ R2 G2 (by omega) (hs1.less f2) hb) fun y s2 h3 hy R3=>?_;rw[t128 4 x y (by simp)];exact cz (c:=fB (iN 4 x y)) (g8 (gI _ _ _) R3)
 by_cases k5:op=5
 ·subst k5;have hlen:ea.length=2:=by simp[bg]at hce;omega
  obtain⟨a,b,rfl⟩:=sJ hlen;have ha:aN a:=aZ he (by simp);have hb:aN b:=aZ he (by simp);simp[S81,hl,hst,hf,aP,bS,hw,t125,bg,K81_2,K81_1,K81_0,bl]at hcode;simp;rw[<- hcode];refine bD (IH own ns vs a _ _ R1 G1 hn1 hs1 ha) fun x s1 h2 hx R2=>?_;obtain⟨G2,_,f2⟩:=G1.eval hs1.right hx;refine bD (IH own ns vs b _ _ R2 G2 (by omega) (hs1.less f2) hb) fun y s2 h3 hy R3=>?_;rw[t128 5 x y (by simp)];exact cz (c:=fB (iN 5 x y)) (g8 (gI _ _ _) R3)
 by_cases k6:op=6
 ·subst k6;have hlen:ea.length=2:=by simp[bg]at hce;omega
  obtain⟨a,b,rfl⟩:=sJ hlen;have ha:aN a:=aZ he (by simp);have hb:aN b:=aZ he (by simp);simp[S81,hl,hst,hf,aP,bS,hw,t125,bg,K81_2,K81_1,K81_0,bl]at hcode;simp;rw[<- hcode];refine bD (IH own ns vs a _ _ R1 G1 hn1 hs1 ha) fun x s1 h2 hx R2=>?_;obtain⟨G2,_,f2⟩:=G1.eval hs1.right hx;refine bD (IH own ns vs b _ _ R2 G2 (by omega) (hs1.less f2) hb) fun y s2 h3 hy R3=>?_;rw[t128 6 x y (by simp)];exact cz (c:=fB (iN 6 x y)) (g8 (gI _ _ _) R3)
 by_cases k7:op=7
 ·subst k7;have hlen:ea.length=2:=by simp[bg]at hce;omega
  obtain⟨a,b,rfl⟩:=sJ hlen;have ha:aN a:=aZ he (by simp);have hb:aN b:=aZ he (by simp);simp[S81,hl,hst,hf,aP,bS,hw,t125,bg,K81_2,K81_1,K81_0,bl]at hcode;simp;rw[<- hcode];refine bD (IH own ns vs a _ _ R1 G1 hn1 hs1 ha) fun x s1 h2 hx R2=>?_;obtain⟨G2,_,f2⟩:=G1.eval hs1.right hx;refine bD (IH own ns vs b _ _ R2 G2 (by omega) (hs1.less f2) hb) fun y s2 h3 hy R3=>?_;rw[t128 7 x y (by simp)];exact cz (c:=fB (iN 7 x y)) (g8 (gI _ _ _) R3)
 by_cases k8:op=8
 ·subst k8;have hlen:ea.length=2:=by simp[bg]at hce;omega
  obtain⟨a,b,rfl⟩:=sJ hlen;have ha:aN a:=aZ he (by simp);have hb:aN b:=aZ he (by simp);simp[S81,hl,hst,hf,aP,bS,hw,t125,bg,K81_2,K81_1,K81_0,bl]at hcode;simp;rw[<- hcode];refine bD (IB own ns vs a _ _ R1 G1 hn1 hs1 ha) fun x s1 h2 hx R2=>?_;obtain⟨G2,f2⟩:=G1.bool hs1.right hx;rw[vD];simp only[am,ax];cases x
  ·simp[t127];exact cQ R2
  ·simp[t127];refine bD (IB own ns vs b _ _ R2 G2 (by omega) (hs1.less f2) hb) fun y s2 h3 hy R3=>?_;simp only[t127,dk,ay,hW];exact cQ R3
 by_cases k9:op=9
 ·subst k9;have hlen:ea.length=2:=by simp[bg]at hce;omega
  obtain⟨a,b,rfl⟩:=sJ hlen;have ha:aN a:=aZ he (by simp);have hb:aN b:=aZ he (by simp);simp[S81,hl,hst,hf,aP,bS,hw,t125,bg,K81_2,K81_1,K81_0,bl]at hcode;simp;rw[<- hcode];refine bD (IB own ns vs a _ _ R1 G1 hn1 hs1 ha) fun x s1 h2 hx R2=>?_;obtain⟨G2,f2⟩:=G1.bool hs1.right hx;rw[vD];simp only[am,ax];cases x
  ·simp[t127];refine bD (IB own ns vs b _ _ R2 G2 (by omega) (hs1.less f2) hb) fun y s2 h3 hy R3=>?_;simp only[t127,dk,ay,hW];exact cQ R3
  ·simp[t127];exact cQ R2
 by_cases k10:op=10
 ·subst k10;have hlen:ea.length=1:=by simp[bg]at hce;omega
  obtain⟨a,rfl⟩:=EF hlen;have ha:aN a:=aZ he (by simp);simp[S81,hl,hst,hf,aP,bS,hw,t125,bg,K81_2,K81_1,K81_0,bl]at hcode;simp;rw[<- hcode];refine bD (IB own ns vs a _ _ R1 G1 hn1 hs1 ha) fun x s1 h2 hx R2=>?_;simp only[dC,am,t127,dk,ay,hW];exact cQ R2
 by_cases k11:op=11
 ·subst k11;have hlen:ea.length=3:=by simp[bg]at hce;omega
  obtain⟨a,b,c,rfl⟩:=Jw hlen;have ha:aN a:=aZ he (by simp);have hb:aN b:=aZ he (by simp);have hc3:aN c:=aZ he (by simp);simp[S81,hl,hst,hf,aP,bS,hw,t125,bg,K81_2,K81_1,K81_0,bl]at hcode;simp;rw[<- hcode];refine bD (IB own ns vs a _ _ R1 G1 hn1 hs1 ha) fun x s1 h2 hx R2=>?_;obtain⟨G2,f2⟩:=G1.bool hs1.right hx;simp only[ax];exact wb (fun _=>cz (IH own ns vs b _ _ R2 G2 (by omega) (hs1.less f2) hb)) (fun _=>cz (IH own ns vs c _ _ R2 G2 (by omega) (hs1.less f2) hc3))
 by_cases k12:op=12
 ·subst k12;have hlen:ea.length=2:=by simp[bg]at hce;omega
  obtain⟨a,b,rfl⟩:=sJ hlen;have ha:aN a:=aZ he (by simp);have hb:aN b:=aZ he (by simp);simp[S81,hl,hst,hf,aP,bS,hw,t125,bg,K81_2,K81_1,K81_0,bl]at hcode;simp;rw[<- hcode];refine bD (IH own ns vs a _ _ R1 G1 hn1 hs1 ha) fun x s1 h2 hx R2=>?_;obtain⟨G2,rx,f2⟩:=G1.eval hs1.right hx;have hsl:=hs1.len;have hrl:=hs1.right.1;have hfu:=G1.fuel;rw[t93 own ns vs es x (by omega) (by omega)];simp only[dk,ay];refine cz (IH own (ns++[es]) (vs++[x]) b _ _ R2 G2 (by omega) ⟨hs1.own,⟨by simp[hrl],fun w hw=>?_⟩,?_⟩ hb)
  ·rcases KG.1 hw with k|k
   ·exact hs1.right.2 w k
   ·simp only[Lh]at k;subst k;exact rx
  ·have:(fD m).fuel=m.fuel-1:=rfl
   have:=hs.len
   simp only[KH,La];omega
 by_cases k13:op=13
 ·subst k13;simp[S81,hl,hst,hf,aP,bS,hw,t125,bg,K81_2,K81_1,K81_0,bl,gP]at hcode;simp;rw[<- hcode];exact cz (IR own ns vs _ _ _ R1 G1 hn1 hs1 he)
 by_cases k14:op=14
 ·subst k14;have hlen:ea.length=1:=by simp[bg]at hce;omega
  obtain⟨a,rfl⟩:=EF hlen;have ha:aN a:=aZ he (by simp);simp[S81,hl,hst,hf,aP,bS,hw,t125,bg,K81_2,K81_1,K81_0,bl]at hcode;simp;rw[<- hcode];refine bD (IH own ns vs a _ _ R1 G1 hn1 hs1 ha) fun x s1 h2 hx R2=>?_;obtain⟨G2,rx,f2⟩:=G1.eval hs1.right hx;have hrl:=uM rx;have h8:=uL rx;have hi:=t131 x.names es (by omega);rw[aS (c9 x)];simp only[ay,bQ,cR,KP,KV,LD27,LD37,LD3,am,hi,ej,ke,cj,aJ,lJ,aP,bS];rcases np x.names x.values es 0 hrl with⟨j1,j2⟩|⟨k,hk,j1,j2⟩
  ·rw[j1,j2];simp only[show decide ((0:Int)<=-1)=false by decide,LI,Ki,Ks];exact dJ R2
  ·rw[j1,j2];have hk0:decide ((0:Int)<=0+(k:Int))=true:=by simp
   rw[hk0];simp only[Ml];by_cases hk2:x.kind=2
   ·have hix:=mT (l:=x.values) (n:=0+(k:Int)) (by omega) (by omega);have e5:(0+(k:Int)).toNat=k:=by omega
    rw[e5,KM x.values k hk]at hix;have hld:af T 42 (.ip (aa (x.values[k]).av))=some (x.values[k]).av:=by simp
    simp only[hk2,Lb,Kt,hix,am,hld,hW];exact cQ R2
   ·have hk2':(x.kind== 2)=false:=by simpa using hk2
    simp only[hk2,hk2',Ki,Ks];exact dJ R2
 by_cases k15:op=15
 ·subst k15;simp[S81,hl,hst,hf,aP,bS,hw,t125,bg,K81_2,K81_1,K81_0,bl,gP]at hcode;simp;rw[<- hcode];exact cz (IC own ns vs _ _ _ R1 G1 hmu hn1 hs1 he)
 by_cases k16:op=16
 ·subst k16;simp[S81,hl,hst,hf,aP,bS,hw,t125,bg,K81_2,K81_1,K81_0,bl,gP]at hcode;have hce':bg 16=ea.length:=by simp only[bg]at hce |-;simpa using hce
  simp only[bg]at hce';simp at hce';simp[<- hce']at hcode;simp;rw[<- hcode];exact cz (IW own ns vs (.mk 16 en es em en2 ea) _ _ (by simp) hcc R1 G1 hmu hn1 hs1 he)
 by_cases k17:op=17
 ·subst k17;simp[S81,hl,hst,hf,aP,bS,hw,t125,bg,K81_2,K81_1,K81_0,bl,gP]at hcode;have hce':bg 17=ea.length:=by simp only[bg]at hce |-;simpa using hce
  simp only[bg]at hce';simp at hce';simp[<- hce']at hcode;simp;rw[<- hcode];exact cz (IW own ns vs (.mk 17 en es em en2 ea) _ _ (by simp) hcc R1 G1 hmu hn1 hs1 he)
 by_cases k18:op=18
 ·subst k18;simp[S81,hl,hst,hf,aP,bS,hw,t125,bg,K81_2,K81_1,K81_0,bl,gP]at hcode;have hce':bg 18=ea.length:=by simp only[bg]at hce |-;simpa using hce
  simp only[bg]at hce';simp at hce';simp[<- hce']at hcode;simp;rw[<- hcode];exact cz (IW own ns vs (.mk 18 en es em en2 ea) _ _ (by simp) hcc R1 G1 hmu hn1 hs1 he)
 exfalso;apply hc.1;simp[bg,k0,k1,k2,k3,k4,k5,k6,k7,k8,k9,k10,k11,k12,k13,k14,k15,k16,k17,k18]
end Go.Proofs.YtmgjpakjlbofpaaGreat
