/- What the functions of the seat compute, part 3: the texts of the claim, one behind the other. Conditions: bounds, as each theorem names them. -/
import Derived.Test.YtihmmkncokjbaaaGreatDoorTb
set_option linter.defProp false
set_option linter.unusedSimpArgs false
set_option linter.unusedVariables false
namespace Go.Proofs.YtihmmkncokjbaaaGreatDoor
open Go Go.Av Go.Av.Ap
set_option maxRecDepth 100000
noncomputable section
def K4_0(call:CC)(fx:cr AV)(a:List AV):M AV:=ae (ah (ak T 35 (nth a 1))) fun b=>ae (call 19 [b,nth a 0]) fun c=>ae (ah (cg c 0)) fun d=>ae (ah (cg c 1)) fun e=>ae (bT 4 d) fun f=>ae (ah (ao T .eql 39 e (.int .i64 0))) fun g=>ae (au g true 1 (ae (ah (ak T 35 (nth a 1))) fun h=>ae (ah (ak T 45 (.ip (ab f)))) fun i=>ae (call 20 [h,i]) fun j=>ae (ah (iz UnOp.not j)) fun k=>M.pure [k])) fun l=>ae (au (nth l 0) false 1 (ae (ah (ak T 45 (.ip (ab f)))) fun m=>ae (call 17 [m]) fun n=>ae (ah (ao T .neq 9 n (nth a 0))) fun o=>M.pure [o])) fun p=>ae (au g true 1 (ae (ah (aO (nth l 0) (.bool true) (nth p 0))) fun q=>M.pure [q])) fun r=>ae (au (nth r 0) false 1 (ae (ah (ak T 45 (.ip (ab f)))) fun s=>ae (call 18 [s]) fun u=>ae (ah (iz UnOp.not u)) fun v=>M.pure [v])) fun w=>ae (au g true 1 (ae (ah (aO (nth r 0) (.bool true) (nth w 0))) fun x=>M.pure [x])) fun y=>ae (ah (aO g (nth y 0) (.bool false))) fun z=>ae (au z false 1 (ae (ah (ao T .neq 39 e (.int .i64 0))) fun A=>M.pure [A])) fun B=>ae (au (nth B 0) true 1 (ae (ah (ao T .neq 39 e (.int .i64 34))) fun C=>M.pure [C])) fun D=>ae (au (nth D 0) false 1 (ae (ah (ak T 45 (.ip (ab f)))) fun E=>ae (ah (bW T false 45 [])) fun F=>ae (call 21 [E,F]) fun G=>ae (ah (iz UnOp.not G)) fun H=>M.pure [H])) fun I=>ae (au (nth B 0) true 1 (ae (ah (aO (nth D 0) (.bool true) (nth I 0))) fun J=>M.pure [J])) fun K=>ae (au z false 1 (ae (ah (aO (nth B 0) (nth K 0) (.bool false))) fun L=>M.pure [L])) fun N=>ae (ah (aO z (.bool true) (nth N 0))) fun O=>aB O (M.pure (AV.bool false)) (ae (au (nth a 3) true 1 (ae (ah (ak T 35 (nth a 1))) fun P=>ae (ah (ak T 35 (nth a 1))) fun Q=>ae (cG (call 22 [Q])) fun R=>ae (cG (call 20 [P,R])) fun S=>ae (ah (ak T 35 (nth a 1))) fun U=>ae (cG (call 23 [U])) fun V=>ae (ah (ao T .eql 4 S V)) fun W=>M.pure [W])) fun X=>ae (ah (aO (nth a 3) (nth X 0) (.bool false))) fun Y=>ae (au Y true 1 (ae (ah (ao T .neq 9 (nth a 4) (.str []))) fun Z=>M.pure [Z])) fun u0=>ae (au (nth u0 0) false 1 (ae (ah (ak T 35 (nth a 1))) fun u1=>ae (ah (ak T 45 (nth a 2))) fun u2=>ae (cG (call 20 [u1,u2])) fun u3=>ae (ah (iz UnOp.not u3)) fun u4=>M.pure [u4])) fun u5=>ae (au Y true 1 (ae (ah (aO (nth u0 0) (.bool true) (nth u5 0))) fun u6=>M.pure [u6])) fun u7=>ae (ah (aO Y (nth u7 0) (.bool false))) fun u8=>M.pure u8)
def S4(call:CC)(fx:cr AV)(a0 a1 a2:AV):M AV:=ae (call 8 []) fun a=>ae (ah (ak T 35 (.ip (ab a0)))) fun b=>ae (ah (bp T 47 1 [(0,b)])) fun c=>ae (call 16 [c]) fun d=>ae (ah (iz UnOp.not d)) fun e=>ae (au e false 1 (ae (ah (ak T 45 (.ip (ab a1)))) fun f=>ae (ah (bp T 30 1 [(0,f)])) fun g=>ae (call 10 [g]) fun h=>ae (ah (iz UnOp.not h)) fun i=>M.pure [i])) fun j=>ae (ah (aO e (.bool true) (nth j 0))) fun k=>ae (au k false 1 (ae (ah (aY T 9 a2)) fun l=>ae (ah (ao T .gtr 3 l (.int .i64 400))) fun m=>M.pure [m])) fun n=>ae (ah (aO k (.bool true) (nth n 0))) fun o=>aB o (M.pure a) (ae (ah (ak T 45 (.ip (ab a1)))) fun p=>ae (call 17 [p]) fun q=>jn (K4_0 call fx) fun r=>ae (ah (ao T .neq 9 q (.str []))) fun s=>ae (au s true 1 (ae (ah (ak T 45 (.ip (ab a1)))) fun u=>ae (call 18 [u]) fun v=>M.pure [v])) fun w=>ae (ah (aO s (nth w 0) (.bool false))) fun x=>aB x (ae (ah (ak T 35 (.ip (ab a0)))) fun y=>ae (call 19 [y,q]) fun z=>ae (ah (cg z 0)) fun A=>ae (ah (cg z 1)) fun B=>ae (bT 4 A) fun C=>ae (ah (ao T .eql 39 B (.int .i64 0))) fun D=>ae (ah (ak T 35 (.ip (ab a0)))) fun E=>ae (ah (ak T 45 (.ip (ab a1)))) fun F=>ae (call 20 [E,F]) fun G=>ae (ah (ao T .neq 4 D G)) fun H=>ae (au H false 1 (ae (ah (ao T .eql 39 B (.int .i64 0))) fun I=>M.pure [I])) fun J=>ae (au (nth J 0) true 1 (ae (ah (ak T 45 (.ip (ab C)))) fun K=>ae (ah (ak T 45 (.ip (ab a1)))) fun L=>ae (call 21 [K,L]) fun N=>ae (ah (iz UnOp.not N)) fun O=>M.pure [O])) fun P=>ae (au H false 1 (ae (ah (aO (nth J 0) (nth P 0) (.bool false))) fun Q=>M.pure [Q])) fun R=>ae (ah (aO H (.bool true) (nth R 0))) fun S=>aB S (M.pure (AV.bool false)) (r [a2,.ip (ab a0),.ip (ab a1),a,q])) (r [a2,.ip (ab a0),.ip (ab a1),a,q]))
def E4(a0 a1 a2:AV):EE 4 Tryz.f4 CG [a0,a1,a2] (fun c x=>S4 c x a0 a1 a2):=fun _ _=>by kernel_rfl
def C4(a0 a1 a2:AV):af pg 4 [a0,a1,a2]=aS (S4 (af pg) ai (cl az a0) (cl az a1) (cl az a2)):=(aC aM rfl rfl rfl _).trans (FX aS (E4 (cl az a0) (cl az a1) (cl az a2) _ _))
def L18_0(call:CC)(fx:cr AV)(a:RR)(b:RR)(c:List AV):M AV:=ae (ah (aa T 45 (nth c 0) 2)) fun d=>ae (ah (ak T 22 d)) fun e=>ae (ah (ax T 22 e (nth c 1))) fun f=>ae (ah (ak T 9 f)) fun g=>ae (ah (aY T 9 g)) fun h=>ae (ah (ao T .lss 3 (nth c 2) h)) fun i=>aB i (ae (ah (aa T 45 (nth c 0) 2)) fun j=>ae (ah (ak T 22 j)) fun k=>ae (ah (ax T 22 k (nth c 1))) fun l=>ae (ah (ak T 9 l)) fun m=>ae (ah (da T 9 m (nth c 2))) fun n=>ae (ah (ao T .lss 5 n (.int .u8 97))) fun o=>ae (au o false 1 (ae (ah (ao T .gtr 5 n (.int .u8 122))) fun p=>M.pure [p])) fun q=>ae (ah (aO o (.bool true) (nth q 0))) fun r=>ae (au r true 1 (ae (ah (ao T .lss 5 n (.int .u8 65))) fun s=>M.pure [s])) fun u=>ae (au (nth u 0) false 1 (ae (ah (ao T .gtr 5 n (.int .u8 90))) fun v=>M.pure [v])) fun w=>ae (au r true 1 (ae (ah (aO (nth u 0) (.bool true) (nth w 0))) fun x=>M.pure [x])) fun y=>ae (ah (aO r (nth y 0) (.bool false))) fun z=>ae (au z true 1 (ae (ah (ao T .lss 5 n (.int .u8 48))) fun A=>M.pure [A])) fun B=>ae (au (nth B 0) false 1 (ae (ah (ao T .gtr 5 n (.int .u8 57))) fun C=>M.pure [C])) fun D=>ae (au z true 1 (ae (ah (aO (nth B 0) (.bool true) (nth D 0))) fun E=>M.pure [E])) fun F=>ae (ah (aO z (nth F 0) (.bool false))) fun G=>ae (au G true 1 (ae (ah (ao T .neq 5 n (.int .u8 95))) fun H=>M.pure [H])) fun I=>ae (ah (aO G (nth I 0) (.bool false))) fun J=>aB J (M.pure (AV.bool false)) (ae (ah (ao T .add 3 (nth c 2) (.int .i64 1))) fun K=>b [nth c 0,nth c 1,K])) (ae (ah (aa T 45 (nth c 0) 2)) fun L=>ae (ah (ak T 22 L)) fun N=>ae (ah (ax T 22 N (nth c 1))) fun O=>ae (ah (ak T 9 O)) fun P=>ae (ah (ao T .eql 9 P (.str []))) fun Q=>aB Q (M.pure (AV.bool false)) (ae (ah (ao T .add 3 (nth c 1) (.int .i64 1))) fun R=>a [nth c 0,R]))
def L18_1(call:CC)(fx:cr AV)(a:RR)(b:List AV):M AV:=ae (ah (aa T 45 (nth b 0) 3)) fun c=>ae (ah (ak T 30 c)) fun d=>ae (ah (aY T 30 d)) fun e=>ae (ah (ao T .lss 3 (nth b 1) e)) fun f=>aB f (ae (ah (aa T 45 (nth b 0) 3)) fun g=>ae (ah (ak T 30 g)) fun h=>ae (ah (ax T 30 h (nth b 1))) fun i=>ae (ah (ak T 45 i)) fun j=>ae (call 18 [j]) fun k=>ae (ah (iz UnOp.not k)) fun l=>aB l (M.pure (AV.bool false)) (ae (ah (ao T .add 3 (nth b 1) (.int .i64 1))) fun m=>a [nth b 0,m])) (M.pure (AV.bool true))
def L18_2(call:CC)(fx:cr AV)(a:RR)(b:List AV):M AV:=ae (ah (aa T 45 (nth b 0) 2)) fun c=>ae (ah (ak T 22 c)) fun d=>ae (ah (aY T 22 d)) fun e=>ae (ah (ao T .lss 3 (nth b 1) e)) fun f=>aB f (fx (L18_0 call fx a) [nth b 0,nth b 1,.int .i64 0]) (fx (L18_1 call fx) [nth b 0,.int .i64 0])
def XL18_0{call:CC}{a:RR}{b:Nat->RR}(c:a6 a fun n=>b n):cM (L18_0 call ai a) fun n=>L18_0 call ai (b n):=by
 intro d e f g;unfold L18_0;exact (by(iterate 6 refine lb fun _=>?_);exact (aD (by(iterate 18 refine lb fun _=>?_);exact (aD (aE.const _) (lb fun _=>f _))) (by(iterate 5 refine lb fun _=>?_);exact (aD (aE.const _) (lb fun _=>c _)))))
def YL18_0{call:CC}{a:RR}{b:Nat->RR}(c:a6 a fun n=>b n):a6 (ai (L18_0 call ai a)) fun n=>ai (L18_0 call ai (b n)):=ux (XL18_0 c) (XL18_0 (a6.const _)) fun _=>XL18_0 (a6.const _)
def FL18_0(call:CC)(a:RR)(vs:List AV):ai (L18_0 call ai a) vs=L18_0 call ai a (ai (L18_0 call ai a)) vs:=bR (XL18_0 (a6.const _)) vs
def XL18_1{call:CC}:cM (L18_1 call ai) fun _n=>L18_1 call ai  :=by
 intro a b c d;unfold L18_1;exact (lb fun _=>(lb fun _=>(lb fun _=>(lb fun _=>(aD (by(iterate 6 refine lb fun _=>?_);exact (aD (aE.const _) (lb fun _=>c _))) (aE.const _))))))
def FL18_1(call:CC)(vs:List AV):ai (L18_1 call ai) vs=L18_1 call ai  (ai (L18_1 call ai)) vs:=bR (XL18_1) vs
def XL18_2{call:CC}:cM (L18_2 call ai) fun _n=>L18_2 call ai  :=by
 intro a b c d;unfold L18_2;exact (lb fun _=>(lb fun _=>(lb fun _=>(lb fun _=>(aD ((YL18_0 c) _) (aE.const _))))))
def FL18_2(call:CC)(vs:List AV):ai (L18_2 call ai) vs=L18_2 call ai  (ai (L18_2 call ai)) vs:=bR (XL18_2) vs
def S18(call:CC)(fx:cr AV)(a0:AV):M AV:=fx (L18_2 call fx) [.ip (ab a0),.int .i64 0]
def E18(a0:AV):EE 18 Tryz.f18 zp [a0] (fun c x=>S18 c x a0):=fun _ _=>by kernel_rfl
def C18(a0:AV):af pg 18 [a0]=aS (S18 (af pg) ai (cl az a0)):=(aC aM rfl rfl rfl _).trans (FX aS (E18 (cl az a0) _ _))
def L42_0(call:CC)(fx:cr AV)(a:RR)(b:List AV):M AV:=ae (ah (aa T 45 (nth b 2) 3)) fun c=>ae (ah (ak T 30 c)) fun d=>ae (ah (aY T 30 d)) fun e=>ae (ah (ao T .lss 3 (nth b 4) e)) fun f=>ae (au f true 1 (ae (ah (ao T .leq 3 (nth b 3) (nth b 0))) fun g=>M.pure [g])) fun h=>ae (ah (aO f (nth h 0) (.bool false))) fun i=>aB i (ae (ah (aa T 45 (nth b 2) 3)) fun j=>ae (ah (ak T 30 j)) fun k=>ae (ah (ax T 30 k (nth b 4))) fun l=>ae (ah (ak T 45 l)) fun m=>ae (ah (ao T .sub 3 (nth b 0) (nth b 3))) fun n=>ae (ah (ao T .sub 3 (nth b 1) (.int .i64 1))) fun o=>ae (call 42 [m,n,o]) fun p=>ae (ah (ao T .add 3 (nth b 3) p)) fun q=>ae (ah (ao T .add 3 (nth b 4) (.int .i64 1))) fun r=>a [nth b 0,nth b 1,nth b 2,q,r]) (M.pure (nth b 3))
def L42_1(call:CC)(fx:cr AV)(a:RR)(b:List AV):M AV:=ae (ah (aa T 45 (nth b 2) 2)) fun c=>ae (ah (ak T 22 c)) fun d=>ae (ah (aY T 22 d)) fun e=>ae (ah (ao T .lss 3 (nth b 4) e)) fun f=>aB f (ae (ah (aa T 45 (nth b 2) 2)) fun g=>ae (ah (ak T 22 g)) fun h=>ae (ah (ax T 22 h (nth b 4))) fun i=>ae (ah (ak T 9 i)) fun j=>ae (ah (aY T 9 j)) fun k=>ae (ah (ao T .gtr 3 k (.int .i64 60))) fun l=>aB l (ae (ah (ao T .add 3 (nth b 0) (.int .i64 1))) fun m=>M.pure m) (ae (ah (ao T .add 3 (nth b 4) (.int .i64 1))) fun n=>a [nth b 0,nth b 1,nth b 2,nth b 3,n])) (fx (L42_0 call fx) [nth b 0,nth b 1,nth b 2,nth b 3,.int .i64 0])
def XL42_0{call:CC}:cM (L42_0 call ai) fun _n=>L42_0 call ai  :=by
 intro a b c d;unfold L42_0;exact (by(iterate 6 refine lb fun _=>?_);exact (aD (by(iterate 9 refine lb fun _=>?_);exact (c _)) (aE.const _)))
def FL42_0(call:CC)(vs:List AV):ai (L42_0 call ai) vs=L42_0 call ai  (ai (L42_0 call ai)) vs:=bR (XL42_0) vs
def XL42_1{call:CC}:cM (L42_1 call ai) fun _n=>L42_1 call ai  :=by
 intro a b c d;unfold L42_1;exact (lb fun _=>(lb fun _=>(lb fun _=>(lb fun _=>(aD (by(iterate 6 refine lb fun _=>?_);exact (aD (aE.const _) (lb fun _=>c _))) (aE.const _))))))
def FL42_1(call:CC)(vs:List AV):ai (L42_1 call ai) vs=L42_1 call ai  (ai (L42_1 call ai)) vs:=bR (XL42_1) vs
def S42(call:CC)(fx:cr AV)(a0 a1 a2:AV):M AV:=ae (ah (ao T .lss 3 a2 (.int .i64 1))) fun a=>ae (au a false 1 (ae (ah (aa T 45 (.ip (ab a0)) 2)) fun b=>ae (ah (ak T 22 b)) fun c=>ae (ah (aY T 22 c)) fun d=>ae (ah (ao T .gtr 3 d (.int .i64 12))) fun e=>M.pure [e])) fun f=>ae (ah (aO a (.bool true) (nth f 0))) fun g=>aB g (ae (ah (ao T .add 3 a1 (.int .i64 1))) fun h=>M.pure h) (fx (L42_1 call fx) [a1,a2,.ip (ab a0),.int .i64 1,.int .i64 0])
def E42(a0 a1 a2:AV):EE 42 Tryz.f42 zv [a0,a1,a2] (fun c x=>S42 c x a0 a1 a2):=fun _ _=>by kernel_rfl
def C42(a0 a1 a2:AV):af pg 42 [a0,a1,a2]=aS (S42 (af pg) ai (cl az a0) (cl az a1) (cl az a2)):=(aC aM rfl rfl rfl _).trans (FX aS (E42 (cl az a0) (cl az a1) (cl az a2) _ _))
def S49(call:CC)(fx:cr AV)(a0:AV):M AV:=ae (ah (ak T 45 (.ip (ab a0)))) fun a=>ae (call 86 [a,.int .i64 4]) fun b=>M.pure b
def E49(a0:AV):EE 49 Tryz.f49 zx [a0] (fun c x=>S49 c x a0):=fun _ _=>by kernel_rfl
def C49(a0:AV):af pg 49 [a0]=aS (S49 (af pg) ai (cl az a0)):=(aC aM rfl rfl rfl _).trans (FX aS (E49 (cl az a0) _ _))
def K54_0(call:CC)(fx:cr AV)(a:RR)(b:List AV):M AV:=ae (ah (bp T 22 1 [(0,nth b 2)])) fun c=>ae (ah (cZ T 22 (nth b 9) c)) fun d=>ae (ah (ao T .sub 3 (nth b 1) (.int .i64 1))) fun e=>ae (call 54 [nth b 0,e]) fun f=>ae (ah (bp T 30 1 [(0,f)])) fun g=>ae (ah (cZ T 30 (nth b 10) g)) fun h=>ae (dJ d) fun i=>ae (dJ h) fun j=>a [nth b 0,nth b 1,nth b 3,nth b 4,nth b 5,nth b 6,nth b 7,nth b 8,d,h]
def K54_1(call:CC)(fx:cr AV)(a:RR)(b:List AV):M AV:=ae (call 94 [nth b 0,.str [61,123,125,44]]) fun c=>jn (K54_0 call fx a) fun d=>ae (call 95 [c]) fun e=>ae (ah (iz UnOp.not e)) fun f=>ae (au f false 1 (ae (call 92 [nth b 0,.str [61]]) fun g=>ae (ah (iz UnOp.not g)) fun h=>M.pure [h])) fun i=>ae (ah (aO f (.bool true) (nth i 0))) fun j=>aB j (ae (ah (bW T false 81 [])) fun k=>ae (ah (dK T 81 k)) fun l=>ae (sr l) fun m=>d [nth b 0,nth b 1,c,nth b 2,nth b 3,nth b 4,nth b 5,nth b 6,nth b 7,nth b 8,nth b 9]) (d [nth b 0,nth b 1,c,nth b 2,nth b 3,nth b 4,nth b 5,nth b 6,nth b 7,nth b 8,nth b 9])
def L54_0(call:CC)(fx:cr AV)(a:RR)(b:List AV):M AV:=ae (call 92 [nth b 0,.str [125]]) fun c=>ae (ah (iz UnOp.not c)) fun d=>aB d (jn (K54_1 call fx a) fun e=>ae (ah (aY T 22 (nth b 8))) fun f=>ae (ah (ao T .gtr 3 f (.int .i64 0))) fun g=>ae (au g true 1 (ae (call 92 [nth b 0,.str [44]]) fun h=>ae (ah (iz UnOp.not h)) fun i=>M.pure [i])) fun j=>ae (ah (aO g (nth j 0) (.bool false))) fun k=>aB k (ae (ah (bW T false 81 [])) fun l=>ae (ah (dK T 81 l)) fun m=>ae (sr m) fun n=>e [nth b 0,nth b 1,nth b 2,nth b 3,nth b 4,nth b 5,nth b 6,nth b 7,nth b 8,nth b 9]) (e [nth b 0,nth b 1,nth b 2,nth b 3,nth b 4,nth b 5,nth b 6,nth b 7,nth b 8,nth b 9])) (ae (aU 4 [] (.agg [nth b 6,nth b 7,nth b 8,nth b 9])) fun o=>M.pure (AV.agg [nth (ab o) 0,nth (ab o) 1,nth (ab o) 2,nth (ab o) 3]))
def K54_2(call:CC)(fx:cr AV)(a:List AV):M AV:=ae (call 92 [nth a 0,.str [123]]) fun b=>ae (ah (iz UnOp.not b)) fun c=>aB c (ae (call 94 [nth a 0,.str [44,125]]) fun d=>ae (call 93 [d]) fun e=>ae (aU 4 [] e) fun f=>M.pure (AV.agg [nth (ab f) 0,nth (ab f) 1,nth (ab f) 2,nth (ab f) 3])) (ae (ah (bW T true 45 [(0,.int .i64 2)])) fun g=>ae (aU 4 [2,3] g) fun h=>fx (L54_0 call fx) [nth a 0,nth a 1,nth a 2,nth a 3,nth a 4,nth a 5,nth (ab h) 0,nth (ab h) 1,.sl [],.sl []])
def XK54_0{call:CC}{a:RR}{b:Nat->RR}(c:a6 a fun n=>b n):a6 (K54_0 call ai a) fun n=>K54_0 call ai (b n):=by
 intro d;unfold K54_0;exact (by(iterate 8 refine lb fun _=>?_);exact (c _))
def XK54_1{call:CC}{a:RR}{b:Nat->RR}(c:a6 a fun n=>b n):a6 (K54_1 call ai a) fun n=>K54_1 call ai (b n):=by
 intro d;unfold K54_1;exact (lb fun _=>(wY (XK54_0 c) fun _ _ e=>(lb fun _=>(lb fun _=>(lb fun _=>(lb fun _=>(aD (lb fun _=>(lb fun _=>(lb fun _=>e _))) (e _))))))))
def XL54_0{call:CC}:cM (L54_0 call ai) fun _n=>L54_0 call ai  :=by
 intro a b c d;unfold L54_0;exact (lb fun _=>(lb fun _=>(aD (wY (XK54_1 c) fun _ _ e=>(lb fun _=>(lb fun _=>(lb fun _=>(lb fun _=>(aD (lb fun _=>(lb fun _=>(lb fun _=>e _))) (e _))))))) (aE.const _))))
def FL54_0(call:CC)(vs:List AV):ai (L54_0 call ai) vs=L54_0 call ai  (ai (L54_0 call ai)) vs:=bR (XL54_0) vs
def S54(call:CC)(fx:cr AV)(a0 a1:AV):M AV:=jn (K54_2 call fx) fun a=>ae (ah (ao T .eql 3 a1 (.int .i64 0))) fun b=>aB b (ae (ah (bW T false 81 [])) fun c=>ae (ah (dK T 81 c)) fun d=>ae (sr d) fun e=>a [a0,a1,.int .i64 0,.int .i64 0,.sl [],.sl []]) (a [a0,a1,.int .i64 0,.int .i64 0,.sl [],.sl []])
def E54(a0 a1:AV):EE 54 Tryz.f54 zA [a0,a1] (fun c x=>S54 c x a0 a1):=fun _ _=>by kernel_rfl
def C54(a0 a1:AV):af pg 54 [a0,a1]=S54 (af pg) ai a0 a1:=(ic aM rfl rfl rfl _).trans (E54 a0 a1 _ _)
def S55(call:CC)(fx:cr AV)(a0 a1:AV):M AV:=ae (ah (aa T 35 (.ip (ab a0)) 0)) fun a=>ae (ah (ak T 3 a)) fun b=>ae (ah (aa T 45 (.ip (ab a1)) 0)) fun c=>ae (ah (ak T 3 c)) fun d=>ae (ah (ao T .eql 3 b d)) fun e=>ae (au e true 1 (ae (ah (aa T 35 (.ip (ab a0)) 1)) fun f=>ae (ah (ak T 23 f)) fun g=>ae (call 96 [g,.fn (Fn.func 97) [] [.ip (ab a1)]]) fun h=>ae (ah (iz UnOp.not h)) fun i=>M.pure [i])) fun j=>ae (ah (aO e (nth j 0) (.bool false))) fun k=>M.pure k
def E55(a0 a1:AV):EE 55 Tryz.f55 zB [a0,a1] (fun c x=>S55 c x a0 a1):=fun _ _=>by kernel_rfl
def C55(a0 a1:AV):af pg 55 [a0,a1]=aS (S55 (af pg) ai (cl az a0) (cl az a1)):=(aC aM rfl rfl rfl _).trans (FX aS (E55 (cl az a0) (cl az a1) _ _))
def S88(call:CC)(fx:cr AV)(a0:AV):M AV:=aB a0 (M.pure (AV.str [116,114,117,101])) (M.pure (AV.str [102,97,108,115,101]))
def E88(a0:AV):EE 88 Tryz.f88 zF [a0] (fun c x=>S88 c x a0):=fun _ _=>by kernel_rfl
def C88(a0:AV):af pg 88 [a0]=aS (S88 (af pg) ai (cl az a0)):=(aC aM rfl rfl rfl _).trans (FX aS (E88 (cl az a0) _ _))
def K94_0(call:CC)(fx:cr AV)(a:List AV):M AV:=ae (ah (db (nth a 0))) fun b=>ae (ah (aa T 85 b 0)) fun c=>ae (eK T 9 c) fun d=>ae (ah (eb T 9 d none (some (nth a 1)) none)) fun e=>ae (ah (db (nth a 0))) fun f=>ae (ah (aa T 85 f 0)) fun g=>ae (eK T 9 g) fun h=>ae (ah (eb T 9 h (some (nth a 1)) none none)) fun i=>ae (ah (db (nth a 0))) fun j=>ae (ah (aa T 85 j 0)) fun k=>ae (fo T 9 k i) fun l=>M.pure e
def S94(call:CC)(fx:cr AV)(a0 a1:AV):M AV:=ae (ah (db a0)) fun a=>ae (ah (aa T 85 a 0)) fun b=>ae (eK T 9 b) fun c=>ae (call 142 [c,a1]) fun d=>jn (K94_0 call fx) fun e=>ae (ah (ao T .lss 3 d (.int .i64 0))) fun f=>aB f (ae (ah (db a0)) fun g=>ae (ah (aa T 85 g 0)) fun h=>ae (eK T 9 h) fun i=>ae (ah (aY T 9 i)) fun j=>e [a0,j]) (e [a0,d])
def E94(a0 a1:AV):EE 94 Tryz.f94 zI [a0,a1] (fun c x=>S94 c x a0 a1):=fun _ _=>by kernel_rfl
def C94(a0 a1:AV):af pg 94 [a0,a1]=S94 (af pg) ai a0 a1:=(ic aM rfl rfl rfl _).trans (E94 a0 a1 _ _)
def S119(call:CC)(fx:cr AV)(a0:AV):M AV:=ae (call 158 [a0]) fun a=>ae (au a true 1 (ae (ah (ao T .add 9 (.str [32]) a0)) fun b=>ae (ah (ao T .add 9 b (.str [32]))) fun c=>ae (call 159 [.str [32,97,110,100,32,98,97,99,107,32,98,111,111,108,32,99,108,111,99,107,32,101,108,115,101,32,102,97,108,115,101,32,102,105,108,101,115,32,102,110,32,102,111,114,119,97,114,100,32,103,101,116,32,105,102,32,105,110,32,105,110,116,32,108,101,116,32,109,111,100,117,108,101,32,109,111,118,101,32,110,101,116,32,110,111,116,32,111,114,32,112,117,98,32,115,101,99,114,101,116,115,32,115,101,116,32,116,104,101,110,32,116,114,117,101,32,117,115,101,32,118,97,114,32],c]) fun d=>ae (ah (iz UnOp.not d)) fun e=>M.pure [e])) fun f=>ae (ah (aO a (nth f 0) (.bool false))) fun g=>M.pure g
def E119(a0:AV):EE 119 Tryz.f119 vC [a0] (fun c x=>S119 c x a0):=fun _ _=>by kernel_rfl
def C119(a0:AV):af pg 119 [a0]=aS (S119 (af pg) ai (cl az a0)):=(aC aM rfl rfl rfl _).trans (FX aS (E119 (cl az a0) _ _))
def L212_0(call:CC)(fx:cr AV)(a:RR)(b:List AV):M AV:=ae (ah (ao T .lss 3 (nth b 3) (nth b 2))) fun c=>aB c (ae (ah (ax T 25 (nth b 0) (nth b 3))) fun d=>ae (ah (ak T 68 d)) fun e=>ae (b7 call (nth b 1) [e]) fun f=>aB f (M.pure (nth b 3)) (ae (ah (ao T .add 3 (nth b 3) (.int .i64 1))) fun g=>a [nth b 0,nth b 1,nth b 2,g])) (M.pure (AV.int .i64 (-1)))
def XL212_0{call:CC}:cM (L212_0 call ai) fun _n=>L212_0 call ai  :=by
 intro a b c d;unfold L212_0;exact (lb fun _=>(aD (lb fun _=>(lb fun _=>(lb fun _=>(aD (aE.const _) (lb fun _=>c _))))) (aE.const _)))
def FL212_0(call:CC)(vs:List AV):ai (L212_0 call ai) vs=L212_0 call ai  (ai (L212_0 call ai)) vs:=bR (XL212_0) vs
def S212(call:CC)(fx:cr AV)(a0 a1:AV):M AV:=ae (ah (aY T 25 a0)) fun a=>fx (L212_0 call fx) [a0,a1,a,.int .i64 0]
def E212(a0 a1:AV):EE 212 Tryz.f212 vR [a0,a1] (fun c x=>S212 c x a0 a1):=fun _ _=>by kernel_rfl
def C212(a0 a1:AV):af pg 212 [a0,a1]=aS (S212 (af pg) ai (cl az a0) (cl az a1)):=(aC aM rfl rfl rfl _).trans (FX aS (E212 (cl az a0) (cl az a1) _ _))
def S230(call:CC)(fx:cr AV)(a0 a1:AV):M AV:=ae (ah (aY T 9 a0)) fun a=>ae (ah (aY T 9 a1)) fun b=>ae (ah (ao T .geq 3 a b)) fun c=>ae (au c true 1 (ae (ah (aY T 9 a1)) fun d=>ae (ah (eb T 9 a0 none (some d) none)) fun e=>ae (ah (ao T .eql 9 e a1)) fun f=>M.pure [f])) fun g=>ae (ah (aO c (nth g 0) (.bool false))) fun h=>M.pure h
def E230(a0 a1:AV):EE 230 Tryz.f230 vS [a0,a1] (fun c x=>S230 c x a0 a1):=fun _ _=>by kernel_rfl
def C230(a0 a1:AV):af pg 230 [a0,a1]=aS (S230 (af pg) ai (cl az a0) (cl az a1)):=(aC aM rfl rfl rfl _).trans (FX aS (E230 (cl az a0) (cl az a1) _ _))
def L48_0(call:CC)(fx:cr AV)(a:RR)(b:List AV):M AV:=ae (ah (aa T 35 (nth b 2) 1)) fun c=>ae (ah (ak T 23 c)) fun d=>ae (ah (aY T 23 d)) fun e=>ae (ah (ao T .lss 3 (nth b 4) e)) fun f=>ae (au f true 1 (ae (ah (ao T .leq 3 (nth b 3) (nth b 0))) fun g=>M.pure [g])) fun h=>ae (ah (aO f (nth h 0) (.bool false))) fun i=>aB i (ae (ah (aa T 35 (nth b 2) 1)) fun j=>ae (ah (ak T 23 j)) fun k=>ae (ah (ax T 23 k (nth b 4))) fun l=>ae (ah (aa T 37 l 0)) fun m=>ae (ah (ak T 9 m)) fun n=>ae (ah (aY T 9 n)) fun o=>ae (ah (ao T .gtr 3 o (.int .i64 60))) fun p=>aB p (ae (ah (ao T .add 3 (nth b 0) (.int .i64 1))) fun q=>M.pure q) (ae (ah (aa T 35 (nth b 2) 1)) fun r=>ae (ah (ak T 23 r)) fun s=>ae (ah (ax T 23 s (nth b 4))) fun u=>ae (ah (aa T 37 u 1)) fun v=>ae (ah (ak T 35 v)) fun w=>ae (ah (ao T .sub 3 (nth b 0) (nth b 3))) fun x=>ae (ah (ao T .sub 3 (nth b 1) (.int .i64 1))) fun y=>ae (call 48 [w,x,y]) fun z=>ae (ah (ao T .add 3 (nth b 3) z)) fun A=>ae (ah (ao T .add 3 (nth b 4) (.int .i64 1))) fun B=>a [nth b 0,nth b 1,nth b 2,A,B])) (M.pure (nth b 3))
def XL48_0{call:CC}:cM (L48_0 call ai) fun _n=>L48_0 call ai  :=by
 intro a b c d;unfold L48_0;exact (by(iterate 6 refine lb fun _=>?_);exact (aD (by(iterate 7 refine lb fun _=>?_);exact (aD (aE.const _) (by(iterate 10 refine lb fun _=>?_);exact (c _)))) (aE.const _)))
def FL48_0(call:CC)(vs:List AV):ai (L48_0 call ai) vs=L48_0 call ai  (ai (L48_0 call ai)) vs:=bR (XL48_0) vs
def S48(call:CC)(fx:cr AV)(a0 a1 a2:AV):M AV:=ae (ah (ao T .lss 3 a2 (.int .i64 1))) fun a=>ae (au a false 1 (ae (ah (aa T 35 (.ip (ab a0)) 1)) fun b=>ae (ah (ak T 23 b)) fun c=>ae (ah (aY T 23 c)) fun d=>ae (ah (ao T .gtr 3 d (.int .i64 12))) fun e=>M.pure [e])) fun f=>ae (ah (aO a (.bool true) (nth f 0))) fun g=>aB g (ae (ah (ao T .add 3 a1 (.int .i64 1))) fun h=>M.pure h) (fx (L48_0 call fx) [a1,a2,.ip (ab a0),.int .i64 1,.int .i64 0])
def E48(a0 a1 a2:AV):EE 48 Tryz.f48 zw [a0,a1,a2] (fun c x=>S48 c x a0 a1 a2):=fun _ _=>by kernel_rfl
def C48(a0 a1 a2:AV):af pg 48 [a0,a1,a2]=aS (S48 (af pg) ai (cl az a0) (cl az a1) (cl az a2)):=(aC aM rfl rfl rfl _).trans (FX aS (E48 (cl az a0) (cl az a1) (cl az a2) _ _))
def S51(call:CC)(fx:cr AV)(a0:AV):M AV:=ae (call 88 [a0]) fun a=>M.pure a
def E51(a0:AV):EE 51 Tryz.f51 zy [a0] (fun c x=>S51 c x a0):=fun _ _=>by kernel_rfl
def C51(a0:AV):af pg 51 [a0]=aS (S51 (af pg) ai (cl az a0)):=(aC aM rfl rfl rfl _).trans (FX aS (E51 (cl az a0) _ _))
def S56(call:CC)(fx:cr AV)(a0:AV):M AV:=ae (ah (ak T 35 (.ip (ab a0)))) fun a=>ae (call 99 [a,.int .i64 4]) fun b=>M.pure b
def E56(a0:AV):EE 56 Tryz.f56 zC [a0] (fun c x=>S56 c x a0):=fun _ _=>by kernel_rfl
def C56(a0:AV):af pg 56 [a0]=aS (S56 (af pg) ai (cl az a0)):=(aC aM rfl rfl rfl _).trans (FX aS (E56 (cl az a0) _ _))
def L81_0(call:CC)(fx:cr AV)(a:RR)(b:List AV):M AV:=ae (ah (ao T .lss 3 (nth b 3) (nth b 2))) fun c=>aB c (ae (ah (ax T 23 (nth b 0) (nth b 3))) fun d=>ae (ah (ak T 37 d)) fun e=>ae (b7 call (nth b 1) [e]) fun f=>aB f (M.pure (nth b 3)) (ae (ah (ao T .add 3 (nth b 3) (.int .i64 1))) fun g=>a [nth b 0,nth b 1,nth b 2,g])) (M.pure (AV.int .i64 (-1)))
def XL81_0{call:CC}:cM (L81_0 call ai) fun _n=>L81_0 call ai  :=by
 intro a b c d;unfold L81_0;exact (lb fun _=>(aD (lb fun _=>(lb fun _=>(lb fun _=>(aD (aE.const _) (lb fun _=>c _))))) (aE.const _)))
def FL81_0(call:CC)(vs:List AV):ai (L81_0 call ai) vs=L81_0 call ai  (ai (L81_0 call ai)) vs:=bR (XL81_0) vs
def S81(call:CC)(fx:cr AV)(a0 a1:AV):M AV:=ae (ah (aY T 23 a0)) fun a=>fx (L81_0 call fx) [a0,a1,a,.int .i64 0]
def E81(a0 a1:AV):EE 81 Tryz.f81 zD [a0,a1] (fun c x=>S81 c x a0 a1):=fun _ _=>by kernel_rfl
def C81(a0 a1:AV):af pg 81 [a0,a1]=aS (S81 (af pg) ai (cl az a0) (cl az a1)):=(aC aM rfl rfl rfl _).trans (FX aS (E81 (cl az a0) (cl az a1) _ _))
def S136(call:CC)(fx:cr AV)(a0 a1:AV):M AV:=ae (ah (ak T 45 (.ip (ab a0)))) fun a=>ae (ah (ak T 3 a1)) fun b=>ae (ah (ao T .sub 3 b (.int .i64 1))) fun c=>ae (call 86 [a,c]) fun d=>ae (ah (iz UnOp.not d)) fun e=>M.pure e
def E136(a0 a1:AV):EE 136 Tryz.f136 vF [a0,a1] (fun c x=>S136 c x a0 a1):=fun _ _=>by kernel_rfl
def C136(a0 a1:AV):af pg 136 [a0,a1]=aS (S136 (af pg) ai (cl az a0) (cl az a1)):=(aC aM rfl rfl rfl _).trans (FX aS (E136 (cl az a0) (cl az a1) _ _))
def L164_0(call:CC)(fx:cr AV)(a:RR)(b:List AV):M AV:=ae (ah (ao T .lss 3 (nth b 3) (nth b 2))) fun c=>aB c (ae (ah (ax T 30 (nth b 0) (nth b 3))) fun d=>ae (ah (ak T 45 d)) fun e=>ae (b7 call (nth b 1) [e]) fun f=>aB f (M.pure (nth b 3)) (ae (ah (ao T .add 3 (nth b 3) (.int .i64 1))) fun g=>a [nth b 0,nth b 1,nth b 2,g])) (M.pure (AV.int .i64 (-1)))
def XL164_0{call:CC}:cM (L164_0 call ai) fun _n=>L164_0 call ai  :=by
 intro a b c d;unfold L164_0;exact (lb fun _=>(aD (lb fun _=>(lb fun _=>(lb fun _=>(aD (aE.const _) (lb fun _=>c _))))) (aE.const _)))
def FL164_0(call:CC)(vs:List AV):ai (L164_0 call ai) vs=L164_0 call ai  (ai (L164_0 call ai)) vs:=bR (XL164_0) vs
def S164(call:CC)(fx:cr AV)(a0 a1:AV):M AV:=ae (ah (aY T 30 a0)) fun a=>fx (L164_0 call fx) [a0,a1,a,.int .i64 0]
def E164(a0 a1:AV):EE 164 Tryz.f164 vI [a0,a1] (fun c x=>S164 c x a0 a1):=fun _ _=>by kernel_rfl
def C164(a0 a1:AV):af pg 164 [a0,a1]=aS (S164 (af pg) ai (cl az a0) (cl az a1)):=(aC aM rfl rfl rfl _).trans (FX aS (E164 (cl az a0) (cl az a1) _ _))
def K167_0(call:CC)(fx:cr AV)(a:List AV):M AV:=aB (nth a 0) (M.pure (AV.int .i64 (-1))) (M.pure (AV.int .i64 (-2)))
def K167_1(call:CC)(fx:cr AV)(a:List AV):M AV:=aB (nth a 1) (M.pure (AV.int .i64 2)) (ae (ah (ao T .eql 3 (nth a 0) (.int .i64 11))) fun b=>aB b (M.pure (AV.int .i64 3)) (jn (K167_0 call fx) fun c=>ae (ah (ao T .eql 3 (nth a 0) (.int .i64 13))) fun d=>aB d (c [d]) (ae (ah (ao T .eql 3 (nth a 0) (.int .i64 15))) fun e=>c [e])))
def K167_2(call:CC)(fx:cr AV)(a:List AV):M AV:=aB (nth a 1) (M.pure (AV.int .i64 1)) (jn (K167_1 call fx) fun b=>ae (ah (ao T .eql 3 (nth a 0) (.int .i64 3))) fun c=>aB c (b [nth a 0,c]) (ae (ah (ao T .eql 3 (nth a 0) (.int .i64 4))) fun d=>aB d (b [nth a 0,d]) (ae (ah (ao T .eql 3 (nth a 0) (.int .i64 5))) fun e=>aB e (b [nth a 0,e]) (ae (ah (ao T .eql 3 (nth a 0) (.int .i64 6))) fun f=>aB f (b [nth a 0,f]) (ae (ah (ao T .eql 3 (nth a 0) (.int .i64 7))) fun g=>aB g (b [nth a 0,g]) (ae (ah (ao T .eql 3 (nth a 0) (.int .i64 8))) fun h=>aB h (b [nth a 0,h]) (ae (ah (ao T .eql 3 (nth a 0) (.int .i64 9))) fun i=>aB i (b [nth a 0,i]) (ae (ah (ao T .eql 3 (nth a 0) (.int .i64 12))) fun j=>b [nth a 0,j]))))))))
def K167_3(call:CC)(fx:cr AV)(a:List AV):M AV:=aB (nth a 1) (M.pure (AV.int .i64 0)) (jn (K167_2 call fx) fun b=>ae (ah (ao T .eql 3 (nth a 0) (.int .i64 10))) fun c=>aB c (b [nth a 0,c]) (ae (ah (ao T .eql 3 (nth a 0) (.int .i64 14))) fun d=>aB d (b [nth a 0,d]) (ae (ah (ao T .eql 3 (nth a 0) (.int .i64 16))) fun e=>aB e (b [nth a 0,e]) (ae (ah (ao T .eql 3 (nth a 0) (.int .i64 18))) fun f=>b [nth a 0,f]))))
def S167(call:CC)(fx:cr AV)(a0:AV):M AV:=jn (K167_3 call fx) fun a=>ae (ah (ao T .eql 3 a0 (.int .i64 0))) fun b=>aB b (a [a0,b]) (ae (ah (ao T .eql 3 a0 (.int .i64 1))) fun c=>aB c (a [a0,c]) (ae (ah (ao T .eql 3 a0 (.int .i64 2))) fun d=>aB d (a [a0,d]) (ae (ah (ao T .eql 3 a0 (.int .i64 17))) fun e=>a [a0,e])))
def E167(a0:AV):EE 167 Tryz.f167 vJ [a0] (fun c x=>S167 c x a0):=fun _ _=>by kernel_rfl
def C167(a0:AV):af pg 167 [a0]=aS (S167 (af pg) ai (cl az a0)):=(aC aM rfl rfl rfl _).trans (FX aS (E167 (cl az a0) _ _))
def S182(call:CC)(fx:cr AV)(a0 a1:AV):M AV:=ae (call 230 [a0,a1]) fun a=>ae (ah (iz UnOp.not a)) fun b=>aB b (M.pure (AV.tup [a0,.bool false])) (ae (ah (aY T 9 a1)) fun c=>ae (ah (eb T 9 a0 (some c) none none)) fun d=>M.pure (AV.tup [d,.bool true]))
def E182(a0 a1:AV):EE 182 Tryz.f182 vL [a0,a1] (fun c x=>S182 c x a0 a1):=fun _ _=>by kernel_rfl
def C182(a0 a1:AV):af pg 182 [a0,a1]=aS (S182 (af pg) ai (cl az a0) (cl az a1)):=(aC aM rfl rfl rfl _).trans (FX aS (E182 (cl az a0) (cl az a1) _ _))
def S207(call:CC)(fx:cr AV)(a0:AV):M AV:=ae (call 205 [a0]) fun a=>ae (au a false 1 (ae (call 208 [a0]) fun b=>M.pure [b])) fun c=>ae (ah (aO a (.bool true) (nth c 0))) fun d=>M.pure d
def E207(a0:AV):EE 207 Tryz.f207 vP [a0] (fun c x=>S207 c x a0):=fun _ _=>by kernel_rfl
def C207(a0:AV):af pg 207 [a0]=aS (S207 (af pg) ai (cl az a0)):=(aC aM rfl rfl rfl _).trans (FX aS (E207 (cl az a0) _ _))
@[simp] theorem FA27_0(cs:List AV):aa T 27 (.ip cs) 0=some (.ip (cs.drop 0)):=rfl
@[simp] theorem FH27_0(l k:Nat):aa T 27 (.hp l k) 0=some (.hp l (k+0)):=rfl
@[simp] theorem FA27_1(cs:List AV):aa T 27 (.ip cs) 1=some (.ip (cs.drop 1)):=rfl
@[simp] theorem FH27_1(l k:Nat):aa T 27 (.hp l k) 1=some (.hp l (k+1)):=rfl
@[simp] theorem FA27_2(cs:List AV):aa T 27 (.ip cs) 2=some (.ip (cs.drop 2)):=rfl
@[simp] theorem FH27_2(l k:Nat):aa T 27 (.hp l k) 2=some (.hp l (k+2)):=rfl
@[simp] theorem FA29_0(cs:List AV):aa T 29 (.ip cs) 0=some (.ip (cs.drop 0)):=rfl
@[simp] theorem FH29_0(l k:Nat):aa T 29 (.hp l k) 0=some (.hp l (k+0)):=rfl
@[simp] theorem FA29_2(cs:List AV):aa T 29 (.ip cs) 2=some (.ip (cs.drop 2)):=rfl
@[simp] theorem FH29_2(l k:Nat):aa T 29 (.hp l k) 2=some (.hp l (k+2)):=rfl
@[simp] theorem FA29_4(cs:List AV):aa T 29 (.ip cs) 4=some (.ip (cs.drop 4)):=rfl
@[simp] theorem FH29_4(l k:Nat):aa T 29 (.hp l k) 4=some (.hp l (k+4)):=rfl
@[simp] theorem FA29_5(cs:List AV):aa T 29 (.ip cs) 5=some (.ip (cs.drop 5)):=rfl
@[simp] theorem FH29_5(l k:Nat):aa T 29 (.hp l k) 5=some (.hp l (k+5)):=rfl
@[simp] theorem FA29_6(cs:List AV):aa T 29 (.ip cs) 6=some (.ip (cs.drop 6)):=rfl
@[simp] theorem FH29_6(l k:Nat):aa T 29 (.hp l k) 6=some (.hp l (k+6)):=rfl
@[simp] theorem FA35_0(cs:List AV):aa T 35 (.ip cs) 0=some (.ip (cs.drop 0)):=rfl
@[simp] theorem FH35_0(l k:Nat):aa T 35 (.hp l k) 0=some (.hp l (k+0)):=rfl
@[simp] theorem FA35_1(cs:List AV):aa T 35 (.ip cs) 1=some (.ip (cs.drop 1)):=rfl
@[simp] theorem FH35_1(l k:Nat):aa T 35 (.hp l k) 1=some (.hp l (k+1)):=rfl
@[simp] theorem FA37_0(cs:List AV):aa T 37 (.ip cs) 0=some (.ip (cs.drop 0)):=rfl
@[simp] theorem FH37_0(l k:Nat):aa T 37 (.hp l k) 0=some (.hp l (k+0)):=rfl
@[simp] theorem FA37_1(cs:List AV):aa T 37 (.ip cs) 1=some (.ip (cs.drop 1)):=rfl
@[simp] theorem FH37_1(l k:Nat):aa T 37 (.hp l k) 1=some (.hp l (k+1)):=rfl
@[simp] theorem FA45_0(cs:List AV):aa T 45 (.ip cs) 0=some (.ip (cs.drop 0)):=rfl
@[simp] theorem FH45_0(l k:Nat):aa T 45 (.hp l k) 0=some (.hp l (k+0)):=rfl
@[simp] theorem FA45_1(cs:List AV):aa T 45 (.ip cs) 1=some (.ip (cs.drop 1)):=rfl
@[simp] theorem FH45_1(l k:Nat):aa T 45 (.hp l k) 1=some (.hp l (k+1)):=rfl
@[simp] theorem FA45_2(cs:List AV):aa T 45 (.ip cs) 2=some (.ip (cs.drop 2)):=rfl
@[simp] theorem FH45_2(l k:Nat):aa T 45 (.hp l k) 2=some (.hp l (k+2)):=rfl
@[simp] theorem FA45_3(cs:List AV):aa T 45 (.ip cs) 3=some (.ip (cs.drop 3)):=rfl
@[simp] theorem FH45_3(l k:Nat):aa T 45 (.hp l k) 3=some (.hp l (k+3)):=rfl
@[simp] theorem FA66_0(cs:List AV):aa T 66 (.ip cs) 0=some (.ip (cs.drop 0)):=rfl
@[simp] theorem FH66_0(l k:Nat):aa T 66 (.hp l k) 0=some (.hp l (k+0)):=rfl
@[simp] theorem FA66_1(cs:List AV):aa T 66 (.ip cs) 1=some (.ip (cs.drop 1)):=rfl
@[simp] theorem FH66_1(l k:Nat):aa T 66 (.hp l k) 1=some (.hp l (k+1)):=rfl
@[simp] theorem FA66_2(cs:List AV):aa T 66 (.ip cs) 2=some (.ip (cs.drop 2)):=rfl
@[simp] theorem FH66_2(l k:Nat):aa T 66 (.hp l k) 2=some (.hp l (k+2)):=rfl
@[simp] theorem FA66_3(cs:List AV):aa T 66 (.ip cs) 3=some (.ip (cs.drop 3)):=rfl
@[simp] theorem FH66_3(l k:Nat):aa T 66 (.hp l k) 3=some (.hp l (k+3)):=rfl
@[simp] theorem FA66_4(cs:List AV):aa T 66 (.ip cs) 4=some (.ip (cs.drop 4)):=rfl
@[simp] theorem FH66_4(l k:Nat):aa T 66 (.hp l k) 4=some (.hp l (k+4)):=rfl
@[simp] theorem FA66_5(cs:List AV):aa T 66 (.ip cs) 5=some (.ip (cs.drop 5)):=rfl
@[simp] theorem FH66_5(l k:Nat):aa T 66 (.hp l k) 5=some (.hp l (k+5)):=rfl
@[simp] theorem FA68_0(cs:List AV):aa T 68 (.ip cs) 0=some (.ip (cs.drop 0)):=rfl
@[simp] theorem FH68_0(l k:Nat):aa T 68 (.hp l k) 0=some (.hp l (k+0)):=rfl
@[simp] theorem FA68_1(cs:List AV):aa T 68 (.ip cs) 1=some (.ip (cs.drop 1)):=rfl
@[simp] theorem FH68_1(l k:Nat):aa T 68 (.hp l k) 1=some (.hp l (k+1)):=rfl
@[simp] theorem FA68_2(cs:List AV):aa T 68 (.ip cs) 2=some (.ip (cs.drop 2)):=rfl
@[simp] theorem FH68_2(l k:Nat):aa T 68 (.hp l k) 2=some (.hp l (k+2)):=rfl
@[simp] theorem FA68_5(cs:List AV):aa T 68 (.ip cs) 5=some (.ip (cs.drop 6)):=rfl
@[simp] theorem FH68_5(l k:Nat):aa T 68 (.hp l k) 5=some (.hp l (k+6)):=rfl
@[simp] theorem FA85_0(cs:List AV):aa T 85 (.ip cs) 0=some (.ip (cs.drop 0)):=rfl
@[simp] theorem FH85_0(l k:Nat):aa T 85 (.hp l k) 0=some (.hp l (k+0)):=rfl
@[simp] theorem FA94_1(cs:List AV):aa T 94 (.ip cs) 1=some (.ip (cs.drop 1)):=rfl
@[simp] theorem FH94_1(l k:Nat):aa T 94 (.hp l k) 1=some (.hp l (k+1)):=rfl
@[simp] theorem FA162_2(cs:List AV):aa T 162 (.ip cs) 2=some (.ip (cs.drop 5)):=rfl
@[simp] theorem FH162_2(l k:Nat):aa T 162 (.hp l k) 2=some (.hp l (k+5)):=rfl
@[simp] theorem FA162_3(cs:List AV):aa T 162 (.ip cs) 3=some (.ip (cs.drop 6)):=rfl
@[simp] theorem FH162_3(l k:Nat):aa T 162 (.hp l k) 3=some (.hp l (k+6)):=rfl
@[simp] theorem FA162_4(cs:List AV):aa T 162 (.ip cs) 4=some (.ip (cs.drop 7)):=rfl
@[simp] theorem FH162_4(l k:Nat):aa T 162 (.hp l k) 4=some (.hp l (k+7)):=rfl
@[simp] theorem FA164_0(cs:List AV):aa T 164 (.ip cs) 0=some (.ip (cs.drop 0)):=rfl
@[simp] theorem FH164_0(l k:Nat):aa T 164 (.hp l k) 0=some (.hp l (k+0)):=rfl
@[simp] theorem FA164_1(cs:List AV):aa T 164 (.ip cs) 1=some (.ip (cs.drop 1)):=rfl
@[simp] theorem FH164_1(l k:Nat):aa T 164 (.hp l k) 1=some (.hp l (k+1)):=rfl
@[simp] theorem FA164_2(cs:List AV):aa T 164 (.ip cs) 2=some (.ip (cs.drop 2)):=rfl
@[simp] theorem FH164_2(l k:Nat):aa T 164 (.hp l k) 2=some (.hp l (k+2)):=rfl
@[simp] theorem FA164_3(cs:List AV):aa T 164 (.ip cs) 3=some (.ip (cs.drop 3)):=rfl
@[simp] theorem FH164_3(l k:Nat):aa T 164 (.hp l k) 3=some (.hp l (k+3)):=rfl
@[simp] theorem FA164_4(cs:List AV):aa T 164 (.ip cs) 4=some (.ip (cs.drop 4)):=rfl
@[simp] theorem FH164_4(l k:Nat):aa T 164 (.hp l k) 4=some (.hp l (k+4)):=rfl
@[simp] theorem FA168_0(cs:List AV):aa T 168 (.ip cs) 0=some (.ip (cs.drop 0)):=rfl
@[simp] theorem FH168_0(l k:Nat):aa T 168 (.hp l k) 0=some (.hp l (k+0)):=rfl
@[simp] theorem FA168_1(cs:List AV):aa T 168 (.ip cs) 1=some (.ip (cs.drop 1)):=rfl
@[simp] theorem FH168_1(l k:Nat):aa T 168 (.hp l k) 1=some (.hp l (k+1)):=rfl
@[simp] theorem FA168_2(cs:List AV):aa T 168 (.ip cs) 2=some (.ip (cs.drop 2)):=rfl
@[simp] theorem FH168_2(l k:Nat):aa T 168 (.hp l k) 2=some (.hp l (k+2)):=rfl
@[simp] theorem LD3(x:AV)(l:List AV):ak T 3 (.ip (x:: l))=some x:=rfl
@[simp] theorem LD4(x:AV)(l:List AV):ak T 4 (.ip (x:: l))=some x:=rfl
@[simp] theorem LD9(x:AV)(l:List AV):ak T 9 (.ip (x:: l))=some x:=rfl
@[simp] theorem LD22(x:AV)(l:List AV):ak T 22 (.ip (x:: l))=some x:=rfl
@[simp] theorem LD23(x:AV)(l:List AV):ak T 23 (.ip (x:: l))=some x:=rfl
@[simp] theorem LD24(x:AV)(l:List AV):ak T 24 (.ip (x:: l))=some x:=rfl
@[simp] theorem LD25(x:AV)(l:List AV):ak T 25 (.ip (x:: l))=some x:=rfl
@[simp] theorem LD27(cs:List AV):ak T 27 (.ip cs)=if 3<=cs.length then some (.agg (cs.take 3))else none:=rfl
@[simp] theorem LD29(cs:List AV):ak T 29 (.ip cs)=if 9<=cs.length then some (.agg (cs.take 9))else none:=rfl
@[simp] theorem LD30(x:AV)(l:List AV):ak T 30 (.ip (x:: l))=some x:=rfl
@[simp] theorem LD35(cs:List AV):ak T 35 (.ip cs)=if 2<=cs.length then some (.agg (cs.take 2))else none:=rfl
@[simp] theorem LD37(cs:List AV):ak T 37 (.ip cs)=if 3<=cs.length then some (.agg (cs.take 3))else none:=rfl
@[simp] theorem LD45(cs:List AV):ak T 45 (.ip cs)=if 4<=cs.length then some (.agg (cs.take 4))else none:=rfl
@[simp] theorem LD66(cs:List AV):ak T 66 (.ip cs)=if 6<=cs.length then some (.agg (cs.take 6))else none:=rfl
@[simp] theorem LD68(cs:List AV):ak T 68 (.ip cs)=if 12<=cs.length then some (.agg (cs.take 12))else none:=rfl
@[simp] theorem LD89(x:AV)(l:List AV):ak T 89 (.ip (x:: l))=some x:=rfl
@[simp] theorem LD92(x:AV)(l:List AV):ak T 92 (.ip (x:: l))=some x:=rfl
@[simp] theorem LD157(x:AV)(l:List AV):ak T 157 (.ip (x:: l))=some x:=rfl
@[simp] theorem LD158(x:AV)(l:List AV):ak T 158 (.ip (x:: l))=some x:=rfl
@[simp] theorem LD159(x:AV)(l:List AV):ak T 159 (.ip (x:: l))=some x:=rfl
@[simp] theorem LD160(x:AV)(l:List AV):ak T 160 (.ip (x:: l))=some x:=rfl
@[simp] theorem LD168(cs:List AV):ak T 168 (.ip cs)=if 3<=cs.length then some (.agg (cs.take 3))else none:=rfl
@[simp] theorem Er(s:aJ):aY T 9 (.str s)=some (.int .i64 s.length):=rfl
@[simp] theorem Cl(es:List AV):aY T 22 (.sl es)=some (.int .i64 es.length):=rfl
@[simp] theorem EF:aY T 22 .hn=some (.int .i64 0):=rfl
@[simp] theorem Ex(l k n s:Nat)(a:Bool):aY T 22 (.hs l k n s a)=some (.int .i64 n):=rfl
@[simp] theorem jh(l:List aJ):aY T 22 (strs l)=some (.int .i64 l.length):=(Cl _).trans (by simp)
@[simp] theorem Cm(es:List AV):aY T 23 (.sl es)=some (.int .i64 es.length):=rfl
@[simp] theorem EG:aY T 23 .hn=some (.int .i64 0):=rfl
@[simp] theorem Ey(l k n s:Nat)(a:Bool):aY T 23 (.hs l k n s a)=some (.int .i64 n):=rfl
@[simp] theorem Ag(l:List dQ):aY T 23 (cj l)=some (.int .i64 l.length):=(Cm _).trans (by simp[eW])
@[simp] theorem Cn(es:List AV):aY T 24 (.sl es)=some (.int .i64 es.length):=rfl
@[simp] theorem EH:aY T 24 .hn=some (.int .i64 0):=rfl
@[simp] theorem Ez(l k n s:Nat)(a:Bool):aY T 24 (.hs l k n s a)=some (.int .i64 n):=rfl
@[simp] theorem Es(l:List Exp):aY T 24 (ga l)=some (.int .i64 l.length):=(Cn _).trans (by simp[im])
@[simp] theorem Co(es:List AV):aY T 25 (.sl es)=some (.int .i64 es.length):=rfl
@[simp] theorem EI:aY T 25 .hn=some (.int .i64 0):=rfl
@[simp] theorem EA(l k n s:Nat)(a:Bool):aY T 25 (.hs l k n s a)=some (.int .i64 n):=rfl
@[simp] theorem Et(l:List Fun):aY T 25 (lE l)=some (.int .i64 l.length):=(Co _).trans (by simp)
@[simp] theorem Cp(es:List AV):aY T 30 (.sl es)=some (.int .i64 es.length):=rfl
@[simp] theorem EJ:aY T 30 .hn=some (.int .i64 0):=rfl
@[simp] theorem EB(l k n s:Nat)(a:Bool):aY T 30 (.hs l k n s a)=some (.int .i64 n):=rfl
@[simp] theorem rq(l:List Val):aY T 30 (vals l)=some (.int .i64 l.length):=(Cp _).trans (by simp[ef])
@[simp] theorem Cq(es:List AV):aY T 47 (.sl es)=some (.int .i64 es.length):=rfl
@[simp] theorem EK:aY T 47 .hn=some (.int .i64 0):=rfl
@[simp] theorem EC(l k n s:Nat)(a:Bool):aY T 47 (.hs l k n s a)=some (.int .i64 n):=rfl
@[simp] theorem Eu(l:List Ty):aY T 47 (vq l)=some (.int .i64 l.length):=(Cq _).trans (by simp)
@[simp] theorem Cr(es:List AV):aY T 92 (.sl es)=some (.int .i64 es.length):=rfl
@[simp] theorem EL:aY T 92 .hn=some (.int .i64 0):=rfl
@[simp] theorem ED(l k n s:Nat)(a:Bool):aY T 92 (.hs l k n s a)=some (.int .i64 n):=rfl
@[simp] theorem Ew(l:List Mod):aY T 92 (yX l)=some (.int .i64 l.length):=(Cr _).trans (by simp)
@[simp] theorem Af(es:List AV):aY T 158 (.sl es)=some (.int .i64 es.length):=rfl
@[simp] theorem DY:aY T 158 .hn=some (.int .i64 0):=rfl
@[simp] theorem DX(l k n s:Nat)(a:Bool):aY T 158 (.hs l k n s a)=some (.int .i64 n):=rfl
@[simp] theorem DW(l:List Int):aY T 158 (ints l)=some (.int .i64 l.length):=(Af _).trans (by simp)
def rn{l:List aJ}{n:Int}(h0:0<=n)(h:n<(l.length:Int)):ax T 22 (strs l) (.int .i64 n)=some (.ip (ab (AV.str l[n.toNat]!))):=cX (T:=T) (t:=22) (e:=9) rfl rfl rfl (fun _=>by first|rfl|(simp;done)|(simp;rfl)) h0 h
def tU{l:List dQ}{n:Int}(h0:0<=n)(h:n<(l.length:Int)):ax T 23 (cj l) (.int .i64 n)=some (.ip (ab (bQ l[n.toNat]!))):=by rw[cj,eW];exact cX (T:=T) (t:=23) (e:=37) rfl rfl rfl (fun _=>by first|rfl|(simp;done)|(simp;rfl)) h0 h
def Eo{l:List Fun}{n:Int}(h0:0<=n)(h:n<(l.length:Int)):ax T 25 (lE l) (.int .i64 n)=some (.ip (ab (Fun.av l[n.toNat]!))):=cX (T:=T) (t:=25) (e:=68) rfl rfl rfl (fun _=>by first|rfl|(simp;done)|(simp;rfl)) h0 h
def rp{l:List Val}{n:Int}(h0:0<=n)(h:n<(l.length:Int)):ax T 30 (vals l) (.int .i64 n)=some (.ip (ab (Val.av l[n.toNat]!))):=by rw[vals,ef];exact cX (T:=T) (t:=30) (e:=45) rfl rfl rfl (fun _=>by first|rfl|(simp;done)|(simp;rfl)) h0 h
def Ep{l:List Ty}{n:Int}(h0:0<=n)(h:n<(l.length:Int)):ax T 47 (vq l) (.int .i64 n)=some (.ip (ab (Ty.av l[n.toNat]!))):=cX (T:=T) (t:=47) (e:=35) rfl rfl rfl (fun _=>by first|rfl|(simp;done)|(simp;rfl)) h0 h
def Ac{a b:List aJ}(h:(a.length+b.length)*16<=140737488355328):cZ T 22 (strs a) (strs b)=some (strs (a++b)):=by
 have:=pu (T:=T) (t:=22) (e:=9) rfl rfl rfl (f:=AV.str) (fun _=>by first|rfl|(simp;done)|(simp;rfl)) (a:=a) (b:=b) h (by decide)
 simpa [strs]using this
def Ci{a b:List Val}(h:(a.length+b.length)*64<=140737488355328):cZ T 30 (vals a) (vals b)=some (vals (a++b)):=by
 have:=pu (T:=T) (t:=30) (e:=45) rfl rfl rfl (f:=Val.av) (fun _=>by first|rfl|(simp;done)|(simp;rfl)) (a:=a) (b:=b) h (by decide)
 simpa [vals,ef]using this
def vY(l:List aJ)(i k:Nat)(hk:k=i+1)(h:k<l.length):vW (l.drop i)=(aV (l[i]'(by omega)) l[k]&&vW (l.drop k)):=by
 subst hk;have e1:l.drop i=l[i]:: l.drop (i+1):=Gq (by omega);have e2:l.drop (i+1)=l[i+1]:: l.drop (i+2):=Gq h;rw[e1,e2];rfl
def yQ(call)(l:List aJ)(hb:l.length<=4611686018427387904):∀(n:Nat)(i:Int),l.length-i.toNat=n->1<=i->ai (L135_0 call ai) [strs l,.int .i64 i]=M.pure (.bool (vW (l.drop (i.toNat-1)))):=by
 intro n
 induction n with
 | zero=>
  intro i hn hi;rw[FL135_0];simp only[L135_0];have h1:¬(i<(l.length:Int)):=by omega
  have h2:vW (l.drop (i.toNat-1))=true:=by
   have:(l.drop (i.toNat-1)).length<=1:=by simp;omega
   match hq:l.drop (i.toNat-1),this with
   |[],_=>rfl
   |[x],_=>rfl
   |x:: y:: r,h=>simp at h
  simp[h1,h2]
 |succ n ih=>
  intro i hn hi;have h1:i<(l.length:Int):=by omega
  rw[FL135_0];simp only[L135_0];simp (disch:=omega) [h1,bA,rn];rw[ih (i+1) (by omega) (by omega),vY l (i.toNat-1) i.toNat (by omega) (by omega),show (i+1).toNat-1=i.toNat by omega];cases aV l[i.toNat-1] l[i.toNat]<;>simp
def t135(l:List aJ)(hb:l.length<=4611686018427387904):af pg 135 [strs l]=M.pure (.bool (vW l)):=by
 rw[C135];simp[S135,yQ (af pg) l hb (l.length-1) 1 rfl (by omega)]
def yR(f:AV)(F:Val->Bool)(l:List Val)(hb:l.length<=4611686018427387904)(hf:∀x∈l,b7 (af pg) f [Val.av x]=M.pure (.bool (F x))):∀(n:Nat)(i:Int),l.length-i.toNat=n->0<=i->i<=l.length->
  ai (L164_0 (af pg) ai) [vals l,f,.int .i64 l.length,.int .i64 i]=M.pure (.int .i64 (bE F (l.drop i.toNat) i)):=by
 intro n
 induction n with
 |zero=>
  intro i hn hi hl;rw[FL164_0];simp only[L164_0];have h1:¬(i<(l.length:Int)):=by omega
  have h2:l.drop i.toNat=[]:=G1 (by omega);simp[h1,h2,bE]
 |succ n ih=>
  intro i hn hi hl;have h1:i<(l.length:Int):=by omega
  have hlt:i.toNat<l.length:=by omega
  have h2:bE F (l.drop i.toNat) i=if F l[i.toNat]=true then i else bE F (l.drop (i.toNat+1)) (i+1):=by rw[Gq hlt];rfl
  have h3:=hf l[i.toNat] (Gs hlt);have h4:=ih (i+1) (by omega) (by omega) (by omega);rw[show (i+1).toNat=i.toNat+1 by omega]at h4;rw[FL164_0];simp only[L164_0];simp (disch:=omega) [h1,bA,rp,h3,h2];cases F l[i.toNat]
  ·simpa using h4
  ·simp
def t164(f:AV)(F:Val->Bool)(l:List Val)(hb:l.length<=4611686018427387904)(hc:∀g,cl g f=f)(hf:∀x∈l,b7 (af pg) f [Val.av x]=M.pure (.bool (F x))):af pg 164 [vals l,f]=M.pure (.int .i64 (bE F l 0)):=by
 rw[C164];simp[S164,hc,yR f F l hb hf l.length 0 rfl (by omega) (by omega)]
def t130(f:AV)(F:Val->Bool)(l:List Val)(hb:l.length<=4611686018427387904)(hc:∀g,cl g f=f)(hf:∀x∈l,b7 (af pg) f [Val.av x]=M.pure (.bool (F x))):af pg 130 [vals l,f]=M.pure (.bool (l.any F)):=by
 rw[C130];simp[S130,hc,t164 f F l hb hc hf,ny]
theorem t86:∀(d:Nat),d<=4->∀(v:Val),v.sz<=4611686018427387904->af pg 86 [v.av,.int .i64 d]=M.pure (.bool (bk d v))
 |0,_,v,_=>by
  rw[C86];simp[S86,bk]
 | d+1,hd,v,hv=>by
  have ih:=t86 d (by omega);have h1:=t135 v.names (He v.sz_names hv);have hf:∀x∈v.values,b7 (af pg) (.fn (.func 136) [] [.ip [.int .i64 ((d:Int)+1)]]) [x.av]=M.pure (.bool !(bk d x)):=by
   intro x hx;have hsz:=Fz hx
   have:=ih x (by omega)
   show af pg 136 [x.av,.ip [.int .i64 ((d:Int)+1)]]=_;rw[C136];simp (disch:=omega) [S136,cl,di,bA,this,show (d:Int)+1-1=d by omega]
  have h2:=t130 (.fn (.func 136) [] [.ip [.int .i64 ((d:Int)+1)]]) (fun x=>!(bk d x)) v.values (by have:=v.sz_len;omega) (fun g=>rfl) hf;have h0:¬((d:Int)+1=0):=by omega
  rw[C86];simp[S86,bk,h0,h1,h2];have hall:(!v.values.any fun x=>!bk d x)=v.values.all (bk d):=by simp[List.not_any_eq_all_not]
  rw[hall];split
  ·rfl
  ·congr 2;rw[show (v.kind== 2)=decide (v.kind=2)from rfl,show (v.n== 0)=decide (v.n=0)from rfl,show (v.names.length== v.values.length)=decide (v.names.length=v.values.length) by rw[GZ];simp,
    show (!decide ((8:Int)<(v.names.length:Int)))=decide (v.names.length<=8) by rw[GZ];simp;omega]
mutual
def Dy:Val->Val->Bool
 |.mk k n ns vs,.mk k' n' ns' vs'=>k== k'&&n== n'&&ns== ns'&&xJ vs vs'
def xJ:List Val->List Val->Bool
 |[],[]=>true
 |v:: vs,w:: ws=>Dy v w&&xJ vs ws
 |_,_=>false
end
def t49(v:Val)(hv:v.sz<=4611686018427387904):af pg 49 [v.av]=M.pure (.bool (bk 4 v)):=by
 rw[C49]
 have:=t86 4 (by omega) v hv
 simp at this;simp[S49,this]
def yT(f:AV)(F:Fun->Bool)(l:List Fun)(hb:l.length<=4611686018427387904)(hf:∀x∈l,b7 (af pg) f [Fun.av x]=M.pure (.bool (F x))):∀(n:Nat)(i:Int),l.length-i.toNat=n->0<=i->i<=l.length->
  ai (L212_0 (af pg) ai) [lE l,f,.int .i64 l.length,.int .i64 i]=M.pure (.int .i64 (bE F (l.drop i.toNat) i)):=by
 intro n
 induction n with
 |zero=>
  intro i hn hi hl;rw[FL212_0];simp only[L212_0];have h1:¬(i<(l.length:Int)):=by omega
  have h2:l.drop i.toNat=[]:=G1 (by omega);simp[h1,h2,bE]
 |succ n ih=>
  intro i hn hi hl;have h1:i<(l.length:Int):=by omega
  have hlt:i.toNat<l.length:=by omega
  have h2:bE F (l.drop i.toNat) i=if F l[i.toNat]=true then i else bE F (l.drop (i.toNat+1)) (i+1):=by rw[Gq hlt];rfl
  have h3:=hf l[i.toNat] (Gs hlt);have h4:=ih (i+1) (by omega) (by omega) (by omega);rw[show (i+1).toNat=i.toNat+1 by omega]at h4;rw[FL212_0];simp only[L212_0];simp (disch:=omega) [h1,bA,Eo,h3,h2];cases F l[i.toNat]
  ·simpa using h4
  ·simp
def t212(f:AV)(F:Fun->Bool)(l:List Fun)(hb:l.length<=4611686018427387904)(hc:∀g,cl g f=f)(hf:∀x∈l,b7 (af pg) f [Fun.av x]=M.pure (.bool (F x))):af pg 212 [lE l,f]=M.pure (.int .i64 (bE F l 0)):=by
 rw[C212];simp[S212,hc,yT f F l hb hf l.length 0 rfl (by omega) (by omega)]
def Bv(f:AV)(F:dQ->Bool)(l:List dQ)(hb:l.length<=4611686018427387904)(hf:∀x∈l,b7 (af pg) f [bQ x]=M.pure (.bool (F x))):∀(n:Nat)(i:Int),l.length-i.toNat=n->0<=i->i<=l.length->
  ai (L81_0 (af pg) ai) [cj l,f,.int .i64 l.length,.int .i64 i]=M.pure (.int .i64 (bE F (l.drop i.toNat) i)):=by
 intro n
 induction n with
 |zero=>
  intro i hn hi hl;rw[FL81_0];simp only[L81_0];have h1:¬(i<(l.length:Int)):=by omega
  have h2:l.drop i.toNat=[]:=G1 (by omega);simp[h1,h2,bE]
 |succ n ih=>
  intro i hn hi hl;have h1:i<(l.length:Int):=by omega
  have hlt:i.toNat<l.length:=by omega
  have h2:bE F (l.drop i.toNat) i=if F l[i.toNat]=true then i else bE F (l.drop (i.toNat+1)) (i+1):=by rw[Gq hlt];rfl
  have h3:=hf l[i.toNat] (Gs hlt);have h4:=ih (i+1) (by omega) (by omega) (by omega);rw[show (i+1).toNat=i.toNat+1 by omega]at h4;rw[FL81_0];simp only[L81_0];simp (disch:=omega) [h1,bA,tU,h3,h2];cases F l[i.toNat]
  ·simpa using h4
  ·simp
def t81(f:AV)(F:dQ->Bool)(l:List dQ)(hb:l.length<=4611686018427387904)(hc:∀g,cl g f=f)(hf:∀x∈l,b7 (af pg) f [bQ x]=M.pure (.bool (F x))):af pg 81 [cj l,f]=M.pure (.int .i64 (bE F l 0)):=by
 rw[C81];simp[S81,hc,Bv f F l hb hf l.length 0 rfl (by omega) (by omega)]
def t168(n:Int):af pg 168 [.int .i64 n]=M.pure (Val.mk 0 n [] []).av:=by
 rw[C168];rfl
def zb(o:Int)(ns:List aJ)(vs:List Val):AV:=.agg [.int .i64 o,strs ns,vals vs]
@[simp] theorem yc(o:Int)(ns:List aJ)(vs:List Val):ab (zb o ns vs)=[.int .i64 o,strs ns,vals vs]:=rfl
set_option maxHeartbeats 1000000 in
def t167(n:Int):af pg 167 [.int .i64 n]=M.pure (.int .i64 (vV n)):=by
 rw[C167];unfold vV;simp only[S167,K167_0,K167_1,K167_2,K167_3,cl,cQ,yl,ay,ap,aH,aQ,GG];by_cases h0:n=0
 ·simp[h0]
 by_cases h1:n=1
 ·simp[h1]
 by_cases h2:n=2
 ·simp[h2]
 by_cases h17:n=17
 ·simp[h17]
 by_cases h10:n=10
 ·simp[h10]
 by_cases h14:n=14
 ·simp[h14]
 by_cases h16:n=16
 ·simp[h16]
 by_cases h18:n=18
 ·simp[h18]
 by_cases h3:n=3
 ·simp[h3]
 by_cases h4:n=4
 ·simp[h4]
 by_cases h5:n=5
 ·simp[h5]
 by_cases h6:n=6
 ·simp[h6]
 by_cases h7:n=7
 ·simp[h7]
 by_cases h8:n=8
 ·simp[h8]
 by_cases h9:n=9
 ·simp[h9]
 by_cases h12:n=12
 ·simp[h12]
 by_cases h11:n=11
 ·simp[h11]
 by_cases h13:n=13
 ·simp[h13]
 by_cases h15:n=15
 ·simp[h15]
 simp[h0,h1,h2,h17,h10,h14,h16,h18,h3,h4,h5,h6,h7,h8,h9,h12,h11,h13,h15]
def t98(l:List aJ)(s:aJ)(hb:l.length<=1099511627776):af pg 98 [strs l,.str s]=M.pure (.int .i64 (bE (fun x=>s== x) l 0)):=by
 have hl:∀(n:Nat)(i:Int),l.length-i.toNat=n->0<=i->i<=l.length->ai (L98_0 (af pg) ai) [strs l,.str s,.int .i64 l.length,.int .i64 i]=M.pure (.int .i64 (bE (fun x=>s== x) (l.drop i.toNat) i)):=by
  intro n
  induction n with
  |zero=>
   intro i hn hi hl;rw[FL98_0];simp only[L98_0];have h1:¬(i<(l.length:Int)):=by omega
   have h2:l.drop i.toNat=[]:=G1 (by omega);simp[h1,h2,bE]
  | succ n ih=>
   intro i hn hi hl;have h1:i<(l.length:Int):=by omega
   have hlt:i.toNat<l.length:=by omega
   have h2:bE (fun x=>s== x) (l.drop i.toNat) i=if(s== l[i.toNat])=true then i else bE (fun x=>s== x) (l.drop (i.toNat+1)) (i+1):=by rw[Gq hlt];rfl
   have h4:=ih (i+1) (by omega) (by omega) (by omega);rw[show (i+1).toNat=i.toNat+1 by omega]at h4;rw[FL98_0];simp only[L98_0];simp (disch:=omega) [h1,bA,rn,h2];by_cases h:s=l[i.toNat]
   ·simp[h]
   ·simp[h];simpa using h4
 rw[C98];simp[S98,cl,hl l.length 0 rfl (by omega) (by omega)]
@[simp] theorem CS(t:Nat)(a b:Int):ao T .geq t (.int .u8 a) (.int .u8 b)=some (.bool (decide (b<=a))):=rfl
@[simp] theorem CU(t:Nat)(a b:Int):ao T .leq t (.int .u8 a) (.int .u8 b)=some (.bool (decide (a<=b))):=rfl
@[simp] theorem Ej(t:Nat)(a b:aJ):ao T .leq t (.str a) (.str b)=some (.bool (aV a b||a== b)):=rfl
def t96(f:AV)(F:dQ->Bool)(l:List dQ)(hb:l.length<=4611686018427387904)(hc:∀g,cl g f=f)(hf:∀x∈l,b7 (af pg) f [bQ x]=M.pure (.bool (F x))):af pg 96 [cj l,f]=M.pure (.bool (l.any F)):=by
 rw[C96];simp[S96,hc,t81 f F l hb hc hf,ny]
def t205(b:UInt8):af pg 205 [.int .u8 b.toNat]=M.pure (.bool (kF b)):=by
 rw[C205];have e:decide ((b.toNat:Int)<=122)=decide (b.toNat<=122):=HO.2 (by omega);have e2:decide (97<=(b.toNat:Int))=decide (97<=b.toNat):=HO.2 (by omega);simp[S205,kF,e,e2]
def t208(b:UInt8):af pg 208 [.int .u8 b.toNat]=M.pure (.bool (rM b)):=by
 rw[C208];have e:decide ((b.toNat:Int)<=57)=decide (b.toNat<=57):=HO.2 (by omega);have e2:decide (48<=(b.toNat:Int))=decide (48<=b.toNat):=HO.2 (by omega);simp[S208,rM,e,e2]
def t207(b:UInt8):af pg 207 [.int .u8 b.toNat]=M.pure (.bool (kY b)):=by
 rw[C207];simp[S207,t205,t208,kY]
theorem zX{s:aJ}{i:Nat}(h:i<s.length):da T 9 (.str s) (.int .i64 (i:Int))=some (.int .u8 (s[i].toNat:Int)):=by
 have e1:da T 9 (.str s) (.int .i64 (i:Int))=(if(i:Int)<0 then none else s[(i:Int).toNat]?.map fun b=>.int .u8 b.toNat):=rfl;rw[e1,if_neg (by omega),Gw,Gf h];rfl
def yS(F:UInt8->Bool)(f:AV)(s:aJ)(hb:s.length<=4611686018427387904)(hf:∀b:UInt8,b7 (af pg) f [.int .u8 b.toNat]=M.pure (.bool (F b))):∀(n i:Nat),s.length-i=n->i<=s.length->
  ai (L206_0 (af pg) ai) [.str s,f,.int .i64 i]=M.pure (.int .i64 ((i+((s.drop i).takeWhile F).length:Nat):Int)):=by
 intro n
 induction n with
 |zero=>
  intro i hn hi;rw[FL206_0];simp only[L206_0];have h1:¬((i:Int)<(s.length:Int)):=by omega
  have h2:s.drop i=[]:=G1 (by omega);simp[h1,h2]
 | succ n ih=>
  intro i hn hi;have hlt:i<s.length:=by omega
  have h1:(i:Int)<(s.length:Int):=by omega
  have h2:s.drop i=s[i]:: s.drop (i+1):=Gq hlt;have h4:=ih (i+1) (by omega) (by omega);have hw:IntKind.i64.wrap ((i:Int)+1)=((i+1:Nat):Int):=oe (by omega);rw[FL206_0];simp only[L206_0,aH,aQ,Er,ay,ym,h1,decide_true,a8,zX hlt,hf,aw,bK,ap,yk,hw,h4,h2,HW];cases F s[i]
  ·simp
  ·rw[FY rfl,FY rfl];congr 3;simp;omega
def t158(s:aJ):af pg 158 [.str s]=M.pure (.bool (kv s)):=by
 rw[C158];by_cases hs:s=[]
 ·subst hs;simp[S158,kv]
 ·have hs':(s== [])=false:=G9.2 hs;have hpos:0<s.length:=Hv.2 hs;have h0:=zX (s:=s) (i:=0) hpos;have hd:s[0]=s.headD 0:=by cases s with|nil=>exact absurd rfl hs|cons c s=>rfl
  rw[hd]at h0;simp at h0;by_cases hl:s.length<=20
  ·have h1:=yS kY (.fn (.func 207) [] []) s (by omega) (fun b=>t207 b) s.length 0 (by simp) (by simp);have hsp:af pg 206 [.str s,.fn (.func 207) [] []]=M.pure (.int .i64 (((s.takeWhile kY).length:Nat):Int)):=by
    rw[C206];simp only[S206,cl,di];rw[show (AV.int .i64 0)=AV.int .i64 ((0:Nat):Int)from rfl,h1];simp
   have e1:decide (20<(s.length:Int))=false:=by rw[G6];omega
   have e3:decide (20<s.length)=false:=by rw[G6];omega
   have e4:decide (s.length<=20)=true:=by simpa using hl
   simp[S158,hs',h0,t205,hsp,e1,e3,e4,kv]
  ·have e1:decide (20<(s.length:Int))=true:=by rw[F5];omega
   have e3:decide (20<s.length)=true:=by rw[F5];omega
   have e4:decide (s.length<=20)=false:=by simpa using hl
   simp[S158,hs',h0,t205,e1,e3,e4,kv]
def t159(s:aJ):af pg 159 [.str gP,.str s]=M.pure (.bool (Lib.contains gP s)):=by
 rw[cW aM (E:=fw) rfl];rfl
theorem tR(t:Nat)(a b:aJ):ao T .add t (.str a) (.str b)=if a.length+b.length<=4611686018427387904 then some (.str (a++b))else none:=rfl
def t119(s:aJ):af pg 119 [.str s]=M.pure (.bool (fF s)):=by
 rw[C119];have h1:=t158 s;unfold fF;cases hw:kv s with
 |false=>
  rw[hw]at h1;simp[S119,h1]
 |true=>
  have hl:=vo hw;rw[hw]at h1;have h2:=t159 ([32]++s++[32]);unfold gP at h2;have e1:ao T .add 9 (.str [32]) (.str s)=some (.str ([32]++s)):=by rw[tR,FY (by simp;omega)]
  have e2:ao T .add 9 (.str ([32]++s)) (.str [32])=some (.str ([32]++s++[32])):=by rw[tR,FY (by simp;omega)]
  simp only[S119,Bb,h1,aw,a8,e1,ay,e2,h2,bl,aH,bK,gM,Hb];rfl
def yP{t:Ty}(h:t.Lim)(k:Nat)(hk:k<t.fields.length):(t.fields[k]!).2.Lim:=by
 rw[GK t.fields k hk];exact h.kid (Gs hk)
theorem t99:∀(d:Nat),d<=4->∀(t:Ty),t.Lim->af pg 99 [t.av,.int .i64 d]=M.pure (.bool (bL d t))
 |0,_,t,_=>by
  rw[C99];simp[S99,bL]
 | d + 1,hd,t,ht=>by
  have ih:=t99 d (by omega);have hlen:=ht.len;have hd1:IntKind.i64.wrap ((((d+1:Nat)):Int)-1)=(d:Int):=vp (by omega);have hloop:=yJ (F:=L99_0 (af pg) ai) (FL99_0 (af pg)) (fun k=>[.int .i64 ((d+1:Nat):Int),.ip (ab t.av),cj t.fields,.int .i64 t.fields.length,.int .i64 k]) t.fields.length
   (fun k=>(fF (t.fields[k]!).1&&bL d (t.fields[k]!).2)&&(decide (k=0)||dt (t.fields[k-1]!).1 (t.fields[k]!).1))
   (by simp[L99_0]) (fun k hk=>by
    have h1:(k:Int)<(t.fields.length:Int):=by omega
    have hix:=tU (l:=t.fields) (n:=(k:Int)) (by omega) h1;rw[Gw]at hix;have hm:t.fields[k]! ∈t.fields:=by rw[GK t.fields k hk];exact Gs hk
    have h2:=t119 (t.fields[k]!).1;have h3:=ih (t.fields[k]!).2 (yP ht k hk);have hw:IntKind.i64.wrap ((k:Int)+1)=(k:Int)+1:=by rw[oe (by omega)];simp
    have hd0:IntKind.i64.wrap (d:Int)=(d:Int):=xY (by omega);generalize t.fields[k]! = f at hix h2 h3 hm |-;rcases GF k with hk0|hk0
    ·subst hk0;have hix0:ax T 23 (cj t.fields) (.int .i64 0)=some (.ip (ab (bQ f))):=hix;have hw0:IntKind.i64.wrap 1=1:=rfl;simp[L99_0,hix0,h2,h3,hw0,hd0,hk];cases fF f.1<;>cases bL d f.2<;>simp
    ·have hp:IntKind.i64.wrap ((k:Int)-1)=((k-1:Nat):Int):=by
      rw[bA (by omega) (by omega)];omega
     have h4:((k-1:Nat):Int)<(t.fields.length:Int):=by omega
     have hix2:=tU (l:=t.fields) (n:=((k-1:Nat):Int)) (by omega) h4;rw[Gw]at hix2;generalize t.fields[k-1]! = g at hix2 |-;have hk1:¬k=0:=by omega
     simp[L99_0,h1,hix,h2,h3,hw,hd0,hp,hix2,hk0,hk1,hk];cases fF f.1<;>simp;cases h5:aV f.1 g.1<;>cases bL d f.2<;>by_cases h6:f.1=g.1<;>simp[dt,h5,h6]) 0 (G4 _)
  have hall:((List.range' 0 t.fields.length).all fun k=>(fF (t.fields[k]!).1&&bL d (t.fields[k]!).2)&&(decide (k=0)||dt (t.fields[k-1]!).1 (t.fields[k]!).1))=(t.fields.all (fun f=>fF f.1&&bL d f.2)&&fu (fun a b=>dt a.1 b.1) t.fields):=
   ye (fun f:dQ=>fF f.1&&bL d f.2) (fun a b=>dt a.1 b.1) t.fields
  rw[Nat.sub_zero,hall]at hloop;rw[C99];have h0:¬((d:Int)+1=0):=by omega
  have hl2:ai (L99_0 (af pg) ai) [.int .i64 ((d:Int)+1),.ip [.int .i64 t.kind,cj t.fields],cj t.fields,.int .i64 t.fields.length,.int .i64 0]=M.pure (.bool (t.fields.all (fun f=>fF f.1&&bL d f.2)&&fu (fun a b=>dt a.1 b.1) t.fields)):=by
   simpa using hloop
  have hR:bL (d+1) t=if((t.kind<0\/3<=t.kind)\/8<(t.fields.length:Int))\/¬t.kind=2/\0<t.fields.length then false else(t.fields.all (fun f=>fF f.1&&bL d f.2)&&fu (fun a b=>dt a.1 b.1) t.fields):=by
   rw[cq];generalize (t.fields.all (fun f=>fF f.1&&bL d f.2)&&fu (fun a b=>dt a.1 b.1) t.fields)=q;generalize t.fields.length=n;generalize t.kind=k;split
   ·rename_i hc;cases q
    ·simp
    ·simp only[Iy,Ho,G6,Hc,G9];rcases hc with((h|h)|h)|h
     ·exact .inl (.inl (.inl (by omega)))
     ·exact .inl (.inl (.inr (by omega)))
     ·exact .inl (.inr (by omega))
     ·exact .inr ⟨h.1,by omega⟩
   ·rename_i hc;have e1:decide (0<=k)=true:=by rw[F5];omega
    have e2:decide (k<3)=true:=by rw[F5];omega
    have e3:decide (n<=8)=true:=by rw[F5];omega
    have e4:(k== 2||n== 0)=true:=by
     rw[GE,GG,GG];omega
    rw[e1,e2,e3,e4];simp
  rw[hR];simp[S99,h0,hl2]
def t56(t:Ty)(ht:t.Lim):af pg 56 [t.av]=M.pure (.bool (dx t)):=by
 rw[C56];have:af pg 99 [t.av,.int .i64 4]=M.pure (.bool (bL 4 t)):=t99 4 (by omega) t ht;simp[S56,this]
def t23(t:Ty)(ht:t.Lim):af pg 23 [t.av]=M.pure (.bool (dx t)):=by
 rw[C23];simp[S23,t56 t ht]
@[simp] theorem AY(t:Nat)(a b:Int):ao T .andNot t (.int .i64 a) (.int .i64 b)=some (.int .i64 (yI a b)):=rfl
theorem wG:∀ {n:Nat} {v:Val},bk n v=true->v.names.length=v.values.length/\v.names.length<=8/\∀x∈v.values,∃m,bk m x=true
 |0,v,h=>by simp[bk]at h
 | n+1,v,h=>by
  unfold bk at h;split at h
  ·simp only[FV,GG]at h;have h1:v.values=[]:=Ip.1 h.1.2;refine⟨by omega,by omega,fun x hx=>by rw[h1]at hx;cases hx⟩
  ·simp only[FV,GG,F5,F9]at h;exact⟨h.1.1.1.2,h.1.1.2,fun x hx=>⟨n,h.2 x hx⟩⟩
theorem nA{α:Type}(F:α->Bool):(l:List α)->(i:Int)->bE F l i= -1\/(i<=bE F l i/\bE F l i<i+l.length)
 |[],i=>.inl rfl
 | x:: l,i=>by
  simp only[bE];split
  ·right;simp;omega
  ·rcases nA F l (i+1)with h|h
   ·exact .inl h
   ·right;simp only[Ge];omega
def vT{α:Type}(F:α->Bool)(l:List α):(l.any fun x=>!F x)= !(l.all F):=by
 induction l with
 |nil=>rfl
 |cons x l ih=>simp only[List.any_cons,GR,ih];cases F x<;>simp
theorem DO:∀(d:Nat)(t:Ty)(n:Nat)(v:Val),bL d t=true->bk n v=true->v.sz<=1099511627776->af pg 55 [t.av,v.av]=M.pure (.bool (gq d t v))
 |0,t,n,v,h,_,_=>by simp[bL]at h
 | d+1,t,n,v,h,hv,hz=>by
  have hr:=h;rw[cq]at hr;simp only[FV,F9,F5]at hr;obtain⟨hl,h8,hk⟩:=wG hv;have hcl:∀g,cl g (.fn (.func 97) [] [.ip (ab v.av)])= .fn (.func 97) [] [.ip (ab v.av)]:=fun g=>by simp[cl,di]
  have hany:=t96 (.fn (.func 97) [] [.ip (ab v.av)]) (fun f=>!(decide (0<=eY v.names f.1)&&gq d f.2 v.values[(eY v.names f.1).toNat]!)) t.fields (by have:=hr.1.1.2;omega) hcl (fun f hf=>by
   show af pg 97 [bQ f,.ip (ab v.av)]=_;have hi:=t98 v.names f.1 (by omega);have hfr:=(hr.2.1 f hf).2;have hix:bE (fun x=>f.1== x) v.names 0=eY v.names f.1:=rfl;rw[hix]at hi;rw[C97];rcases nA (fun x=>f.1== x) v.names 0 with h1|h1
   ·rw[hix]at h1;have h2:eY v.names f.1<0:=by omega
    have h3:¬(0<=eY v.names f.1):=by omega
    simp[S97,cl,di,hi,h2,h3]
   ·rw[hix]at h1;have h2:¬eY v.names f.1<0:=by omega
    have h3:0<=eY v.names f.1:=by omega
    have hlt:(eY v.names f.1).toNat<v.values.length:=by omega
    have hvx:=rp (l:=v.values) (n:=eY v.names f.1) h3 (by omega);have hmem:v.values[(eY v.names f.1).toNat]! ∈v.values:=by rw[GK v.values _ hlt];exact Gs hlt
    obtain⟨m,hm⟩:=hk _ hmem;have ih:=DO d f.2 m v.values[(eY v.names f.1).toNat]! hfr hm (by have:=Fz hmem;omega);generalize v.values[(eY v.names f.1).toNat]! = x at hvx ih |-;simp[S97,cl,di,hi,h2,h3,hvx,ih])
  rw[vT]at hany;have ea:ab v.av=[.int .i64 v.kind,.int .i64 v.n,strs v.names,vals v.values]:=by simp
  rw[ea]at hany;rw[C55,show gq (d+1) t v=(t.kind== v.kind&&t.fields.all fun f=>decide (0<=eY v.names f.1)&&gq d f.2 v.values[(eY v.names f.1).toNat]!)from rfl];generalize (t.fields.all fun f=>decide (0<=eY v.names f.1)&&gq d f.2 v.values[(eY v.names f.1).toNat]!)=b at hany |-;simp[S55,hany]
def t20(t:Ty)(v:Val)(ht:t.Lim)(hz:v.sz<=1099511627776):af pg 20 [t.av,v.av]=M.pure (.bool (gb t v)):=by
 have h1:=t23 t ht;have h2:=t49 v (by omega);rw[C20];unfold gb;cases hr:dx t with
 |false=>simp[S20,h1,hr]
 | true=>
  cases hv:bk 4 v with
  |false=>simp[S20,h1,hr,h2,hv]
  |true=>
   have h3:=DO 4 t 4 v hr hv hz;simp[S20,h1,hr,h2,hv,h3]
def b6{α β:Type}{m:M α}{a:α}{h h':Hp}(e:m h= .ok a h')(f:α->M β):ae m f h=f a h':=by simp only[ae,e]
def li{α β:Type}{m:M α}{a:AV}{h h':Hp}(e:m h= .pan a h')(f:α->M β):ae m f h= .pan a h':=by simp only[ae,e]
def dh(s:aJ):Hp:=[[.str s]]
def EV{β:Type}(s:aJ)(f:AV->M β):ae (eK T 9 (.hp 0 0)) f (dh s)=f (.str s) (dh s):=b6 (Bn (T:=T) (t:=9) rfl rfl (show (dh s)[0]? = some [.str s]from rfl) rfl) f
def EZ{β:Type}(s r:aJ)(f:AV->M β):ae (fo T 9 (.hp 0 0) (.str r)) f (dh s)=f (.tup []) (dh r):=
 b6 (zc (T:=T) (t:=9) rfl (v:=.str r) (show (dh s)[0]? = some [.str s]from rfl) rfl (show 0+1<=1 by omega) (by decide)) f
theorem Bz:db (.hp 0 0)=some (.hp 0 0):=rfl
theorem fR0:aa T 85 (.hp 0 0) 0=some (.hp 0 0):=rfl
theorem gy(s:aJ):aY T 9 (.str s)=some (.int .i64 s.length):=rfl
def o6(s:aJ){n:Int}(h0:0<=n)(h1:n<=s.length):eb T 9 (.str s) none (some (.int .i64 n)) none=some (.str (s.take n.toNat)):=by
 show (match bI (some (.int .i64 n)) s.length s.length with|none=>none|some h=>match bI none 0 h with|none=>none|some l=>some (AV.str ((s.take h).drop l)))=_;simp[bI,h0,h1]
def o7(s:aJ){n:Int}(h0:0<=n)(h1:n<=s.length):eb T 9 (.str s) (some (.int .i64 n)) none none=some (.str (s.drop n.toNat)):=by
 show (match bI none s.length s.length with|none=>none|some h=>match bI (some (.int .i64 n)) 0 h with|none=>none|some l=>some (AV.str ((s.take h).drop l)))=_;have:n<=((s.length:Nat):Int):=h1;simp[bI,h0,this]
def t50(n:Int)(h0:-9223372036854775808<=n)(h1:n<=9223372036854775807):af pg 50 [.int .i64 n]=M.pure (.str (cm n)):=by
 rw[cW aM (E:=nB) rfl];simp only[nB,Gk h0,Gk h1,H7,FW];rfl
def t141(s:aJ)(h:s.length<=281474976710656):af pg 141 [.str s]=M.pure (jQ 251 s):=by
 rw[cW aM (E:=mV 251) rfl];simp only[mV,Gk h,FW];rfl
def t95(s:aJ)(h:s.length<4294967281):af pg 95 [.str s]=M.pure (.bool (bX s)):=by
 rw[cW aM (E:=jy) rfl];simp only[jy,Gk h,FW];rfl
def t142(s cs:aJ)(h:s.length<4294967281)(hc:cs.length<1000)(ha:lh cs=true):af pg 142 [.str s,.str cs]=M.pure (.int .i64 (dq cs s 0)):=by
 rw[cW aM (E:=eP) rfl];simp only[eP,Gk h,Gk hc,ha,H7,FW];rfl
def dv(s p:aJ):Bool:=decide ((p.length:Int)<=s.length)&&(s.take p.length== p)
def t230(s p:aJ):af pg 230 [.str s,.str p]=M.pure (.bool (dv s p)):=by
 have es:∀x y:aJ,ao T .eql 9 (.str x) (.str y)=some (.bool (x== y)):=fun _ _=>rfl;have eg:∀x y:Int,ao T .geq 3 (.int .i64 x) (.int .i64 y)=some (.bool (decide (y<=x))):=fun _ _=>rfl;rw[C230,show cl az (.str s)= .str s from rfl,show cl az (.str p)= .str p from rfl];have e:S230 (af pg) ai (.str s) (.str p)=M.pure (.bool (dv s p)):=by
  unfold dv;by_cases h:(p.length:Int)<=s.length
  ·have hs:=o6 s (n:=(p.length:Int)) (by omega) h;rw[Gw]at hs;simp only[S230,gy,ay,eg,h,decide_true,a8,hs,es,aw,aH,bK,Hb]
  ·simp only[S230,gy,ay,eg,h,decide_false,dW,aw,bH,HG]
 rw[e];exact gM _
def t182(s p:aJ):af pg 182 [.str s,.str p]=M.pure (.tup [.str (if dv s p=true then s.drop p.length else s),.bool (dv s p)]):=by
 rw[C182,show cl az (.str s)= .str s from rfl,show cl az (.str p)= .str p from rfl];have e:S182 (af pg) ai (.str s) (.str p)=M.pure (.tup [.str (if dv s p=true then s.drop p.length else s),.bool (dv s p)]):=by
  simp only[S182,t230,aw,bl,ay,ap];cases hp:dv s p with
  |false=>simp
  | true=>
   have h1:(p.length:Int)<=s.length:=by
    unfold dv at hp;simp only[FV,F5]at hp;exact hp.1
   have hs:=o7 s (n:=(p.length:Int)) (by omega) h1;rw[Gw]at hs;simp[gy,hs]
 rw[e];exact ca fun g=>rfl
def t140(s p:aJ):af pg 140 [.str s,.str p]=M.pure (.tup [.str (if dv s p=true then s.drop p.length else s),.bool (dv s p)]):=by
 rw[C140,show cl az (.str s)= .str s from rfl,show cl az (.str p)= .str p from rfl];have e:S140 (af pg) ai (.str s) (.str p)=M.pure (.tup [.str (if dv s p=true then s.drop p.length else s),.bool (dv s p)]):=by
  simp only[S140,t182,aw,bD,Ga,Gx,ay]
 rw[e];exact ca fun g=>rfl
def r4(s:aJ)(c:UInt8):dv s [c]=decide (s.head? = some c):=by
 unfold dv;cases s with
 |nil=>simp
 |cons x s=>
  have h1:((([c]:aJ).length:Nat):Int)<=((x:: s).length:Nat):=by simp only[Ge,GM];omega
  rw[Gk h1,Hb,GZ];simp
def t92(s:aJ)(c:UInt8):af pg 92 [.hp 0 0,.str [c]] (dh s)= .ok (.bool (decide (s.head? = some c))) (dh (if s.head? = some c then s.tail else s)):=by
 have hc:=t140 s [c];rw[r4]at hc;simp only[F5]at hc;have e:(if s.head? = some c then s.drop ([c]:aJ).length else s)=if s.head? = some c then s.tail else s:=by simp
 rw[e]at hc;rw[C92];simp only[S92,Bz,ay,fR0,EV,hc,aw,bD,Ga,Gx,EZ];rfl
theorem nd(cs:aJ):∀(s:aJ)(i:Int),0<=i->(dq cs s i= -1/\s.takeWhile (fun b=>!cs.contains b)=s/\s.dropWhile (fun b=>!cs.contains b)=[])\/(dq cs s i=i+(s.takeWhile (fun b=>!cs.contains b)).length/\(s.takeWhile (fun b=>!cs.contains b)).length<=s.length/\s.take (s.takeWhile (fun b=>!cs.contains b)).length=s.takeWhile (fun b=>!cs.contains b)/\s.drop (s.takeWhile (fun b=>!cs.contains b)).length=s.dropWhile (fun b=>!cs.contains b))
 |[],_,_=>.inl ⟨rfl,rfl,rfl⟩
 | b:: s,i,hi=>by
  cases hb:cs.contains b with
  |true=>
   have hm:=HS.1 hb;exact .inr ⟨by simp[dq,hm],by simp[hm],by simp[hm],by simp[hm]⟩
  | false=>
   have hm:b ∉ cs:=fun h=>by rw[HS.2 h]at hb;cases hb
   rcases nd cs s (i+1) (by omega)with⟨h1,h2,h3⟩|⟨h1,h2,h3,h4⟩
   ·refine .inl ⟨by rw[dq,hb,if_neg (by decide),h1],?_,?_⟩
    ·rw[HW,hb];simpa using h2
    ·rw[List.dropWhile_cons,hb];simpa using h3
   ·have et:(b:: s).takeWhile (fun b=>!cs.contains b)=b:: s.takeWhile (fun b=>!cs.contains b):=by rw[HW,hb];rfl
    have ed:(b:: s).dropWhile (fun b=>!cs.contains b)=s.dropWhile (fun b=>!cs.contains b):=by rw[List.dropWhile_cons,hb];rfl
    refine .inr ⟨?_,?_,?_,?_⟩
    ·rw[dq,hb,if_neg (by decide),h1,et,Ge];omega
    ·rw[et,Ge,Ge];omega
    ·rw[et,Ge,List.take_succ_cons,h3]
    ·rw[et,ed,Ge,List.drop_succ_cons,h4]
theorem t94(s cs:aJ)(h:s.length<4294967281)(hc:cs.length<1000)(ha:lh cs=true):af pg 94 [.hp 0 0,.str cs] (dh s)= .ok (.str (s.takeWhile (fun b=>!cs.contains b))) (dh (s.dropWhile (fun b=>!cs.contains b))):=by
 have hi:=t142 s cs h hc ha;have lt:∀a b:Int,ao T .lss 3 (.int .i64 a) (.int .i64 b)=some (.bool (decide (a<b))):=fun _ _=>rfl;rw[C94];rcases nd cs s 0 (Int.le_refl _)with⟨h1,h2,h3⟩|⟨h1,h2,h3,h4⟩
 ·rw[h1]at hi;have g1:=o6 s (n:=(s.length:Int)) (by omega) (by omega);have g2:=o7 s (n:=(s.length:Int)) (by omega) (by omega);rw[Gw,Ik]at g1;rw[Gw,HP]at g2;have d:decide ((-1:Int)<0)=true:=rfl;rw[h2,h3];simp only[S94,K94_0,aH,aQ,cQ,Bz,ay,fR0,EV,hi,aw,lt,d,ap,Gm,gy,g1,g2,EZ];rfl
 ·rw[h1,Int.zero_add]at hi;have g1:=o6 s (n:=((s.takeWhile (fun b=>!cs.contains b)).length:Int)) (by omega) (by omega);have g2:=o7 s (n:=((s.takeWhile (fun b=>!cs.contains b)).length:Int)) (by omega) (by omega);rw[Gw,h3]at g1;rw[Gw,h4]at g2;have d:decide (((s.takeWhile (fun b=>!cs.contains b)).length:Int)<0)=false:=Gr (by omega);simp only[S94,K94_0,aH,aQ,cQ,Bz,ay,fR0,EV,hi,aw,lt,d,ap,F7,Gl,g1,g2,EZ];rfl
def gp:AV:=.iface 81 (.agg [])
theorem tK:sr gp=dy gp:=rfl
theorem Ed(k n:Int):aU 4 [] (.agg [.int .i64 k,.int .i64 n,.sl [],.sl []])=M.pure (.agg [.int .i64 k,.int .i64 n,.sl [],.sl []]):=rfl
def tq{m:M AV}{h':Hp}(e:m []= .pan gp h')(h:Hp):∃h2,aS m h= .pan gp h2:=by
 unfold aS;rw[e];exact⟨_,rfl⟩
theorem t93(s:aJ)(hb:s.length<=281474976710656):match bz s with
  |some v=>af pg 93 [.str s]=M.pure v.av
  |none=>∀h,∃h',af pg 93 [.str s] h= .pan gp h':=by
 have es:∀x y:aJ,ao T .eql 9 (.str x) (.str y)=some (.bool (x== y)):=fun _ _=>rfl;have ns:∀x y:aJ,ao T .neq 9 (.str x) (.str y)=some (.bool (x != y)):=fun _ _=>rfl;have b1:bW T false 45 [(0,.int .i64 1),(1,.int .i64 1)]=some (.agg [.int .i64 1,.int .i64 1,.sl [],.sl []]):=rfl;have b2:bW T false 45 [(0,.int .i64 1)]=some (.agg [.int .i64 1,.int .i64 0,.sl [],.sl []]):=rfl;have b3:∀n:Int,bW T false 45 [(1,.int .i64 n)]=some (.agg [.int .i64 0,.int .i64 n,.sl [],.sl []]):=fun _=>rfl;have b4:bW T false 81 []=some (.agg []):=rfl;have mi:dK T 81 (.agg [])=some gp:=rfl;have ac:∀l:List AV,ab (.agg l)=l:=fun _=>rfl;have nn:∀x:AV,ao T .neq 124 (.iface 251 x) .nili=some (.bool true):=fun _=>rfl;have nz:ao T .neq 124 .nili .nili=some (.bool false):=rfl;by_cases h1:s=gG
 ·have hx:bz s=some (.mk 1 1 [] []):=by unfold bz;rw[FY h1]
  rw[hx];have e1:(s== ([116,114,117,101]:aJ))=true:=by rw[h1];rfl
  show af pg 93 [.str s]=M.pure (Val.mk 1 1 [] []).av;rw[C93,show cl az (.str s)= .str s from rfl];have e:S93 (af pg) ai (.str s)=M.pure (Val.mk 1 1 [] []).av:=by
   simp only[S93,es,e1,ay,ap,Gm,b1,Ed,aw,ac,aH,aQ];rfl
  rw[e];exact gw _
 ·have e1:(s== ([116,114,117,101]:aJ))=false:=G9.2 h1;by_cases h2:s=eU
  ·have hx:bz s=some (.mk 1 0 [] []):=by unfold bz;rw[if_neg h1,FY h2]
   rw[hx];have e2:(s== ([102,97,108,115,101]:aJ))=true:=by rw[h2];rfl
   show af pg 93 [.str s]=M.pure (Val.mk 1 0 [] []).av;rw[C93,show cl az (.str s)= .str s from rfl];have e:S93 (af pg) ai (.str s)=M.pure (Val.mk 1 0 [] []).av:=by
    simp only[S93,es,e1,e2,ay,ap,F7,Gl,Gm,b2,Ed,aw,ac,aH,aQ];rfl
   rw[e];exact gw _
  ·have e2:(s== ([102,97,108,115,101]:aJ))=false:=G9.2 h2;have hat:=t141 s hb;by_cases hok:∃n,Lib.atoiAll s= .ok n
   ·obtain⟨n,hv⟩:=hok;have hr:=Lib.atoiAll_bounds hv;have hit:=t50 n hr.1 hr.2;rw[jQ,hv]at hat;by_cases hq:cm n=s
    ·have hn:(cm n != s)=false:=by simp[hq]
     have hx:bz s=some (.mk 0 n [] []):=by unfold bz;rw[if_neg h1,if_neg h2,hv];exact FY hq
     rw[hx];show af pg 93 [.str s]=M.pure (Val.mk 0 n [] []).av;rw[C93,show cl az (.str s)= .str s from rfl];have e:S93 (af pg) ai (.str s)=M.pure (Val.mk 0 n [] []).av:=by
      simp only[S93,K93_0,cQ,es,e1,e2,ay,ap,F7,Gl,hat,aw,bD,Ga,Gx,nz,a8,hit,ns,hn,aH,aQ,bH,b3,Ed,ac];rfl
     rw[e];exact gw _
    ·have hn:(cm n != s)=true:=by simpa using hq
     have hx:bz s=none:=by unfold bz;rw[if_neg h1,if_neg h2,hv];exact if_neg hq
     rw[hx];intro h;rw[C93,show cl az (.str s)= .str s from rfl];refine tq (h':=[]) ?_ h;simp only[S93,K93_0,cQ,es,e1,e2,ay,ap,F7,Gl,hat,aw,bD,Ga,Gx,nz,a8,hit,ns,hn,aH,bH,Gm,b4,mi,tK];rfl
   ·have hx:bz s=none:=by
     unfold bz;rw[if_neg h1,if_neg h2];split
     ·rename_i n hv;exact absurd ⟨n,hv⟩ hok
     ·rfl
    have ha:∃a x,jQ 251 s= .tup [a,.iface 251 x]:=by
     unfold jQ;split
     ·rename_i n hv;exact absurd ⟨n,hv⟩ hok
     ·exact⟨_,_,rfl⟩
     ·exact⟨_,_,rfl⟩
    obtain⟨a,x,ha⟩:=ha;rw[ha]at hat;rw[hx];intro h;rw[C93,show cl az (.str s)= .str s from rfl];refine tq (h':=[]) ?_ h;simp only[S93,K93_0,cQ,es,e1,e2,ay,ap,F7,Gl,hat,aw,bD,Ga,Gx,nn,dX,List.replicate,bK,Gm,b4,mi,tK];rfl
end
end Go.Proofs.YtihmmkncokjbaaaGreatDoor
