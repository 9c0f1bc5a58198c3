/- What the functions of the seat compute, part 5: the texts of the claim, one behind the other. Conditions: bounds, as each theorem names them. -/
import Derived.Test.YtblddnfanlkgiaaGreatTd
set_option linter.defProp false
set_option linter.unusedSimpArgs false
set_option linter.unusedVariables false
namespace Go.Proofs.YtblddnfanlkgiaaGreat
open Go Go.Av Go.Av.Ap
set_option maxRecDepth 100000
noncomputable section
def K9_0(call:CC)(fx:bm AV)(a:RR)(b:List AV):M AV:=ae (ai (aw T .add 3 (nth b 2) (.int .i64 1))) fun c=>a [nth b 0,nth b 1,c]
def L9_0(call:CC)(fx:bm AV)(a:RR)(b:List AV):M AV:=ae (ai (aP T 22 (nth b 1))) fun c=>ae (ai (aw T .lss 3 (nth b 2) c)) fun d=>ax d (jn (K9_0 call fx a) fun e=>ae (ai (ak T 22 (nth b 1) (nth b 2))) fun f=>ae (ai (ah T 9 f)) fun g=>ae (call 27 [nth b 0,g]) fun h=>ae (ai (dO UnOp.not h)) fun i=>ax i (ae (ai (ak T 22 (nth b 1) (nth b 2))) fun j=>ae (ai (ah T 9 j)) fun k=>ae (ai (aK T 22 1 [(0,k)])) fun l=>ae (ai (ca T 22 (nth b 0) l)) fun m=>e [m,nth b 1,nth b 2]) (e [nth b 0,nth b 1,nth b 2])) (M.pure (nth b 0))
def XK9_0{call:CC}{a:RR}{b:Nat->RR}(c:bA a fun n=>b n):bA (K9_0 call aj a) fun n=>K9_0 call aj (b n):=by
 intro d;unfold K9_0;exact (lb fun _=>c _)
def XL9_0{call:CC}:bc (L9_0 call aj) fun _n=>L9_0 call aj  :=by
 intro a b c d;unfold L9_0;exact (lb fun _=>(lb fun _=>(au (oY (XK9_0 c) fun _ _ e=>(lb fun _=>(lb fun _=>(lb fun _=>(lb fun _=>(au (lb fun _=>(lb fun _=>(lb fun _=>(lb fun _=>e _)))) (e _))))))) (aQ.const _))))
def FL9_0(call:CC)(vs:List AV):aj (L9_0 call aj) vs=L9_0 call aj  (aj (L9_0 call aj)) vs:=aR (XL9_0) vs
def S9(call:CC)(fx:bm AV)(a0 a1 a2:AV):M AV:=ae (ai (aK T 22 0 [])) fun a=>ae (ai (ca T 22 a a0)) fun b=>ae (ai (ca T 22 b a1)) fun c=>ae (ai (ca T 22 c a2)) fun d=>fx (L9_0 call fx) [.sl [],d,.int .i64 0]
def E9(a0 a1 a2:AV):EE 9 Tryz.f9 GE [a0,a1,a2] (fun c x=>S9 c x a0 a1 a2):=fun _ _=>by kernel_rfl
def C9(a0 a1 a2:AV):af pg 9 [a0,a1,a2]=aJ (S9 (af pg) aj (cl ar a0) (cl ar a1) (cl ar a2)):=(ay aI rfl rfl rfl _).trans (JU aJ (E9 (cl ar a0) (cl ar a1) (cl ar a2) _ _))
def L16_0(call:CC)(fx:bm AV)(a:RR)(b:List AV):M AV:=ae (ai (aa T 29 (nth b 0) 4)) fun c=>ae (ai (ah T 25 c)) fun d=>ae (ai (aP T 25 d)) fun e=>ae (ai (aw T .lss 3 (nth b 1) e)) fun f=>ae (aA f true 1 (ae (ai (aw T .lss 3 (nth b 1) (.int .i64 7))) fun g=>M.pure [g])) fun h=>ae (ai (aM f (nth h 0) (.bool false))) fun i=>ax i (ae (ai (aa T 29 (nth b 0) 4)) fun j=>ae (ai (ah T 25 j)) fun k=>ae (ai (ak T 25 k (nth b 1))) fun l=>ae (ai (aa T 48 l 2)) fun m=>ae (ai (ah T 23 m)) fun n=>ae (call 43 [n]) fun o=>ae (ai (dO UnOp.not o)) fun p=>ae (aA p false 1 (ae (ai (aa T 29 (nth b 0) 4)) fun q=>ae (ai (ah T 25 q)) fun r=>ae (ai (ak T 25 r (nth b 1))) fun s=>ae (ai (aa T 48 s 3)) fun u=>ae (ai (ah T 44 u)) fun v=>ae (call 44 [v]) fun w=>ae (ai (dO UnOp.not w)) fun x=>M.pure [x])) fun y=>ae (ai (aM p (.bool true) (nth y 0))) fun z=>ae (aA z false 1 (ae (ai (aa T 29 (nth b 0) 4)) fun A=>ae (ai (ah T 25 A)) fun B=>ae (ai (ak T 25 B (nth b 1))) fun C=>ae (ai (aa T 48 C 5)) fun D=>ae (ai (ah T 46 D)) fun E=>ae (call 45 [E]) fun F=>ae (ai (dO UnOp.not F)) fun G=>M.pure [G])) fun H=>ae (ai (aM z (.bool true) (nth H 0))) fun I=>ax I (M.pure (AV.bool false)) (ae (ai (aw T .add 3 (nth b 1) (.int .i64 1))) fun J=>a [nth b 0,J])) (ae (ai (aa T 29 (nth b 0) 4)) fun K=>ae (ai (ah T 25 K)) fun L=>ae (ai (aP T 25 L)) fun N=>ae (ai (aw T .leq 3 N (.int .i64 6))) fun O=>ae (aA O true 1 (ae (ai (aa T 29 (nth b 0) 1)) fun P=>ae (ai (ah T 22 P)) fun Q=>ae (ai (aP T 22 Q)) fun R=>ae (ai (aw T .leq 3 R (.int .i64 6))) fun S=>M.pure [S])) fun U=>ae (ai (aM O (nth U 0) (.bool false))) fun V=>ae (aA V true 1 (ae (ai (aa T 29 (nth b 0) 2)) fun W=>ae (ai (ah T 23 W)) fun X=>ae (call 43 [X]) fun Y=>M.pure [Y])) fun Z=>ae (ai (aM V (nth Z 0) (.bool false))) fun u0=>ae (aA u0 true 1 (ae (ai (aa T 29 (nth b 0) 3)) fun u1=>ae (ai (ah T 24 u1)) fun u2=>ae (call 46 [u2]) fun u3=>M.pure [u3])) fun u4=>ae (ai (aM u0 (nth u4 0) (.bool false))) fun u5=>ae (aA u5 true 1 (ae (ai (aa T 29 (nth b 0) 6)) fun u6=>ae (ai (aa T 27 u6 0)) fun u7=>ae (ai (ah T 23 u7)) fun u8=>ae (call 43 [u8]) fun u9=>M.pure [u9])) fun w0=>ae (ai (aM u5 (nth w0 0) (.bool false))) fun w1=>ae (aA w1 true 1 (ae (ai (aa T 29 (nth b 0) 6)) fun w2=>ae (ai (aa T 27 w2 1)) fun w3=>ae (ai (ah T 24 w3)) fun w4=>ae (call 46 [w4]) fun w5=>M.pure [w5])) fun w6=>ae (ai (aM w1 (nth w6 0) (.bool false))) fun w7=>ae (aA w7 true 1 (ae (ai (aa T 29 (nth b 0) 6)) fun w8=>ae (ai (aa T 27 w8 2)) fun w9=>ae (ai (ah T 24 w9)) fun x0=>ae (call 46 [x0]) fun x1=>M.pure [x1])) fun x2=>ae (ai (aM w7 (nth x2 0) (.bool false))) fun x3=>M.pure x3)
def XL16_0{call:CC}:bc (L16_0 call aj) fun _n=>L16_0 call aj  :=by
 intro a b c d;unfold L16_0;exact (by(iterate 6 refine lb fun _=>?_);exact (au (by(iterate 11 refine lb fun _=>?_);exact (au (aQ.const _) (lb fun _=>c _))) (aQ.const _)))
def FL16_0(call:CC)(vs:List AV):aj (L16_0 call aj) vs=L16_0 call aj  (aj (L16_0 call aj)) vs:=aR (XL16_0) vs
def S16(call:CC)(fx:bm AV)(a0:AV):M AV:=fx (L16_0 call fx) [.ip (ab a0),.int .i64 0]
def E16(a0:AV):EE 16 Tryz.f16 CE [a0] (fun c x=>S16 c x a0):=fun _ _=>by kernel_rfl
def C16(a0:AV):af pg 16 [a0]=aJ (S16 (af pg) aj (cl ar a0)):=(ay aI rfl rfl rfl _).trans (JU aJ (E16 (cl ar a0) _ _))
def L17_0(call:CC)(fx:bm AV)(a:RR)(b:List AV):M AV:=ae (ai (aw T .lss 3 (nth b 2) (nth b 1))) fun c=>ax c (ae (ai (ak T 112 (nth b 0) (nth b 2))) fun d=>ae (ai (ah T 98 d)) fun e=>ae (aO 9 e) fun f=>ae (ai (aa T 98 (.ip (ab f)) 0)) fun g=>ae (ai (ah T 51 g)) fun h=>ae (ai (aK T 23 1 [(0,h)])) fun i=>ae (ai (ca T 23 (nth b 14) i)) fun j=>ae (ai (aa T 98 (.ip (ab f)) 1)) fun k=>ae (ai (ah T 46 k)) fun l=>ae (ai (aK T 24 1 [(0,l)])) fun m=>ae (ai (ca T 24 (nth b 15) m)) fun n=>ae (bR j) fun o=>ae (bR n) fun p=>ae (ai (aw T .add 3 (nth b 2) (.int .i64 1))) fun q=>a [nth b 0,nth b 1,q,nth b 3,nth b 4,nth b 5,nth b 6,nth b 7,nth b 8,nth b 9,nth b 10,nth b 11,nth b 12,nth b 13,j,n,nth b 16,nth b 17,nth b 18,nth b 19,nth b 20]) (ae (aH 9 [] (.agg [nth b 12,nth b 13,nth b 14,nth b 15,nth b 16,nth b 17,nth b 18,nth b 19,nth b 20])) fun r=>M.pure (AV.tup [.agg [nth (ab r) 0,nth (ab r) 1,nth (ab r) 2,nth (ab r) 3,nth (ab r) 4,nth (ab r) 5,nth (ab r) 6,nth (ab r) 7,nth (ab r) 8],.str [],.bool true]))
def K17_0(call:CC)(fx:bm AV)(a:List AV):M AV:=ae (call 61 [nth a 0,nth a 21]) fun b=>ae (ai (aD b 0)) fun c=>ae (ai (aD b 1)) fun d=>ae (ai (dO UnOp.not d)) fun e=>ax e (ae (ai (aY T false 29 [])) fun f=>ae (aH 9 [] f) fun g=>M.pure (AV.tup [.agg [nth (ab g) 0,nth (ab g) 1,nth (ab g) 2,nth (ab g) 3,nth (ab g) 4,nth (ab g) 5,nth (ab g) 6,nth (ab g) 7,nth (ab g) 8],.str [109,111,118,101],.bool false])) (ae (ai (aP T 112 c)) fun h=>fx (L17_0 call fx) [c,h,.int .i64 0,nth a 1,nth a 2,nth a 3,nth a 4,nth a 5,nth a 6,nth a 7,nth a 8,nth a 9,nth a 10,nth a 11,.sl [],.sl [],nth a 14,nth a 15,nth a 16,nth a 17,nth a 18])
def L17_1(call:CC)(fx:bm AV)(a:RR)(b:List AV):M AV:=ae (ai (aw T .lss 3 (nth b 8) (nth b 7))) fun c=>ax c (ae (ai (ak T 112 (nth b 6) (nth b 8))) fun d=>ae (ai (ah T 98 d)) fun e=>ae (aO 9 e) fun f=>ae (ai (aa T 98 (.ip (ab f)) 0)) fun g=>ae (ai (ah T 51 g)) fun h=>ae (ai (aK T 23 1 [(0,h)])) fun i=>ae (ai (ca T 23 (nth b 20) i)) fun j=>ae (ai (aa T 98 (.ip (ab f)) 1)) fun k=>ae (ai (ah T 46 k)) fun l=>ae (ai (aK T 24 1 [(0,l)])) fun m=>ae (ai (ca T 24 (nth b 21) m)) fun n=>ae (bR j) fun o=>ae (bR n) fun p=>ae (ai (aw T .add 3 (nth b 8) (.int .i64 1))) fun q=>a [nth b 0,nth b 1,nth b 2,nth b 3,nth b 4,nth b 5,nth b 6,nth b 7,q,nth b 9,nth b 10,nth b 11,nth b 12,nth b 13,nth b 14,nth b 15,nth b 16,nth b 17,nth b 18,nth b 19,j,n,nth b 22,nth b 23,nth b 24,nth b 25,nth b 26]) (ae (ai (ah T 105 (nth b 3))) fun r=>ae (ai (aa T 29 (nth b 0) 4)) fun s=>ae (ai (ah T 25 s)) fun u=>ae (ai (aa T 29 (nth b 1) 4)) fun v=>ae (ai (ah T 25 v)) fun w=>ae (ai (aa T 29 (nth b 2) 4)) fun x=>ae (ai (ah T 25 x)) fun y=>ae (call 58 [r,u,w,y]) fun z=>ae (ai (aD z 0)) fun A=>ae (ai (aD z 1)) fun B=>ae (ai (aD z 2)) fun C=>ae (bR A) fun D=>ae (ai (dO UnOp.not C)) fun E=>ax E (ae (ai (aY T false 29 [])) fun F=>ae (aH 9 [] F) fun G=>M.pure (AV.tup [.agg [nth (ab G) 0,nth (ab G) 1,nth (ab G) 2,nth (ab G) 3,nth (ab G) 4,nth (ab G) 5,nth (ab G) 6,nth (ab G) 7,nth (ab G) 8],B,.bool false])) (ae (ai (ah T 109 (nth b 4))) fun H=>ae (ai (ah T 29 (nth b 0))) fun I=>ae (bz (call 60 [I])) fun J=>ae (ai (ah T 29 (nth b 1))) fun K=>ae (bz (call 60 [K])) fun L=>ae (ai (ah T 29 (nth b 2))) fun N=>ae (bz (call 60 [N])) fun O=>ae (bz (call 59 [H,J,L,O])) fun P=>ae (ai (aD P 0)) fun Q=>ae (ai (aD P 1)) fun R=>ae (ai (aD P 2)) fun S=>ae (ai (dO UnOp.not S)) fun U=>ax U (ae (ai (aY T false 29 [])) fun V=>ae (aH 9 [] V) fun W=>M.pure (AV.tup [.agg [nth (ab W) 0,nth (ab W) 1,nth (ab W) 2,nth (ab W) 3,nth (ab W) 4,nth (ab W) 5,nth (ab W) 6,nth (ab W) 7,nth (ab W) 8],R,.bool false])) (ae (ai (aP T 118 Q)) fun X=>ae (ai (aw T .eql 3 X (.int .i64 0))) fun Y=>ax Y (ae (aH 9 [] (.agg [nth b 18,nth b 19,nth b 20,nth b 21,A,nth b 23,nth b 24,nth b 25,nth b 26])) fun Z=>M.pure (AV.tup [.agg [nth (ab Z) 0,nth (ab Z) 1,nth (ab Z) 2,nth (ab Z) 3,nth (ab Z) 4,nth (ab Z) 5,nth (ab Z) 6,nth (ab Z) 7,nth (ab Z) 8],.str [],.bool true])) (ae (ai (ak T 118 Q (.int .i64 0))) fun u0=>ae (ai (ah T 27 u0)) fun u1=>ae (bR (.bool true)) fun u2=>ae (aH 3 [] u1) fun u3=>ae (ai (ah T 29 (nth b 2))) fun u4=>ae (aH 9 [] u4) fun u5=>jn (K17_0 call fx) fun u6=>ae (ai (aa T 29 (nth b 1) 5)) fun u7=>ae (ai (ah T 4 u7)) fun u8=>ae (aA u8 true 1 (ae (ai (aa T 29 (nth b 1) 6)) fun u9=>ae (ai (ah T 27 u9)) fun v0=>ae (ai (ak T 118 Q (.int .i64 0))) fun v1=>ae (ai (ah T 27 v1)) fun v2=>ae (bz (call 54 [v0,v2])) fun v3=>M.pure [v3])) fun v4=>ae (ai (aM u8 (nth v4 0) (.bool false))) fun v5=>ax v5 (ae (ai (ah T 29 (nth b 1))) fun v6=>ae (aH 9 [] v6) fun v7=>u6 [nth b 5,nth b 9,nth b 10,nth b 11,nth b 12,nth b 13,nth b 14,nth b 15,nth b 16,nth b 17,nth b 18,nth b 19,nth b 20,nth b 21,A,u2,nth (ab u3) 0,nth (ab u3) 1,nth (ab u3) 2,nth (ab v7) 0,nth (ab v7) 1,nth (ab v7) 2,nth (ab v7) 3,nth (ab v7) 4,nth (ab v7) 5,nth (ab v7) 6,nth (ab v7) 7,nth (ab v7) 8]) (u6 [nth b 5,nth b 9,nth b 10,nth b 11,nth b 12,nth b 13,nth b 14,nth b 15,nth b 16,nth b 17,nth b 18,nth b 19,nth b 20,nth b 21,A,u2,nth (ab u3) 0,nth (ab u3) 1,nth (ab u3) 2,nth (ab u5) 0,nth (ab u5) 1,nth (ab u5) 2,nth (ab u5) 3,nth (ab u5) 4,nth (ab u5) 5,nth (ab u5) 6,nth (ab u5) 7,nth (ab u5) 8])))))
def XL17_0{call:CC}:bc (L17_0 call aj) fun _n=>L17_0 call aj  :=by
 intro a b c d;unfold L17_0;exact (lb fun _=>(au (by(iterate 14 refine lb fun _=>?_);exact (c _)) (aQ.const _)))
def FL17_0(call:CC)(vs:List AV):aj (L17_0 call aj) vs=L17_0 call aj  (aj (L17_0 call aj)) vs:=aR (XL17_0) vs
def XL17_1{call:CC}:bc (L17_1 call aj) fun _n=>L17_1 call aj  :=by
 intro a b c d;unfold L17_1;exact (lb fun _=>(au (by(iterate 14 refine lb fun _=>?_);exact (c _)) (aQ.const _)))
def FL17_1(call:CC)(vs:List AV):aj (L17_1 call aj) vs=L17_1 call aj  (aj (L17_1 call aj)) vs:=aR (XL17_1) vs
def S17(call:CC)(fx:bm AV)(a0 a1 a2:AV):M AV:=ae (ai (aa T 29 (.ip (ab a0)) 0)) fun a=>ae (ai (ah T 9 a)) fun b=>ae (ai (aY T true 29 [(0,b)])) fun c=>ae (aH 9 [2,3] c) fun d=>ae (ai (aY T false 96 [(0,.fn (Fn.func 47) [] []),(1,.fn (Fn.func 48) [] [])])) fun e=>ae (aO 2 e) fun f=>ae (ai (aY T false 102 [(0,.fn (Fn.func 49) [] []),(1,.fn (Fn.func 50) [] [])])) fun g=>ae (aO 2 g) fun h=>ae (ai (aY T false 105 [(0,.fn (Fn.func 51) [] []),(1,.fn (Fn.func 52) [] [])])) fun i=>ae (aO 2 i) fun j=>ae (ai (aY T false 109 [(0,.fn (Fn.func 53) [] []),(1,.fn (Fn.func 54) [] [])])) fun k=>ae (aO 2 k) fun l=>ae (ai (ah T 96 (.ip (ab f)))) fun m=>ae (ai (aa T 29 (.ip (ab a0)) 1)) fun n=>ae (ai (ah T 22 n)) fun o=>ae (ai (aa T 29 (.ip (ab a1)) 1)) fun p=>ae (ai (ah T 22 p)) fun q=>ae (ai (aa T 29 (.ip (ab a2)) 1)) fun r=>ae (ai (ah T 22 r)) fun s=>ae (call 55 [m,o,q,s]) fun u=>ae (ai (aD u 0)) fun v=>ae (ai (aD u 1)) fun w=>ae (ai (aD u 2)) fun x=>ae (bR v) fun y=>ae (ai (dO UnOp.not x)) fun z=>ax z (ae (ai (aY T false 29 [])) fun A=>ae (aH 9 [] A) fun B=>M.pure (AV.tup [.agg [nth (ab B) 0,nth (ab B) 1,nth (ab B) 2,nth (ab B) 3,nth (ab B) 4,nth (ab B) 5,nth (ab B) 6,nth (ab B) 7,nth (ab B) 8],w,.bool false])) (ae (ai (ah T 102 (.ip (ab h)))) fun C=>ae (ai (ah T 29 (.ip (ab a0)))) fun D=>ae (bz (call 57 [D])) fun E=>ae (ai (ah T 29 (.ip (ab a1)))) fun F=>ae (bz (call 57 [F])) fun G=>ae (ai (ah T 29 (.ip (ab a2)))) fun H=>ae (bz (call 57 [H])) fun I=>ae (bz (call 56 [C,E,G,I])) fun J=>ae (ai (aD J 0)) fun K=>ae (ai (aD J 1)) fun L=>ae (ai (aD J 2)) fun N=>ae (ai (dO UnOp.not N)) fun O=>ax O (ae (ai (aY T false 29 [])) fun P=>ae (aH 9 [] P) fun Q=>M.pure (AV.tup [.agg [nth (ab Q) 0,nth (ab Q) 1,nth (ab Q) 2,nth (ab Q) 3,nth (ab Q) 4,nth (ab Q) 5,nth (ab Q) 6,nth (ab Q) 7,nth (ab Q) 8],L,.bool false])) (ae (ai (aP T 112 K)) fun R=>fx (L17_1 call fx) [.ip (ab a0),.ip (ab a1),.ip (ab a2),.ip (ab j),.ip (ab l),K,K,R,.int .i64 0,.str [],.sl [],.sl [],.sl [],.sl [],.bool false,.sl [],.sl [],.sl [],nth (ab d) 0,v,.sl [],.sl [],nth (ab d) 4,nth (ab d) 5,nth (ab d) 6,nth (ab d) 7,nth (ab d) 8]))
def E17(a0 a1 a2:AV):EE 17 Tryz.f17 CF [a0,a1,a2] (fun c x=>S17 c x a0 a1 a2):=fun _ _=>by kernel_rfl
def C17(a0 a1 a2:AV):af pg 17 [a0,a1,a2]=aJ (S17 (af pg) aj (cl ar a0) (cl ar a1) (cl ar a2)):=(ay aI rfl rfl rfl _).trans (JU aJ (E17 (cl ar a0) (cl ar a1) (cl ar a2) _ _))
def L18_0(call:CC)(fx:bm AV)(a:RR)(b:RR)(c:List AV):M AV:=ae (ai (aw T .lss 3 (nth c 7) (nth c 6))) fun d=>ax d (ae (ai (ak T 54 (nth c 5) (nth c 7))) fun e=>ae (ai (ah T 90 e)) fun f=>ae (aO 5 f) fun g=>ae (ai (aa T 90 (.ip (ab g)) 2)) fun h=>ae (ai (ah T 44 h)) fun i=>ae (call 62 [i]) fun j=>ae (ai (dO UnOp.not j)) fun k=>ae (aA k false 1 (ae (ai (aa T 90 (.ip (ab g)) 1)) fun l=>ae (ai (ah T 88 l)) fun m=>ae (call 63 [m,.fn (Fn.func 64) [] []]) fun n=>M.pure [n])) fun o=>ae (ai (aM k (.bool true) (nth o 0))) fun p=>ax p (M.pure (AV.tup [AV.nilp,.bool false])) (ae (ai (aw T .add 3 (nth c 7) (.int .i64 1))) fun q=>b [nth c 0,nth c 1,nth c 2,nth c 3,nth c 4,nth c 5,nth c 6,q])) (ae (ai (cK (nth c 0))) fun r=>ae (ai (aa T 65 r 1)) fun s=>ae (bY T 63 s) fun u=>ae (ai (aa T 56 (nth c 1) 0)) fun v=>ae (ai (ah T 9 v)) fun w=>ae (eh T 63 u w true) fun x=>ae (ai (aD x 0)) fun y=>ae (ai (aD x 1)) fun z=>ae (aO 2 y) fun A=>ae (ai (dO UnOp.not z)) fun B=>ax B (ae (ai (cK (nth c 0))) fun C=>ae (ai (aa T 65 C 1)) fun D=>ae (bY T 63 D) fun E=>ae (ai (aa T 56 (nth c 1) 0)) fun F=>ae (ai (ah T 9 F)) fun G=>ae (ai (ah T 56 (nth c 1))) fun H=>ae (lY T 63 E G H) fun I=>ae (ai (aw T .add 3 (nth c 4) (.int .i64 1))) fun J=>a [nth c 0,nth c 2,nth c 3,J]) (ae (ai (aw T .add 3 (nth c 4) (.int .i64 1))) fun K=>a [nth c 0,nth c 2,nth c 3,K]))
def L18_1(call:CC)(fx:bm AV)(a:RR)(b:List AV):M AV:=ae (ai (aw T .lss 3 (nth b 3) (nth b 2))) fun c=>ax c (ae (ai (ak T 30 (nth b 1) (nth b 3))) fun d=>ae (ai (ah T 56 d)) fun e=>ae (aO 2 e) fun f=>ae (ai (aa T 56 (.ip (ab f)) 1)) fun g=>ae (ai (ah T 54 g)) fun h=>ae (ai (aP T 54 h)) fun i=>fx (L18_0 call fx a) [nth b 0,.ip (ab f),nth b 1,nth b 2,nth b 3,h,i,.int .i64 0]) (M.pure (AV.tup [nth b 0,.bool true]))
def XL18_0{call:CC}{a:RR}{b:Nat->RR}(c:bA a fun n=>b n):bc (L18_0 call aj a) fun n=>L18_0 call aj (b n):=by
 intro d e f g;unfold L18_0;exact (lb fun _=>(au (by(iterate 9 refine lb fun _=>?_);exact (au (aQ.const _) (lb fun _=>f _))) (by(iterate 10 refine lb fun _=>?_);exact (au (by(iterate 8 refine lb fun _=>?_);exact (c _)) (lb fun _=>c _)))))
def YL18_0{call:CC}{a:RR}{b:Nat->RR}(c:bA a fun n=>b n):bA (aj (L18_0 call aj a)) fun n=>aj (L18_0 call aj (b n)):=qF (XL18_0 c) (XL18_0 (bA.const _)) fun _=>XL18_0 (bA.const _)
def FL18_0(call:CC)(a:RR)(vs:List AV):aj (L18_0 call aj a) vs=L18_0 call aj a (aj (L18_0 call aj a)) vs:=aR (XL18_0 (bA.const _)) vs
def XL18_1{call:CC}:bc (L18_1 call aj) fun _n=>L18_1 call aj  :=by
 intro a b c d;unfold L18_1;exact (lb fun _=>(au (by(iterate 6 refine lb fun _=>?_);exact ((YL18_0 c) _)) (aQ.const _)))
def FL18_1(call:CC)(vs:List AV):aj (L18_1 call aj) vs=L18_1 call aj  (aj (L18_1 call aj)) vs:=aR (XL18_1) vs
def S18(call:CC)(fx:bm AV)(a0 a1:AV):M AV:=ae (ai (ah T 29 (.ip (ab a0)))) fun a=>ae fj fun b=>ae (ai (aY T true 65 [(0,a),(1,b)])) fun c=>ae (newH (ab c)) fun d=>ae (ai (aP T 30 a1)) fun e=>fx (L18_1 call fx) [d,a1,e,.int .i64 0]
def E18(a0 a1:AV):EE 18 Tryz.f18 CG [a0,a1] (fun c x=>S18 c x a0 a1):=fun _ _=>by kernel_rfl
def C18(a0 a1:AV):af pg 18 [a0,a1]=S18 (af pg) aj a0 a1:=(fD aI rfl rfl rfl _).trans (E18 a0 a1 _ _)
def K20_0(call:CC)(fx:bm AV)(a:List AV):M AV:=ae (ai (ah T 46 (nth a 0))) fun b=>ae (call 71 [b,nth a 1]) fun c=>ae (ai (aD c 0)) fun d=>ae (ai (aD c 1)) fun e=>ae (aH 2 [] d) fun f=>M.pure (AV.tup [.agg [nth (ab f) 0,nth (ab f) 1],e])
def K20_1(call:CC)(fx:bm AV)(a:List AV):M AV:=ax (nth a 4) (ae (ai (ah T 46 (nth a 2))) fun b=>ae (call 68 [nth a 0,nth a 1,b]) fun c=>ae (ai (aD c 0)) fun d=>ae (ai (aD c 1)) fun e=>ae (aH 2 [] d) fun f=>M.pure (AV.tup [.agg [nth (ab f) 0,nth (ab f) 1],e])) (ae (ai (aw T .eql 3 (nth a 3) (.int .i64 15))) fun g=>ax g (ae (ai (ah T 46 (nth a 2))) fun h=>ae (call 69 [nth a 0,nth a 1,h]) fun i=>ae (ai (aD i 0)) fun j=>ae (ai (aD i 1)) fun k=>ae (aH 2 [] j) fun l=>M.pure (AV.tup [.agg [nth (ab l) 0,nth (ab l) 1],k])) (ae (ai (aa T 46 (nth a 2) 5)) fun m=>ae (ai (ah T 24 m)) fun n=>ae (call 70 [nth a 0,nth a 1,n]) fun o=>ae (ai (aD o 0)) fun p=>ae (ai (aD o 1)) fun q=>ae (ai (aw T .neq 33 q (.int .i64 0))) fun r=>ax r (ae (ai (aY T false 44 [])) fun s=>ae (aH 2 [] s) fun u=>M.pure (AV.tup [.agg [nth (ab u) 0,nth (ab u) 1],q])) (jn (K20_0 call fx) fun v=>ae (ai (aa T 46 (nth a 2) 0)) fun w=>ae (ai (ah T 3 w)) fun x=>ae (ai (aw T .eql 3 x (.int .i64 16))) fun y=>ax y (ae (ai (cK (nth a 0))) fun z=>ae (ai (aa T 65 z 2)) fun A=>ae (bY T 3 A) fun B=>ae (ai (aa T 46 (nth a 2) 1)) fun C=>ae (ai (ah T 3 C)) fun D=>ae (ai (aw T .or 3 B D)) fun E=>ae (ai (cK (nth a 0))) fun F=>ae (ai (aa T 65 F 2)) fun G=>ae (cC T 3 G E) fun H=>v [nth a 2,p,nth a 5,nth a 6]) (v [nth a 2,p,nth a 5,nth a 6]))))
def S20(call:CC)(fx:bm AV)(a0 a1 a2:AV):M AV:=ae (ai (aa T 46 (.ip (ab a2)) 0)) fun a=>ae (ai (ah T 3 a)) fun b=>ae (ai (aw T .eql 3 b (.int .i64 2))) fun c=>ax c (ae (ai (aa T 46 (.ip (ab a2)) 2)) fun d=>ae (ai (ah T 9 d)) fun e=>ae (call 66 [a1,e]) fun f=>ae (ai (aD f 0)) fun g=>ae (ai (aD f 1)) fun h=>ae (aO 2 g) fun i=>ax h (ae (ai (ah T 44 (.ip (ab i)))) fun j=>ae (aH 2 [] j) fun k=>M.pure (AV.tup [.agg [nth (ab k) 0,nth (ab k) 1],.int .i64 0])) (ae (ai (aY T false 44 [])) fun l=>ae (aH 2 [] l) fun m=>M.pure (AV.tup [.agg [nth (ab m) 0,nth (ab m) 1],.int .i64 12]))) (ae (ai (aw T .eql 3 b (.int .i64 12))) fun n=>ax n (ae (ai (aa T 46 (.ip (ab a2)) 5)) fun o=>ae (ai (ah T 24 o)) fun p=>ae (ai (ak T 24 p (.int .i64 0))) fun q=>ae (ai (ah T 46 q)) fun r=>ae (call 20 [a0,a1,r]) fun s=>ae (ai (aD s 0)) fun u=>ae (ai (aD s 1)) fun v=>ae (aO 2 u) fun w=>ae (ai (aw T .neq 33 v (.int .i64 0))) fun x=>ax x (ae (ai (aY T false 44 [])) fun y=>ae (aH 2 [] y) fun z=>M.pure (AV.tup [.agg [nth (ab z) 0,nth (ab z) 1],v])) (ae (ai (aa T 46 (.ip (ab a2)) 2)) fun A=>ae (ai (ah T 9 A)) fun B=>ae (ai (ah T 44 (.ip (ab w)))) fun C=>ae (ai (aY T false 51 [(0,B),(1,C)])) fun D=>ae (ai (aK T 23 1 [(0,D)])) fun E=>ae (ai (aa T 46 (.ip (ab a2)) 5)) fun F=>ae (ai (ah T 24 F)) fun G=>ae (ai (ak T 24 G (.int .i64 1))) fun H=>ae (ai (ah T 46 H)) fun I=>ae (call 67 [a1]) fun J=>ae (ai (ca T 23 J E)) fun K=>ae (call 20 [a0,K,I]) fun L=>ae (ai (aD L 0)) fun N=>ae (ai (aD L 1)) fun O=>ae (aH 2 [] N) fun P=>M.pure (AV.tup [.agg [nth (ab P) 0,nth (ab P) 1],O]))) (jn (K20_1 call fx) fun Q=>ae (ai (aw T .eql 3 b (.int .i64 17))) fun R=>ax R (Q [a0,a1,.ip (ab a2),b,R,.int .i64 0,.sl []]) (ae (ai (aw T .eql 3 b (.int .i64 18))) fun S=>Q [a0,a1,.ip (ab a2),b,S,.int .i64 0,.sl []])))
def E20(a0 a1 a2:AV):EE 20 Tryz.f20 CI [a0,a1,a2] (fun c x=>S20 c x a0 a1 a2):=fun _ _=>by kernel_rfl
def C20(a0 a1 a2:AV):af pg 20 [a0,a1,a2]=S20 (af pg) aj a0 a1 a2:=(fD aI rfl rfl rfl _).trans (E20 a0 a1 a2 _ _)
def L23_0(call:CC)(fx:bm AV)(a:RR)(b:List AV):M AV:=ae (ai (aw T .lss 3 (nth b 5) (nth b 4))) fun c=>ax c (ae (ai (ak T 23 (nth b 3) (nth b 5))) fun d=>ae (ai (ah T 51 d)) fun e=>ae (aO 3 e) fun f=>ae (ai (aa T 51 (.ip (ab f)) 0)) fun g=>ae (ai (ah T 9 g)) fun h=>ae (eh T 70 (nth b 2) h false) fun i=>ae (aA i false 1 (ae (ai (aa T 51 (.ip (ab f)) 0)) fun j=>ae (ai (ah T 9 j)) fun k=>ae (call 22 [k]) fun l=>ae (ai (dO UnOp.not l)) fun m=>M.pure [m])) fun n=>ae (ai (aM i (.bool true) (nth n 0))) fun o=>ae (aA o false 1 (ae (ai (aa T 51 (.ip (ab f)) 1)) fun p=>ae (ai (ah T 44 p)) fun q=>ae (call 24 [q]) fun r=>ae (ai (dO UnOp.not r)) fun s=>M.pure [s])) fun u=>ae (ai (aM o (.bool true) (nth u 0))) fun v=>ax v (M.pure (AV.bool false)) (ae (ai (aa T 51 (.ip (ab f)) 0)) fun w=>ae (ai (ah T 9 w)) fun x=>ae (lY T 70 (nth b 2) x (.bool true)) fun y=>ae (ai (aw T .add 3 (nth b 5) (.int .i64 1))) fun z=>a [nth b 0,nth b 1,nth b 2,nth b 3,nth b 4,z])) (ae (ai (aP T 23 (nth b 0))) fun A=>ae (ai (aw T .leq 3 A (nth b 1))) fun B=>M.pure B)
def XL23_0{call:CC}:bc (L23_0 call aj) fun _n=>L23_0 call aj  :=by
 intro a b c d;unfold L23_0;exact (lb fun _=>(au (by(iterate 10 refine lb fun _=>?_);exact (au (aQ.const _) (lb fun _=>(lb fun _=>(lb fun _=>(lb fun _=>c _)))))) (aQ.const _)))
def FL23_0(call:CC)(vs:List AV):aj (L23_0 call aj) vs=L23_0 call aj  (aj (L23_0 call aj)) vs:=aR (XL23_0) vs
def S23(call:CC)(fx:bm AV)(a0 a1:AV):M AV:=ae fj fun a=>ae (ai (aP T 23 a0)) fun b=>fx (L23_0 call fx) [a0,a1,a,a0,b,.int .i64 0]
def E23(a0 a1:AV):EE 23 Tryz.f23 CL [a0,a1] (fun c x=>S23 c x a0 a1):=fun _ _=>by kernel_rfl
def C23(a0 a1:AV):af pg 23 [a0,a1]=aJ (S23 (af pg) aj (cl ar a0) (cl ar a1)):=(ay aI rfl rfl rfl _).trans (JU aJ (E23 (cl ar a0) (cl ar a1) _ _))
def S37(call:CC)(fx:bm AV)(a0 a1:AV):M AV:=ae (ai (aa T 44 (.ip (ab a0)) 0)) fun a=>ae (ai (ah T 3 a)) fun b=>ae (ai (aa T 44 (.ip (ab a1)) 0)) fun c=>ae (ai (ah T 3 c)) fun d=>ae (ai (aw T .eql 3 b d)) fun e=>ae (aA e true 1 (ae (ai (aa T 44 (.ip (ab a0)) 1)) fun f=>ae (ai (ah T 23 f)) fun g=>ae (ai (aa T 44 (.ip (ab a1)) 1)) fun h=>ae (ai (ah T 23 h)) fun i=>ae (call 35 [g,i,.fn (Fn.func 36) [] []]) fun j=>M.pure [j])) fun k=>ae (ai (aM e (nth k 0) (.bool false))) fun l=>M.pure l
def E37(a0 a1:AV):EE 37 Tryz.f37 CZ [a0,a1] (fun c x=>S37 c x a0 a1):=fun _ _=>by kernel_rfl
def C37(a0 a1:AV):af pg 37 [a0,a1]=aJ (S37 (af pg) aj (cl ar a0) (cl ar a1)):=(ay aI rfl rfl rfl _).trans (JU aJ (E37 (cl ar a0) (cl ar a1) _ _))
def K55_0(call:CC)(fx:bm AV)(a:RR)(b:List AV):M AV:=ax (nth b 11) (ae (ai (ca T 22 (nth b 4) (nth b 7))) fun c=>ae (ai (aw T .add 3 (nth b 10) (.int .i64 1))) fun d=>a [nth b 0,nth b 1,nth b 2,nth b 3,c,nth b 5,nth b 8,nth b 9,d]) (M.pure (AV.tup [.sl [],nth b 6,.bool false]))
def L55_0(call:CC)(fx:bm AV)(a:RR)(b:List AV):M AV:=ae (ai (aw T .lss 3 (nth b 8) (nth b 7))) fun c=>ax c (ae (ai (ak T 22 (nth b 6) (nth b 8))) fun d=>ae (ai (ah T 9 d)) fun e=>ae (ai (aa T 96 (nth b 3) 0)) fun f=>ae (ai (ah T 93 f)) fun g=>ae (aW call g [e]) fun h=>ae (call 83 [nth b 5,h]) fun i=>ax i (ae (ai (aw T .add 3 (nth b 8) (.int .i64 1))) fun j=>a [nth b 0,nth b 1,nth b 2,nth b 3,nth b 4,nth b 5,nth b 6,nth b 7,j]) (ae (ai (aK T 22 1 [(0,h)])) fun k=>ae (ai (ca T 22 (nth b 5) k)) fun l=>ae (ai (ah T 96 (nth b 3))) fun m=>ae (bz (call 84 [m,nth b 0,h])) fun n=>ae (ai (ah T 96 (nth b 3))) fun o=>ae (bz (call 84 [o,nth b 1,h])) fun p=>ae (ai (ah T 96 (nth b 3))) fun q=>ae (bz (call 84 [q,nth b 2,h])) fun r=>ae (ai (aa T 96 (nth b 3) 1)) fun s=>ae (ai (ah T 94 s)) fun u=>ae (call 85 [n,p,u]) fun v=>ax v (ae (ai (ca T 22 (nth b 4) r)) fun w=>ae (ai (aw T .add 3 (nth b 8) (.int .i64 1))) fun x=>a [nth b 0,nth b 1,nth b 2,nth b 3,w,l,nth b 6,nth b 7,x]) (jn (K55_0 call fx a) fun y=>ae (ai (aa T 96 (nth b 3) 1)) fun z=>ae (ai (ah T 94 z)) fun A=>ae (call 85 [n,r,A]) fun B=>ax B (y [nth b 0,nth b 1,nth b 2,nth b 3,nth b 4,l,h,p,nth b 6,nth b 7,nth b 8,B]) (ae (ai (aa T 96 (nth b 3) 1)) fun C=>ae (ai (ah T 94 C)) fun D=>ae (call 85 [p,r,D]) fun E=>y [nth b 0,nth b 1,nth b 2,nth b 3,nth b 4,l,h,p,nth b 6,nth b 7,nth b 8,E])))) (M.pure (AV.tup [nth b 4,.str [],.bool true]))
def XK55_0{call:CC}{a:RR}{b:Nat->RR}(c:bA a fun n=>b n):bA (K55_0 call aj a) fun n=>K55_0 call aj (b n):=by
 intro d;unfold K55_0;exact (au (lb fun _=>(lb fun _=>c _)) (aQ.const _))
def XL55_0{call:CC}:bc (L55_0 call aj) fun _n=>L55_0 call aj  :=by
 intro a b c d;unfold L55_0;exact (lb fun _=>(au (by(iterate 6 refine lb fun _=>?_);exact (au (lb fun _=>c _) (by(iterate 11 refine lb fun _=>?_);exact (au (lb fun _=>(lb fun _=>c _)) (oY (XK55_0 c) fun _ _ e=>(lb fun _=>(lb fun _=>(lb fun _=>(au (e _) (lb fun _=>(lb fun _=>(lb fun _=>e _)))))))))))) (aQ.const _)))
def FL55_0(call:CC)(vs:List AV):aj (L55_0 call aj) vs=L55_0 call aj  (aj (L55_0 call aj)) vs:=aR (XL55_0) vs
def S55(call:CC)(fx:bm AV)(a0 a1 a2 a3:AV):M AV:=ae (ai (aK T 165 3 [(0,a1),(1,a2),(2,a3)])) fun a=>ae (call 82 [a]) fun b=>ae (ai (aP T 22 b)) fun c=>fx (L55_0 call fx) [a1,a2,a3,.ip (ab a0),.sl [],.sl [],b,c,.int .i64 0]
def E55(a0 a1 a2 a3:AV):EE 55 Tryz.f55 Dn [a0,a1,a2,a3] (fun c x=>S55 c x a0 a1 a2 a3):=fun _ _=>by kernel_rfl
def C55(a0 a1 a2 a3:AV):af pg 55 [a0,a1,a2,a3]=aJ (S55 (af pg) aj (cl ar a0) (cl ar a1) (cl ar a2) (cl ar a3)):=(ay aI rfl rfl rfl _).trans (JU aJ (E55 (cl ar a0) (cl ar a1) (cl ar a2) (cl ar a3) _ _))
def L57_0(call:CC)(fx:bm AV)(a:RR)(b:List AV):M AV:=ae (ai (aw T .lss 3 (nth b 4) (nth b 3))) fun c=>ax c (ae (ai (ak T 23 (nth b 2) (nth b 4))) fun d=>ae (ai (ah T 51 d)) fun e=>ae (aO 3 e) fun f=>ae (ai (ah T 51 (.ip (ab f)))) fun g=>ae (ai (aa T 29 (nth b 0) 3)) fun h=>ae (ai (ah T 24 h)) fun i=>ae (ai (ak T 24 i (nth b 4))) fun j=>ae (ai (ah T 46 j)) fun k=>ae (ai (aY T false 98 [(0,g),(1,k)])) fun l=>ae (ai (aK T 112 1 [(0,l)])) fun m=>ae (ai (ca T 112 (nth b 1) m)) fun n=>ae (ai (aw T .add 3 (nth b 4) (.int .i64 1))) fun o=>a [nth b 0,n,nth b 2,nth b 3,o]) (M.pure (nth b 1))
def XL57_0{call:CC}:bc (L57_0 call aj) fun _n=>L57_0 call aj  :=by
 intro a b c d;unfold L57_0;exact (lb fun _=>(au (by(iterate 12 refine lb fun _=>?_);exact (c _)) (aQ.const _)))
def FL57_0(call:CC)(vs:List AV):aj (L57_0 call aj) vs=L57_0 call aj  (aj (L57_0 call aj)) vs:=aR (XL57_0) vs
def S57(call:CC)(fx:bm AV)(a0:AV):M AV:=ae (ai (aa T 29 (.ip (ab a0)) 2)) fun a=>ae (ai (ah T 23 a)) fun b=>ae (ai (aP T 23 b)) fun c=>fx (L57_0 call fx) [.ip (ab a0),.sl [],b,c,.int .i64 0]
def E57(a0:AV):EE 57 Tryz.f57 Dp [a0] (fun c x=>S57 c x a0):=fun _ _=>by kernel_rfl
def C57(a0:AV):af pg 57 [a0]=aJ (S57 (af pg) aj (cl ar a0)):=(ay aI rfl rfl rfl _).trans (JU aJ (E57 (cl ar a0) _ _))
def S60(call:CC)(fx:bm AV)(a0:AV):M AV:=ae (ai (aa T 29 (.ip (ab a0)) 5)) fun a=>ae (ai (ah T 4 a)) fun b=>ae (ai (dO UnOp.not b)) fun c=>ax c (M.pure (AV.sl [])) (ae (ai (aa T 29 (.ip (ab a0)) 6)) fun d=>ae (ai (ah T 27 d)) fun e=>ae (ai (aK T 118 1 [(0,e)])) fun f=>M.pure f)
def E60(a0:AV):EE 60 Tryz.f60 Dt [a0] (fun c x=>S60 c x a0):=fun _ _=>by kernel_rfl
def C60(a0:AV):af pg 60 [a0]=aJ (S60 (af pg) aj (cl ar a0)):=(ay aI rfl rfl rfl _).trans (JU aJ (E60 (cl ar a0) _ _))
def L61_0(call:CC)(fx:bm AV)(a:RR)(b:List AV):M AV:=ae (ai (aw T .lss 3 (nth b 4) (nth b 3))) fun c=>ax c (ae (ai (ak T 23 (nth b 2) (nth b 4))) fun d=>ae (ai (ah T 51 d)) fun e=>ae (aO 3 e) fun f=>ae (call 94 [nth b 0,.fn (Fn.func 95) [] [.ip (ab f)]]) fun g=>ae (ai (aw T .lss 3 g (.int .i64 0))) fun h=>ax h (M.pure (AV.tup [.sl [],.bool false])) (ae (ai (ak T 112 (nth b 0) g)) fun i=>ae (ai (ah T 98 i)) fun j=>ae (ai (aK T 112 1 [(0,j)])) fun k=>ae (ai (ca T 112 (nth b 1) k)) fun l=>ae (ai (aw T .add 3 (nth b 4) (.int .i64 1))) fun m=>a [nth b 0,l,nth b 2,nth b 3,m])) (ae (ai (aP T 112 (nth b 1))) fun n=>ae (ai (aP T 112 (nth b 0))) fun o=>ae (ai (aw T .eql 3 n o)) fun p=>M.pure (AV.tup [nth b 1,p]))
def XL61_0{call:CC}:bc (L61_0 call aj) fun _n=>L61_0 call aj  :=by
 intro a b c d;unfold L61_0;exact (lb fun _=>(au (by(iterate 5 refine lb fun _=>?_);exact (au (aQ.const _) (by(iterate 5 refine lb fun _=>?_);exact (c _)))) (aQ.const _)))
def FL61_0(call:CC)(vs:List AV):aj (L61_0 call aj) vs=L61_0 call aj  (aj (L61_0 call aj)) vs:=aR (XL61_0) vs
def S61(call:CC)(fx:bm AV)(a0 a1:AV):M AV:=ae (ai (aP T 23 a1)) fun a=>fx (L61_0 call fx) [a0,.sl [],a1,a,.int .i64 0]
def E61(a0 a1:AV):EE 61 Tryz.f61 Du [a0,a1] (fun c x=>S61 c x a0 a1):=fun _ _=>by kernel_rfl
def C61(a0 a1:AV):af pg 61 [a0,a1]=aJ (S61 (af pg) aj (cl ar a0) (cl ar a1)):=(ay aI rfl rfl rfl _).trans (JU aJ (E61 (cl ar a0) (cl ar a1) _ _))
def S62(call:CC)(fx:bm AV)(a0:AV):M AV:=ae (ai (ah T 44 (.ip (ab a0)))) fun a=>ae (call 24 [a]) fun b=>M.pure b
def E62(a0:AV):EE 62 Tryz.f62 Dv [a0] (fun c x=>S62 c x a0):=fun _ _=>by kernel_rfl
def C62(a0:AV):af pg 62 [a0]=aJ (S62 (af pg) aj (cl ar a0)):=(ay aI rfl rfl rfl _).trans (JU aJ (E62 (cl ar a0) _ _))
def S64(call:CC)(fx:bm AV)(a0:AV):M AV:=ae (ai (ah T 44 (.ip (ab a0)))) fun a=>ae (call 62 [a]) fun b=>ae (ai (dO UnOp.not b)) fun c=>M.pure c
def E64(a0:AV):EE 64 Tryz.f64 Dx [a0] (fun c x=>S64 c x a0):=fun _ _=>by kernel_rfl
def C64(a0:AV):af pg 64 [a0]=aJ (S64 (af pg) aj (cl ar a0)):=(ay aI rfl rfl rfl _).trans (JU aJ (E64 (cl ar a0) _ _))
def S72(call:CC)(fx:bm AV)(a0 a1:AV):M AV:=ae (call 102 [a0,a1]) fun a=>ae (ai (aw T .geq 3 a (.int .i64 0))) fun b=>M.pure b
def E72(a0 a1:AV):EE 72 Tryz.f72 DG [a0,a1] (fun c x=>S72 c x a0 a1):=fun _ _=>by kernel_rfl
def C72(a0 a1:AV):af pg 72 [a0,a1]=aJ (S72 (af pg) aj (cl ar a0) (cl ar a1)):=(ay aI rfl rfl rfl _).trans (JU aJ (E72 (cl ar a0) (cl ar a1) _ _))
def L77_0(call:CC)(fx:bm AV)(a:RR)(b:List AV):M AV:=ae (ai (aw T .lss 3 (nth b 3) (nth b 2))) fun c=>ax c (ae (ai (ak T 24 (nth b 1) (nth b 3))) fun d=>ae (ai (ah T 46 d)) fun e=>ae (aO 6 e) fun f=>ae (ai (ah T 46 (.ip (ab f)))) fun g=>ae (ai (aw T .sub 3 (nth b 0) (.int .i64 1))) fun h=>ae (call 77 [g,h]) fun i=>ae (ai (dO UnOp.not i)) fun j=>ax j (M.pure (AV.bool false)) (ae (ai (aw T .add 3 (nth b 3) (.int .i64 1))) fun k=>a [nth b 0,nth b 1,nth b 2,k])) (M.pure (AV.bool true))
def XL77_0{call:CC}:bc (L77_0 call aj) fun _n=>L77_0 call aj  :=by
 intro a b c d;unfold L77_0;exact (lb fun _=>(au (by(iterate 7 refine lb fun _=>?_);exact (au (aQ.const _) (lb fun _=>c _))) (aQ.const _)))
def FL77_0(call:CC)(vs:List AV):aj (L77_0 call aj) vs=L77_0 call aj  (aj (L77_0 call aj)) vs:=aR (XL77_0) vs
def S77(call:CC)(fx:bm AV)(a0 a1:AV):M AV:=ae (ai (aw T .eql 3 a1 (.int .i64 0))) fun a=>ae (aA a false 1 (ae (ai (aa T 46 (.ip (ab a0)) 0)) fun b=>ae (ai (ah T 3 b)) fun c=>ae (ai (aw T .lss 3 c (.int .i64 0))) fun d=>M.pure [d])) fun e=>ae (ai (aM a (.bool true) (nth e 0))) fun f=>ae (aA f false 1 (ae (ai (aa T 46 (.ip (ab a0)) 0)) fun g=>ae (ai (ah T 3 g)) fun h=>ae (ai (aw T .geq 3 h (.int .i64 19))) fun i=>M.pure [i])) fun j=>ae (ai (aM f (.bool true) (nth j 0))) fun k=>ax k (M.pure (AV.bool false)) (ae (ai (ah T 46 (.ip (ab a0)))) fun l=>ae (call 108 [l]) fun m=>ae (ai (aD m 0)) fun n=>ae (ai (aD m 1)) fun o=>ae (aO 6 n) fun p=>ae (ai (aw T .geq 3 o (.int .i64 0))) fun q=>ae (aA q true 1 (ae (ai (aa T 46 (.ip (ab a0)) 5)) fun r=>ae (ai (ah T 24 r)) fun s=>ae (ai (aP T 24 s)) fun u=>ae (ai (aw T .neq 3 o u)) fun v=>M.pure [v])) fun w=>ae (ai (aM q (nth w 0) (.bool false))) fun x=>ae (aA x false 1 (ae (ai (aa T 46 (.ip (ab p)) 1)) fun y=>ae (ai (ah T 3 y)) fun z=>ae (ai (aa T 46 (.ip (ab a0)) 1)) fun A=>ae (ai (ah T 3 A)) fun B=>ae (ai (aw T .neq 3 z B)) fun C=>M.pure [C])) fun D=>ae (ai (aM x (.bool true) (nth D 0))) fun E=>ae (aA E false 1 (ae (ai (aa T 46 (.ip (ab p)) 2)) fun F=>ae (ai (ah T 9 F)) fun G=>ae (ai (aa T 46 (.ip (ab a0)) 2)) fun H=>ae (ai (ah T 9 H)) fun I=>ae (ai (aw T .neq 9 G I)) fun J=>M.pure [J])) fun K=>ae (ai (aM E (.bool true) (nth K 0))) fun L=>ae (aA L false 1 (ae (ai (aa T 46 (.ip (ab p)) 3)) fun N=>ae (ai (ah T 9 N)) fun O=>ae (ai (aa T 46 (.ip (ab a0)) 3)) fun P=>ae (ai (ah T 9 P)) fun Q=>ae (ai (aw T .neq 9 O Q)) fun R=>M.pure [R])) fun S=>ae (ai (aM L (.bool true) (nth S 0))) fun U=>ae (aA U false 1 (ae (ai (aa T 46 (.ip (ab p)) 4)) fun V=>ae (ai (ah T 22 V)) fun W=>ae (ai (aP T 22 W)) fun X=>ae (ai (aa T 46 (.ip (ab a0)) 4)) fun Y=>ae (ai (ah T 22 Y)) fun Z=>ae (ai (aP T 22 Z)) fun u0=>ae (ai (aw T .neq 3 X u0)) fun u1=>M.pure [u1])) fun u2=>ae (ai (aM U (.bool true) (nth u2 0))) fun u3=>ae (aA u3 false 1 (ae (ai (ah T 46 (.ip (ab a0)))) fun u4=>ae (call 109 [u4]) fun u5=>ae (ai (dO UnOp.not u5)) fun u6=>M.pure [u6])) fun u7=>ae (ai (aM u3 (.bool true) (nth u7 0))) fun u8=>ax u8 (M.pure (AV.bool false)) (ae (ai (aa T 46 (.ip (ab a0)) 5)) fun u9=>ae (ai (ah T 24 u9)) fun w0=>ae (ai (aP T 24 w0)) fun w1=>fx (L77_0 call fx) [a1,w0,w1,.int .i64 0]))
def E77(a0 a1:AV):EE 77 Tryz.f77 DL [a0,a1] (fun c x=>S77 c x a0 a1):=fun _ _=>by kernel_rfl
def C77(a0 a1:AV):af pg 77 [a0,a1]=aJ (S77 (af pg) aj (cl ar a0) (cl ar a1)):=(ay aI rfl rfl rfl _).trans (JU aJ (E77 (cl ar a0) (cl ar a1) _ _))
def L78_0(call:CC)(fx:bm AV)(a:RR)(b:List AV):M AV:=ae (ai (aP T 22 (nth b 0))) fun c=>ae (ai (aw T .lss 3 (nth b 2) c)) fun d=>ax d (ae (ai (ak T 22 (nth b 0) (nth b 2))) fun e=>ae (ai (ah T 9 e)) fun f=>ae (ai (ak T 22 (nth b 1) (nth b 2))) fun g=>ae (ai (ah T 9 g)) fun h=>ae (ai (aw T .neq 9 f h)) fun i=>ax i (M.pure (AV.bool false)) (ae (ai (aw T .add 3 (nth b 2) (.int .i64 1))) fun j=>a [nth b 0,nth b 1,j])) (M.pure (AV.bool true))
def XL78_0{call:CC}:bc (L78_0 call aj) fun _n=>L78_0 call aj  :=by
 intro a b c d;unfold L78_0;exact (lb fun _=>(lb fun _=>(au (by(iterate 5 refine lb fun _=>?_);exact (au (aQ.const _) (lb fun _=>c _))) (aQ.const _))))
def FL78_0(call:CC)(vs:List AV):aj (L78_0 call aj) vs=L78_0 call aj  (aj (L78_0 call aj)) vs:=aR (XL78_0) vs
def S78(call:CC)(fx:bm AV)(a0 a1:AV):M AV:=ae (ai (aP T 22 a0)) fun a=>ae (ai (aP T 22 a1)) fun b=>ae (ai (aw T .neq 3 a b)) fun c=>ax c (M.pure (AV.bool false)) (fx (L78_0 call fx) [a0,a1,.int .i64 0])
def E78(a0 a1:AV):EE 78 Tryz.f78 DN [a0,a1] (fun c x=>S78 c x a0 a1):=fun _ _=>by kernel_rfl
def C78(a0 a1:AV):af pg 78 [a0,a1]=aJ (S78 (af pg) aj (cl ar a0) (cl ar a1)):=(ay aI rfl rfl rfl _).trans (JU aJ (E78 (cl ar a0) (cl ar a1) _ _))
def L79_0(call:CC)(fx:bm AV)(a:RR)(b:List AV):M AV:=ae (ai (aa T 44 (nth b 2) 1)) fun c=>ae (ai (ah T 23 c)) fun d=>ae (ai (aP T 23 d)) fun e=>ae (ai (aw T .lss 3 (nth b 4) e)) fun f=>ae (aA f true 1 (ae (ai (aw T .leq 3 (nth b 3) (nth b 0))) fun g=>M.pure [g])) fun h=>ae (ai (aM f (nth h 0) (.bool false))) fun i=>ax i (ae (ai (aa T 44 (nth b 2) 1)) fun j=>ae (ai (ah T 23 j)) fun k=>ae (ai (ak T 23 k (nth b 4))) fun l=>ae (ai (aa T 51 l 1)) fun m=>ae (ai (ah T 44 m)) fun n=>ae (ai (aw T .sub 3 (nth b 0) (nth b 3))) fun o=>ae (ai (aw T .sub 3 (nth b 1) (.int .i64 1))) fun p=>ae (call 79 [n,o,p]) fun q=>ae (ai (aw T .add 3 (nth b 3) q)) fun r=>ae (ai (aw T .add 3 (nth b 4) (.int .i64 1))) fun s=>a [nth b 0,nth b 1,nth b 2,r,s]) (M.pure (nth b 3))
def XL79_0{call:CC}:bc (L79_0 call aj) fun _n=>L79_0 call aj  :=by
 intro a b c d;unfold L79_0;exact (by(iterate 6 refine lb fun _=>?_);exact (au (by(iterate 10 refine lb fun _=>?_);exact (c _)) (aQ.const _)))
def FL79_0(call:CC)(vs:List AV):aj (L79_0 call aj) vs=L79_0 call aj  (aj (L79_0 call aj)) vs:=aR (XL79_0) vs
def S79(call:CC)(fx:bm AV)(a0 a1 a2:AV):M AV:=ae (ai (aw T .lss 3 a2 (.int .i64 1))) fun a=>ax a (ae (ai (aw T .add 3 a1 (.int .i64 1))) fun b=>M.pure b) (fx (L79_0 call fx) [a1,a2,.ip (ab a0),.int .i64 1,.int .i64 0])
def E79(a0 a1 a2:AV):EE 79 Tryz.f79 DO [a0,a1,a2] (fun c x=>S79 c x a0 a1 a2):=fun _ _=>by kernel_rfl
def C79(a0 a1 a2:AV):af pg 79 [a0,a1,a2]=aJ (S79 (af pg) aj (cl ar a0) (cl ar a1) (cl ar a2)):=(ay aI rfl rfl rfl _).trans (JU aJ (E79 (cl ar a0) (cl ar a1) (cl ar a2) _ _))
def L80_0(call:CC)(fx:bm AV)(a:RR)(b:List AV):M AV:=ae (ai (aa T 46 (nth b 2) 5)) fun c=>ae (ai (ah T 24 c)) fun d=>ae (ai (aP T 24 d)) fun e=>ae (ai (aw T .lss 3 (nth b 4) e)) fun f=>ae (aA f true 1 (ae (ai (aw T .leq 3 (nth b 3) (nth b 0))) fun g=>M.pure [g])) fun h=>ae (ai (aM f (nth h 0) (.bool false))) fun i=>ax i (ae (ai (aa T 46 (nth b 2) 5)) fun j=>ae (ai (ah T 24 j)) fun k=>ae (ai (ak T 24 k (nth b 4))) fun l=>ae (ai (ah T 46 l)) fun m=>ae (ai (aw T .sub 3 (nth b 0) (nth b 3))) fun n=>ae (ai (aw T .sub 3 (nth b 1) (.int .i64 1))) fun o=>ae (call 80 [m,n,o]) fun p=>ae (ai (aw T .add 3 (nth b 3) p)) fun q=>ae (ai (aw T .add 3 (nth b 4) (.int .i64 1))) fun r=>a [nth b 0,nth b 1,nth b 2,q,r]) (M.pure (nth b 3))
def XL80_0{call:CC}:bc (L80_0 call aj) fun _n=>L80_0 call aj  :=by
 intro a b c d;unfold L80_0;exact (by(iterate 6 refine lb fun _=>?_);exact (au (by(iterate 9 refine lb fun _=>?_);exact (c _)) (aQ.const _)))
def FL80_0(call:CC)(vs:List AV):aj (L80_0 call aj) vs=L80_0 call aj  (aj (L80_0 call aj)) vs:=aR (XL80_0) vs
def S80(call:CC)(fx:bm AV)(a0 a1 a2:AV):M AV:=ae (ai (aw T .lss 3 a2 (.int .i64 1))) fun a=>ae (aA a false 1 (ae (ai (aa T 46 (.ip (ab a0)) 4)) fun b=>ae (ai (ah T 22 b)) fun c=>ae (ai (aP T 22 c)) fun d=>ae (ai (aw T .gtr 3 d (.int .i64 10))) fun e=>M.pure [e])) fun f=>ae (ai (aM a (.bool true) (nth f 0))) fun g=>ax g (ae (ai (aw T .add 3 a1 (.int .i64 1))) fun h=>M.pure h) (fx (L80_0 call fx) [a1,a2,.ip (ab a0),.int .i64 1,.int .i64 0])
def E80(a0 a1 a2:AV):EE 80 Tryz.f80 DR [a0,a1,a2] (fun c x=>S80 c x a0 a1 a2):=fun _ _=>by kernel_rfl
def C80(a0 a1 a2:AV):af pg 80 [a0,a1,a2]=aJ (S80 (af pg) aj (cl ar a0) (cl ar a1) (cl ar a2)):=(ay aI rfl rfl rfl _).trans (JU aJ (E80 (cl ar a0) (cl ar a1) (cl ar a2) _ _))
def S84(call:CC)(fx:bm AV)(a0 a1 a2:AV):M AV:=ae (call 113 [a1,.fn (Fn.func 114) [] [.ip (ab a0),.ip (ab a2)]]) fun a=>ae (ai (aw T .lss 3 a (.int .i64 0))) fun b=>ax b (M.pure (AV.sl [])) (ae (ai (aw T .add 3 a (.int .i64 1))) fun c=>ae (ai (d6 T 22 a1 (some a) (some c) none)) fun d=>M.pure d)
def E84(a0 a1 a2:AV):EE 84 Tryz.f84 DW [a0,a1,a2] (fun c x=>S84 c x a0 a1 a2):=fun _ _=>by kernel_rfl
def C84(a0 a1 a2:AV):af pg 84 [a0,a1,a2]=aJ (S84 (af pg) aj (cl ar a0) (cl ar a1) (cl ar a2)):=(ay aI rfl rfl rfl _).trans (JU aJ (E84 (cl ar a0) (cl ar a1) (cl ar a2) _ _))
def L91_0(call:CC)(fx:bm AV)(a:RR)(b:List AV):M AV:=ae (ai (aw T .lss 3 (nth b 3) (nth b 2))) fun c=>ax c (ae (ai (ak T 174 (nth b 1) (nth b 3))) fun d=>ae (ai (ah T 118 d)) fun e=>ae (ai (ca T 118 (nth b 0) e)) fun f=>ae (ai (aw T .add 3 (nth b 3) (.int .i64 1))) fun g=>a [f,nth b 1,nth b 2,g]) (M.pure (nth b 0))
def L91_1(call:CC)(fx:bm AV)(a:RR)(b:List AV):M AV:=ae (ai (aw T .lss 3 (nth b 4) (nth b 3))) fun c=>ax c (ae (ai (ak T 174 (nth b 2) (nth b 4))) fun d=>ae (ai (ah T 118 d)) fun e=>ae (ai (aP T 118 e)) fun f=>ae (ai (aw T .add 3 (nth b 1) f)) fun g=>ae (ai (aw T .lss 3 g (.int .i64 0))) fun h=>ax h (ae (ai (gP T 9 (.str [108,101,110,32,111,117,116,32,111,102,32,114,97,110,103,101]))) fun i=>ae (Af i) fun j=>ae (ai (aw T .add 3 (nth b 4) (.int .i64 1))) fun k=>a [nth b 0,g,nth b 2,nth b 3,k]) (ae (ai (aw T .add 3 (nth b 4) (.int .i64 1))) fun l=>a [nth b 0,g,nth b 2,nth b 3,l])) (ae (call 120 [.hn,nth b 1]) fun m=>ae (ai (aP T 174 (nth b 0))) fun n=>fx (L91_0 call fx) [m,nth b 0,n,.int .i64 0])
def XL91_0{call:CC}:bc (L91_0 call aj) fun _n=>L91_0 call aj  :=by
 intro a b c d;unfold L91_0;exact (lb fun _=>(au (lb fun _=>(lb fun _=>(lb fun _=>(lb fun _=>c _)))) (aQ.const _)))
def FL91_0(call:CC)(vs:List AV):aj (L91_0 call aj) vs=L91_0 call aj  (aj (L91_0 call aj)) vs:=aR (XL91_0) vs
def XL91_1{call:CC}:bc (L91_1 call aj) fun _n=>L91_1 call aj  :=by
 intro a b c d;unfold L91_1;exact (lb fun _=>(au (by(iterate 5 refine lb fun _=>?_);exact (au (lb fun _=>(lb fun _=>(lb fun _=>c _))) (lb fun _=>c _))) (aQ.const _)))
def FL91_1(call:CC)(vs:List AV):aj (L91_1 call aj) vs=L91_1 call aj  (aj (L91_1 call aj)) vs:=aR (XL91_1) vs
def S91(call:CC)(fx:bm AV)(a0:AV):M AV:=ae (ai (aP T 174 a0)) fun a=>fx (L91_1 call fx) [a0,.int .i64 0,a0,a,.int .i64 0]
def E91(a0:AV):EE 91 Tryz.f91 D4 [a0] (fun c x=>S91 c x a0):=fun _ _=>by kernel_rfl
def C91(a0:AV):af pg 91 [a0]=aJ (S91 (af pg) aj (cl ar a0)):=(ay aI rfl rfl rfl _).trans (JU aJ (E91 (cl ar a0) _ _))
def L94_0(call:CC)(fx:bm AV)(a:RR)(b:List AV):M AV:=ae (ai (aw T .lss 3 (nth b 3) (nth b 2))) fun c=>ax c (ae (ai (ak T 112 (nth b 0) (nth b 3))) fun d=>ae (ai (ah T 98 d)) fun e=>ae (aW call (nth b 1) [e]) fun f=>ax f (M.pure (nth b 3)) (ae (ai (aw T .add 3 (nth b 3) (.int .i64 1))) fun g=>a [nth b 0,nth b 1,nth b 2,g])) (M.pure (AV.int .i64 (-1)))
def XL94_0{call:CC}:bc (L94_0 call aj) fun _n=>L94_0 call aj  :=by
 intro a b c d;unfold L94_0;exact (lb fun _=>(au (lb fun _=>(lb fun _=>(lb fun _=>(au (aQ.const _) (lb fun _=>c _))))) (aQ.const _)))
def FL94_0(call:CC)(vs:List AV):aj (L94_0 call aj) vs=L94_0 call aj  (aj (L94_0 call aj)) vs:=aR (XL94_0) vs
def S94(call:CC)(fx:bm AV)(a0 a1:AV):M AV:=ae (ai (aP T 112 a0)) fun a=>fx (L94_0 call fx) [a0,a1,a,.int .i64 0]
def E94(a0 a1:AV):EE 94 Tryz.f94 D7 [a0,a1] (fun c x=>S94 c x a0 a1):=fun _ _=>by kernel_rfl
def C94(a0 a1:AV):af pg 94 [a0,a1]=aJ (S94 (af pg) aj (cl ar a0) (cl ar a1)):=(ay aI rfl rfl rfl _).trans (JU aJ (E94 (cl ar a0) (cl ar a1) _ _))
def S100(call:CC)(fx:bm AV)(a0 a1:AV):M AV:=ae (ai (aa T 44 (.ip (ab a0)) 0)) fun a=>ae (ai (ah T 3 a)) fun b=>ae (ai (ah T 3 a1)) fun c=>ae (ai (aw T .neq 3 b c)) fun d=>M.pure d
def E100(a0 a1:AV):EE 100 Tryz.f100 yN [a0,a1] (fun c x=>S100 c x a0 a1):=fun _ _=>by kernel_rfl
def C100(a0 a1:AV):af pg 100 [a0,a1]=aJ (S100 (af pg) aj (cl ar a0) (cl ar a1)):=(ay aI rfl rfl rfl _).trans (JU aJ (E100 (cl ar a0) (cl ar a1) _ _))
def L102_0(call:CC)(fx:bm AV)(a:RR)(b:List AV):M AV:=ae (ai (aw T .lss 3 (nth b 3) (nth b 2))) fun c=>ax c (ae (ai (ak T 23 (nth b 0) (nth b 3))) fun d=>ae (ai (ah T 51 d)) fun e=>ae (aW call (nth b 1) [e]) fun f=>ax f (M.pure (nth b 3)) (ae (ai (aw T .add 3 (nth b 3) (.int .i64 1))) fun g=>a [nth b 0,nth b 1,nth b 2,g])) (M.pure (AV.int .i64 (-1)))
def XL102_0{call:CC}:bc (L102_0 call aj) fun _n=>L102_0 call aj  :=by
 intro a b c d;unfold L102_0;exact (lb fun _=>(au (lb fun _=>(lb fun _=>(lb fun _=>(au (aQ.const _) (lb fun _=>c _))))) (aQ.const _)))
def FL102_0(call:CC)(vs:List AV):aj (L102_0 call aj) vs=L102_0 call aj  (aj (L102_0 call aj)) vs:=aR (XL102_0) vs
def S102(call:CC)(fx:bm AV)(a0 a1:AV):M AV:=ae (ai (aP T 23 a0)) fun a=>fx (L102_0 call fx) [a0,a1,a,.int .i64 0]
def E102(a0 a1:AV):EE 102 Tryz.f102 yP [a0,a1] (fun c x=>S102 c x a0 a1):=fun _ _=>by kernel_rfl
def C102(a0 a1:AV):af pg 102 [a0,a1]=aJ (S102 (af pg) aj (cl ar a0) (cl ar a1)):=(ay aI rfl rfl rfl _).trans (JU aJ (E102 (cl ar a0) (cl ar a1) _ _))
def S103(call:CC)(fx:bm AV)(a0:AV):M AV:=ae (ai (aw T .geq 5 a0 (.int .u8 97))) fun a=>ae (aA a true 1 (ae (ai (aw T .leq 5 a0 (.int .u8 122))) fun b=>M.pure [b])) fun c=>ae (ai (aM a (nth c 0) (.bool false))) fun d=>M.pure d
def E103(a0:AV):EE 103 Tryz.f103 yQ [a0] (fun c x=>S103 c x a0):=fun _ _=>by kernel_rfl
def C103(a0:AV):af pg 103 [a0]=aJ (S103 (af pg) aj (cl ar a0)):=(ay aI rfl rfl rfl _).trans (JU aJ (E103 (cl ar a0) _ _))
def L113_0(call:CC)(fx:bm AV)(a:RR)(b:List AV):M AV:=ae (ai (aw T .lss 3 (nth b 3) (nth b 2))) fun c=>ax c (ae (ai (ak T 22 (nth b 0) (nth b 3))) fun d=>ae (ai (ah T 9 d)) fun e=>ae (aW call (nth b 1) [e]) fun f=>ax f (M.pure (nth b 3)) (ae (ai (aw T .add 3 (nth b 3) (.int .i64 1))) fun g=>a [nth b 0,nth b 1,nth b 2,g])) (M.pure (AV.int .i64 (-1)))
def XL113_0{call:CC}:bc (L113_0 call aj) fun _n=>L113_0 call aj  :=by
 intro a b c d;unfold L113_0;exact (lb fun _=>(au (lb fun _=>(lb fun _=>(lb fun _=>(au (aQ.const _) (lb fun _=>c _))))) (aQ.const _)))
def FL113_0(call:CC)(vs:List AV):aj (L113_0 call aj) vs=L113_0 call aj  (aj (L113_0 call aj)) vs:=aR (XL113_0) vs
def S113(call:CC)(fx:bm AV)(a0 a1:AV):M AV:=ae (ai (aP T 22 a0)) fun a=>fx (L113_0 call fx) [a0,a1,a,.int .i64 0]
def E113(a0 a1:AV):EE 113 Tryz.f113 yY [a0,a1] (fun c x=>S113 c x a0 a1):=fun _ _=>by kernel_rfl
def C113(a0 a1:AV):af pg 113 [a0,a1]=aJ (S113 (af pg) aj (cl ar a0) (cl ar a1)):=(ay aI rfl rfl rfl _).trans (JU aJ (E113 (cl ar a0) (cl ar a1) _ _))
def S114(call:CC)(fx:bm AV)(a0 a1 a2:AV):M AV:=ae (ai (aa T 96 a1 0)) fun a=>ae (ai (ah T 93 a)) fun b=>ae (ai (ah T 9 a2)) fun c=>ae (aW (kz call) b [a0]) fun d=>ae (ai (aw T .eql 9 d c)) fun e=>M.pure e
def E114(a0 a1 a2:AV):EE 114 Tryz.f114 yZ [a0,a1,a2] (fun c x=>S114 c x a0 a1 a2):=fun _ _=>by kernel_rfl
def C114(a0 a1 a2:AV):af pg 114 [a0,a1,a2]=aJ (S114 (af pg) aj (cl ar a0) (cl ar a1) (cl ar a2)):=(ay aI rfl rfl rfl _).trans (JU aJ (E114 (cl ar a0) (cl ar a1) (cl ar a2) _ _))
def S119(call:CC)(fx:bm AV)(a0 a1 a2:AV):M AV:=ae (ai (aa T 105 a1 0)) fun a=>ae (ai (ah T 103 a)) fun b=>ae (ai (ah T 48 (.ip (ab a0)))) fun c=>ae (ai (ah T 9 a2)) fun d=>ae (aW (kz call) b [c]) fun e=>ae (ai (aw T .eql 9 e d)) fun f=>M.pure f
def E119(a0 a1 a2:AV):EE 119 Tryz.f119 y8 [a0,a1,a2] (fun c x=>S119 c x a0 a1 a2):=fun _ _=>by kernel_rfl
def C119(a0 a1 a2:AV):af pg 119 [a0,a1,a2]=aJ (S119 (af pg) aj (cl ar a0) (cl ar a1) (cl ar a2)):=(ay aI rfl rfl rfl _).trans (JU aJ (E119 (cl ar a0) (cl ar a1) (cl ar a2) _ _))
def zA{α:Type}[BEq α](a b:List α)(i:Nat)(h1:i<a.length)(h2:i<b.length):(a.drop i== b.drop i)=(a[i]== b[i]&&a.drop (i+1)== b.drop (i+1)):=by
 rw[JS h1,JS h2];rfl
def Fa(a b:List aT)(hb:a.length<=4611686018427387904)(hab:a.length=b.length):∀(n:Nat)(i:Int),a.length-i.toNat=n->0<=i->i<=a.length->
  aj (L39_0 (af pg) aj) [strs a,strs b,.int .i64 a.length,.int .i64 i]=M.pure (.bool (a.drop i.toNat== b.drop i.toNat)):=by
 intro n
 induction n with
 |zero=>
  intro i hn hi hl;rw[FL39_0];simp only[L39_0];have h1:¬(i<(a.length:Int)):=by omega
  have h2:a.drop i.toNat=[]:=JQ (by omega);have h3:b.drop i.toNat=[]:=JQ (by omega);simp[h1,h2,h3]
 | succ n ih=>
  intro i hn hi hl;have h1:i<(a.length:Int):=by omega
  have h1':i<(b.length:Int):=by omega
  have hlt:i.toNat<a.length:=by omega
  have h4:=ih (i+1) (by omega) (by omega) (by omega);rw[show (i+1).toNat=i.toNat+1 by omega]at h4;rw[FL39_0,zA a b i.toNat hlt (by omega)];simp only[L39_0];simp (disch:=omega) [h1,bE,nO,h4];by_cases h:a[i.toNat]=b[i.toNat]
  ·simp[h]
  ·have h':(a[i.toNat]== b[i.toNat])=false:=J4.2 h;simp[h,h']
def t39(a b:List aT)(hb:a.length<=4611686018427387904):af pg 39 [strs a,strs b]=M.pure (.bool (a== b)):=by
 rw[C39];by_cases h:a.length=b.length
 ·have:=Fa a b hb h a.length 0 rfl (by omega) (by omega)
  simp[S39,h]at this |-;simp[this]
 ·have h2:(a== b)=false:=by
   rw[J4];intro hh;exact h (by rw[hh])
  have h3:((a.length:Int) != (b.length:Int))=true:=by simp;omega
  simp[S39,h3,h2]
mutual
def Hh:Val->Val->Bool
 |.mk k n ns vs,.mk k' n' ns' vs'=>k== k'&&n== n'&&ns== ns'&&Ay vs vs'
def Ay:List Val->List Val->Bool
 |[],[]=>true
 |v:: vs,w:: ws=>Hh v w&&Ay vs ws
 |_,_=>false
end
@[simp] theorem GH(t:Nat)(a b:Int):aw T .geq t (.int .u8 a) (.int .u8 b)=some (.bool (decide (b<=a))):=rfl
@[simp] theorem GI(t:Nat)(a b:Int):aw T .leq t (.int .u8 a) (.int .u8 b)=some (.bool (decide (a<=b))):=rfl
@[simp] theorem xi(t:Nat)(a b:aT):aw T .leq t (.str a) (.str b)=some (.bool (dT a b||a== b)):=rfl
def BN(f:AV)(F:bI->Bool)(l:List bI)(hb:l.length<=4611686018427387904)(hf:∀x∈l,aW (af pg) f [bi x]=M.pure (.bool (F x))):∀(n:Nat)(i:Int),l.length-i.toNat=n->0<=i->i<=l.length->
  aj (L102_0 (af pg) aj) [aN l,f,.int .i64 l.length,.int .i64 i]=M.pure (.int .i64 (be F (l.drop i.toNat) i)):=by
 intro n
 induction n with
 |zero=>
  intro i hn hi hl;rw[FL102_0];simp only[L102_0];have h1:¬(i<(l.length:Int)):=by omega
  have h2:l.drop i.toNat=[]:=JQ (by omega);simp[h1,h2,be]
 |succ n ih=>
  intro i hn hi hl;have h1:i<(l.length:Int):=by omega
  have hlt:i.toNat<l.length:=by omega
  have h2:be F (l.drop i.toNat) i=if F l[i.toNat]=true then i else be F (l.drop (i.toNat+1)) (i+1):=by rw[JS hlt];rfl
  have h3:=hf l[i.toNat] (JP hlt);have h4:=ih (i+1) (by omega) (by omega) (by omega);rw[show (i+1).toNat=i.toNat+1 by omega]at h4;rw[FL102_0];simp only[L102_0];simp (disch:=omega) [h1,bE,iM,h3,h2];cases F l[i.toNat]
  ·simpa using h4
  ·simp
def t102(f:AV)(F:bI->Bool)(l:List bI)(hb:l.length<=4611686018427387904)(hc:∀g,cl g f=f)(hf:∀x∈l,aW (af pg) f [bi x]=M.pure (.bool (F x))):af pg 102 [aN l,f]=M.pure (.int .i64 (be F l 0)):=by
 rw[C102];simp[S102,hc,BN f F l hb hf l.length 0 rfl (by omega) (by omega)]
def t72(f:AV)(F:bI->Bool)(l:List bI)(hb:l.length<=4611686018427387904)(hc:∀g,cl g f=f)(hf:∀x∈l,aW (af pg) f [bi x]=M.pure (.bool (F x))):af pg 72 [aN l,f]=M.pure (.bool (l.any F)):=by
 rw[C72];simp[S72,hc,t102 f F l hb hc hf,mA]
def Fw(f:AV)(F:Ty->Bool)(l:List Ty)(hb:l.length<=4611686018427387904)(hf:∀x∈l,aW (af pg) f [Ty.av x]=M.pure (.bool (F x))):∀(n:Nat)(i:Int),l.length-i.toNat=n->0<=i->i<=l.length->
  aj (L96_0 (af pg) aj) [gy l,f,.int .i64 l.length,.int .i64 i]=M.pure (.int .i64 (be F (l.drop i.toNat) i)):=by
 intro n
 induction n with
 |zero=>
  intro i hn hi hl;rw[FL96_0];simp only[L96_0];have h1:¬(i<(l.length:Int)):=by omega
  have h2:l.drop i.toNat=[]:=JQ (by omega);simp[h1,h2,be]
 |succ n ih=>
  intro i hn hi hl;have h1:i<(l.length:Int):=by omega
  have hlt:i.toNat<l.length:=by omega
  have h2:be F (l.drop i.toNat) i=if F l[i.toNat]=true then i else be F (l.drop (i.toNat+1)) (i+1):=by rw[JS hlt];rfl
  have h3:=hf l[i.toNat] (JP hlt);have h4:=ih (i+1) (by omega) (by omega) (by omega);rw[show (i+1).toNat=i.toNat+1 by omega]at h4;rw[FL96_0];simp only[L96_0];simp (disch:=omega) [h1,bE,rn,h3,h2];cases F l[i.toNat]
  ·simpa using h4
  ·simp
def t96(f:AV)(F:Ty->Bool)(l:List Ty)(hb:l.length<=4611686018427387904)(hc:∀g,cl g f=f)(hf:∀x∈l,aW (af pg) f [Ty.av x]=M.pure (.bool (F x))):af pg 96 [gy l,f]=M.pure (.int .i64 (be F l 0)):=by
 rw[C96];simp[S96,hc,Fw f F l hb hf l.length 0 rfl (by omega) (by omega)]
def t63(f:AV)(F:Ty->Bool)(l:List Ty)(hb:l.length<=4611686018427387904)(hc:∀g,cl g f=f)(hf:∀x∈l,aW (af pg) f [Ty.av x]=M.pure (.bool (F x))):af pg 63 [gy l,f]=M.pure (.bool (l.any F)):=by
 rw[C63];simp[S63,hc,t96 f F l hb hc hf,mA]
def BS(f:AV)(F:Sig->Bool)(l:List Sig)(hb:l.length<=4611686018427387904)(hf:∀x∈l,aW (af pg) f [Sig.av x]=M.pure (.bool (F x))):∀(n:Nat)(i:Int),l.length-i.toNat=n->0<=i->i<=l.length->
  aj (L125_0 (af pg) aj) [sigs l,f,.int .i64 l.length,.int .i64 i]=M.pure (.int .i64 (be F (l.drop i.toNat) i)):=by
 intro n
 induction n with
 |zero=>
  intro i hn hi hl;rw[FL125_0];simp only[L125_0];have h1:¬(i<(l.length:Int)):=by omega
  have h2:l.drop i.toNat=[]:=JQ (by omega);simp[h1,h2,be]
 |succ n ih=>
  intro i hn hi hl;have h1:i<(l.length:Int):=by omega
  have hlt:i.toNat<l.length:=by omega
  have h2:be F (l.drop i.toNat) i=if F l[i.toNat]=true then i else be F (l.drop (i.toNat+1)) (i+1):=by rw[JS hlt];rfl
  have h3:=hf l[i.toNat] (JP hlt);have h4:=ih (i+1) (by omega) (by omega) (by omega);rw[show (i+1).toNat=i.toNat+1 by omega]at h4;rw[FL125_0];simp only[L125_0];simp (disch:=omega) [h1,bE,AY,h3,h2];cases F l[i.toNat]
  ·simpa using h4
  ·simp
def t125(f:AV)(F:Sig->Bool)(l:List Sig)(hb:l.length<=4611686018427387904)(hc:∀g,cl g f=f)(hf:∀x∈l,aW (af pg) f [Sig.av x]=M.pure (.bool (F x))):af pg 125 [sigs l,f]=M.pure (.int .i64 (be F l 0)):=by
 rw[C125];simp[S125,hc,BS f F l hb hf l.length 0 rfl (by omega) (by omega)]
def t103(b:UInt8):af pg 103 [.int .u8 b.toNat]=M.pure (.bool (nX b)):=by
 rw[C103];have e:decide ((b.toNat:Int)<=122)=decide (b.toNat<=122):=Lf.2 (by omega);have e2:decide (97<=(b.toNat:Int))=decide (97<=b.toNat):=Lf.2 (by omega);simp[S103,nX,e,e2]
def t106(b:UInt8):af pg 106 [.int .u8 b.toNat]=M.pure (.bool (uO b)):=by
 rw[C106];have e:decide ((b.toNat:Int)<=57)=decide (b.toNat<=57):=Lf.2 (by omega);have e2:decide (48<=(b.toNat:Int))=decide (48<=b.toNat):=Lf.2 (by omega);simp[S106,uO,e,e2]
def t105(b:UInt8):af pg 105 [.int .u8 b.toNat]=M.pure (.bool (ot b)):=by
 rw[C105];simp[S105,t103,t106,ot]
theorem Ej{s:aT}{i:Nat}(h:i<s.length):fG T 9 (.str s) (.int .i64 (i:Int))=some (.int .u8 (s[i].toNat:Int)):=by
 have e1:fG T 9 (.str s) (.int .i64 (i:Int))=(if(i:Int)<0 then none else s[(i:Int).toNat]?.map fun b=>.int .u8 b.toNat):=rfl;rw[e1,if_neg (by omega),JW,Ka h];rfl
def BO(F:UInt8->Bool)(f:AV)(s:aT)(hb:s.length<=4611686018427387904)(hf:∀b:UInt8,aW (af pg) f [.int .u8 b.toNat]=M.pure (.bool (F b))):∀(n i:Nat),s.length-i=n->i<=s.length->
  aj (L104_0 (af pg) aj) [.str s,f,.int .i64 i]=M.pure (.int .i64 ((i+((s.drop i).takeWhile F).length:Nat):Int)):=by
 intro n
 induction n with
 |zero=>
  intro i hn hi;rw[FL104_0];simp only[L104_0];have h1:¬((i:Int)<(s.length:Int)):=by omega
  have h2:s.drop i=[]:=JQ (by omega);simp[h1,h2]
 | succ n ih=>
  intro i hn hi;have hlt:i<s.length:=by omega
  have h1:(i:Int)<(s.length:Int):=by omega
  have h2:s.drop i=s[i]:: s.drop (i+1):=JS hlt;have h4:=ih (i+1) (by omega) (by omega);have hw:IntKind.i64.wrap ((i:Int)+1)=((i+1:Nat):Int):=aS (by omega);rw[FL104_0];simp only[L104_0,az,aB,H8,am,aF,h1,Kf,cy,Ej hlt,hf,aG,dI,ao,aU,hw,h4,h2,List.takeWhile_cons];cases F s[i]
  ·simp
  ·rw[JV rfl,JV rfl];congr 3;simp;omega
def t74(s:aT):af pg 74 [.str s]=M.pure (.bool (nM s)):=by
 rw[C74];by_cases hs:s=[]
 ·subst hs;simp[S74,nM]
 ·have hs':(s== [])=false:=J4.2 hs;have hpos:0<s.length:=LB.2 hs;have h0:=Ej (s:=s) (i:=0) hpos;have hd:s[0]=s.headD 0:=by cases s with|nil=>exact absurd rfl hs|cons c s=>rfl
  rw[hd]at h0;simp at h0;by_cases hl:s.length<=20
  ·have h1:=BO ot (.fn (.func 105) [] []) s (by omega) (fun b=>t105 b) s.length 0 (by simp) (by simp);have hsp:af pg 104 [.str s,.fn (.func 105) [] []]=M.pure (.int .i64 (((s.takeWhile ot).length:Nat):Int)):=by
    rw[C104];simp only[S104,cl,df];rw[show (AV.int .i64 0)=AV.int .i64 ((0:Nat):Int)from rfl,h1];simp
   have e1:decide (20<(s.length:Int))=false:=by rw[LD];omega
   have e3:decide (20<s.length)=false:=by rw[LD];omega
   have e4:decide (s.length<=20)=true:=by simpa using hl
   simp[S74,hs',h0,t103,hsp,e1,e3,e4,nM]
  ·have e1:decide (20<(s.length:Int))=true:=by rw[Kj];omega
   have e3:decide (20<s.length)=true:=by rw[Kj];omega
   have e4:decide (s.length<=20)=false:=by simpa using hl
   simp[S74,hs',h0,t103,e1,e3,e4,nM]
def t75(s:aT):af pg 75 [.str kp,.str s]=M.pure (.bool (Lib.contains kp s)):=by
 rw[dZ aI (E:=iv) rfl];rfl
theorem xf(t:Nat)(a b:aT):aw T .add t (.str a) (.str b)=if a.length+b.length<=4611686018427387904 then some (.str (a++b))else none:=rfl
def t22(s:aT):af pg 22 [.str s]=M.pure (.bool (cJ s)):=by
 rw[C22];have h1:=t74 s;unfold cJ;cases hw:nM s with
 |false=>
  rw[hw]at h1;simp[S22,h1]
 |true=>
  have hl:=yz hw;rw[hw]at h1;have h2:=t75 ([32]++s++[32]);unfold kp at h2;have e1:aw T .add 9 (.str [32]) (.str s)=some (.str ([32]++s)):=by rw[xf,JV (by simp;omega)]
  have e2:aw T .add 9 (.str ([32]++s)) (.str [32])=some (.str ([32]++s++[32])):=by rw[xf,JV (by simp;omega)]
  simp only[S22,uL,h1,aG,cy,e1,am,e2,h2,cj,az,dI,fH,Lg];rfl
def BK{t:Ty}(h:t.Lim)(k:Nat)(hk:k<t.fields.length):(t.fields[k]!).2.Lim:=by
 rw[J1 t.fields k hk];exact h.kid (JP hk)
theorem t76:∀(d:Nat),d<=4->∀(t:Ty),t.Lim->af pg 76 [t.av,.int .i64 d]=M.pure (.bool (dA d t))
 |0,_,t,_=>by
  rw[C76];simp[S76,dA]
 | d + 1,hd,t,ht=>by
  have ih:=t76 d (by omega);have hlen:=ht.len;have hd1:IntKind.i64.wrap ((((d+1:Nat)):Int)-1)=(d:Int):=rk (by omega);have hloop:=wG (F:=L76_0 (af pg) aj) (FL76_0 (af pg)) (fun k=>[.int .i64 ((d+1:Nat):Int),.ip (ab t.av),aN t.fields,.int .i64 t.fields.length,.int .i64 k]) t.fields.length
   (fun k=>(cJ (t.fields[k]!).1&&dA d (t.fields[k]!).2)&&(decide (k=0)||eH (t.fields[k-1]!).1 (t.fields[k]!).1))
   (by simp[L76_0]) (fun k hk=>by
    have h1:(k:Int)<(t.fields.length:Int):=by omega
    have hix:=iM (l:=t.fields) (n:=(k:Int)) (by omega) h1;rw[JW]at hix;have hm:t.fields[k]! ∈t.fields:=by rw[J1 t.fields k hk];exact JP hk
    have h2:=t22 (t.fields[k]!).1;have h3:=ih (t.fields[k]!).2 (BK ht k hk);have hw:IntKind.i64.wrap ((k:Int)+1)=(k:Int)+1:=by rw[aS (by omega)];simp
    have hd0:IntKind.i64.wrap (d:Int)=(d:Int):=AM (by omega);generalize t.fields[k]! = f at hix h2 h3 hm |-;rcases Ky k with hk0|hk0
    ·subst hk0;have hix0:ak T 23 (aN t.fields) (.int .i64 0)=some (.ip (ab (bi f))):=hix;have hw0:IntKind.i64.wrap 1=1:=rfl;simp[L76_0,hix0,h2,h3,hw0,hd0,hk];cases cJ f.1<;>cases dA d f.2<;>simp
    ·have hp:IntKind.i64.wrap ((k:Int)-1)=((k-1:Nat):Int):=by
      rw[bE (by omega) (by omega)];omega
     have h4:((k-1:Nat):Int)<(t.fields.length:Int):=by omega
     have hix2:=iM (l:=t.fields) (n:=((k-1:Nat):Int)) (by omega) h4;rw[JW]at hix2;generalize t.fields[k-1]! = g at hix2 |-;have hk1:¬k=0:=by omega
     simp[L76_0,h1,hix,h2,h3,hw,hd0,hp,hix2,hk0,hk1,hk];cases cJ f.1<;>simp;cases h5:dT f.1 g.1<;>cases dA d f.2<;>by_cases h6:f.1=g.1<;>simp[eH,h5,h6]) 0 (Ki _)
  have hall:((List.range' 0 t.fields.length).all fun k=>(cJ (t.fields[k]!).1&&dA d (t.fields[k]!).2)&&(decide (k=0)||eH (t.fields[k-1]!).1 (t.fields[k]!).1))=(t.fields.all (fun f=>cJ f.1&&dA d f.2)&&mj (fun a b=>eH a.1 b.1) t.fields):=
   wv (fun f:bI=>cJ f.1&&dA d f.2) (fun a b=>eH a.1 b.1) t.fields
  rw[Mv,hall]at hloop;rw[C76];have h0:¬((d:Int)+1=0):=by omega
  have hl2:aj (L76_0 (af pg) aj) [.int .i64 ((d:Int)+1),.ip [.int .i64 t.kind,aN t.fields],aN t.fields,.int .i64 t.fields.length,.int .i64 0]=M.pure (.bool (t.fields.all (fun f=>cJ f.1&&dA d f.2)&&mj (fun a b=>eH a.1 b.1) t.fields)):=by
   simpa using hloop
  have hR:dA (d+1) t=if((t.kind<0\/3<=t.kind)\/8<(t.fields.length:Int))\/¬t.kind=2/\0<t.fields.length then false else(t.fields.all (fun f=>cJ f.1&&dA d f.2)&&mj (fun a b=>eH a.1 b.1) t.fields):=by
   rw[j9];generalize (t.fields.all (fun f=>cJ f.1&&dA d f.2)&&mj (fun a b=>eH a.1 b.1) t.fields)=q;generalize t.fields.length=n;generalize t.kind=k;split
   ·rename_i hc;cases q
    ·simp
    ·simp only[L0,L3,LD,Lp,J4];rcases hc with((h|h)|h)|h
     ·exact .inl (.inl (.inl (by omega)))
     ·exact .inl (.inl (.inr (by omega)))
     ·exact .inl (.inr (by omega))
     ·exact .inr ⟨h.1,by omega⟩
   ·rename_i hc;have e1:decide (0<=k)=true:=by rw[Kj];omega
    have e2:decide (k<3)=true:=by rw[Kj];omega
    have e3:decide (n<=8)=true:=by rw[Kj];omega
    have e4:(k== 2||n== 0)=true:=by
     rw[Li,Kw,Kw];omega
    rw[e1,e2,e3,e4];simp
  rw[hR];simp[S76,h0,hl2]
def t24(t:Ty)(ht:t.Lim):af pg 24 [t.av]=M.pure (.bool (bX t)):=by
 rw[C24];have:af pg 76 [t.av,.int .i64 4]=M.pure (.bool (dA 4 t)):=t76 4 (by omega) t ht;simp[S24,this]
def t62(t:Ty)(ht:t.Lim):af pg 62 [t.av]=M.pure (.bool (bX t)):=by
 rw[C62];simp[S62,t24 t ht]
theorem nk:(l:List bI)->fF (eJ l)=some (l.map fun f=>(f.1,f.2.kind,eJ f.2.fields))
 |[]=>rfl
 |f:: l=>by simp[eJ,fF,nk l,eB,tf,aN]
theorem qM{α β:Type}(g:α->β)(p:β->Bool):(l:List α)->bN p (l.map g)=(bN (fun x=>p (g x)) l).map g
 |[]=>rfl
 |x:: l=>by
  simp only[Ks,bN,qM g p l];cases bN (fun x=>p (g x)) l with
  |some y=>rfl
  |none=>cases p (g x)<;>rfl
def ty0:Ty:=.mk 0 []
def t66(l:List bI)(hl:l.length<=1000000000)(s:aT):af pg 66 [aN l,.str s]=M.pure (.tup [((bN (fun f=>f.1== s) l).map (·.2)).getD ty0 |>.av,.bool (bN (fun f=>f.1== s) l).isSome]):=by
 rw[dZ aI (E:=kj) rfl];unfold kj aN;simp only[nk,KI,hl,Kf,JM,vA,qM];cases bN (fun f:bI=>f.1== s) l with
 |none=>rfl
 |some f=>simp[ai,M.pure,Ty.av,Ty.cells_eq,aN];rfl
def Ty.Short:Nat->Ty->Prop
 |0,_=>True
 |n+1,t=>t.fields.length<=1000000000/\∀f∈t.fields,Ty.Short n f.2
theorem lZ:∀(d:Nat)(t:Ty),dA d t=true->∀n,Ty.Short n t
 |0,t,h,_=>by cases h
 |d+1,t,h,0=>trivial
 |d+1,t,h,n+1=>by
  rw[j9]at h;simp only[JN,Kj,J6]at h;exact⟨by omega,fun f hf=>lZ d f.2 (h.2.1 f hf).2 n⟩
theorem gF{α:Type}{p:α->Bool}:{l:List α} ->{x:α} ->bN p l=some x->x∈l/\p x=true
 |[],x,h=>by cases h
 | y:: l,x,h=>by
  simp only[bN]at h;cases h2:bN p l with
  |some z=>
   rw[h2]at h;cases h
   have:=gF h2
   exact⟨KW _ this.1,this.2⟩
  |none=>
   rw[h2]at h;cases h3:p y with
   |true=>rw[h3]at h;cases h;exact⟨KX,h3⟩
   |false=>rw[h3]at h;cases h
def tO{α:Type}(P:α->Bool)(l:List α):(!l.any fun x=>!P x)=l.all P:=by simp[MH]
theorem t21:∀(n:Nat)(b a:Ty),Ty.Short n a->Ty.Short n b->dA n b=true->af pg 21 [a.av,b.av]=M.pure (.bool (cu a b))
 |0,b,a,_,_,h=>by cases h
 | n+1,b,a,ha,hb,h=>by
  have ih:=t21 n;rw[j9]at h;simp only[JN,Kj,J6]at h;have hf:∀f∈b.fields,aW (af pg) (.fn (.func 73) [] [.ip (ab a.av)]) [bi f]=M.pure (.bool (!(match bN (fun z=>z.1== f.1) a.fields with|some z=>cu z.2 f.2|none=>false))):=by
   intro f hfm;show af pg 73 [bi f,.ip (ab a.av)]=_;have h1:=t66 a.fields ha.1 f.1;rw[C73];cases hl:bN (fun z:bI=>z.1== f.1) a.fields with
   |none=>
    rw[hl]at h1;simp[S73,h1,cl,df]
   |some z=>
    rw[hl]at h1;have h2:=ih f.2 z.2 (ha.2 z (gF hl).1) (hb.2 f hfm) (h.2.1 f hfm).2;simp[S73,h1,cl,df,h2]
  have h2:=t72 (.fn (.func 73) [] [.ip (ab a.av)]) _ b.fields (by have:=hb.1;omega) (fun g=>by simp[cl,df]) hf;rw[C21,xw];simp at h2;simp[S21,h2];rw[tO];rfl
@[simp] theorem ov(t:Nat)(a b:Int):aw T .andNot t (.int .i64 a) (.int .i64 b)=some (.int .i64 (fV a b)):=rfl
def aX{α β:Type}{m:M α}{a:α}{h h':Hp}(e:m h= .ok a h')(f:α->M β):ae m f h=f a h':=by simp only[ae,e]
def I3(x:bI):(ab (bi x)).length=3:=by simp
def tg(l:List bI):aN l= .sl (l.map bi):=by rw[aN,eK]
theorem kN{α:Type}(F:α->Bool):(l:List α)->(i:Int)->(l.find? F=none/\be F l i= -1)\/∃(k:Nat)(x:α),l.find? F=some x/\l[k]? = some x/\be F l i=i+k
 |[],i=>.inl ⟨rfl,rfl⟩
 | x:: l,i=>by
  cases h:F x with
  |true=>exact .inr ⟨0,x,by simp[h],rfl,by simp[be,h]⟩
  |false=>
   rcases kN F l (i+1)with⟨h1,h2⟩|⟨k,y,h1,h2,h3⟩
   ·exact .inl ⟨by simp[h,h1],by simp[be,h,h2]⟩
   ·exact .inr ⟨k+1,y,by simp[h,h1],by simpa using h2,by simp[be,h,h3];omega⟩
def dJ(t:Ty):Prop:=∀n,Ty.Short n t
def dJ.len{t:Ty}(h:dJ t):t.fields.length<=1000000000:=(h 1).1
def dJ.kid{t:Ty}(h:dJ t){f:bI}(hf:f∈t.fields):dJ f.2:=fun n=>(h (n+1)).2 f hf
def eN{d:Nat}{t:Ty}(h:dA d t=true):dJ t:=lZ d t h
def sr{k:Int}{fs:List bI}(h:fs.length<=1000000000)(hf:∀f∈fs,dJ f.2):dJ (.mk k fs):=fun n=>by
 cases n with
 |zero=>exact trivial
 |succ n=>exact⟨h,fun f hm=>hf f hm n⟩
def wH{t:Ty}{f:bI}(h:f∈t.fields):SizeOf.sizeOf f.2<SizeOf.sizeOf t:=by
 cases t with
 |mk k fs=>
  have h1:=Ld (show f∈fs from h);obtain⟨n,t⟩:=f;simp only[LP,Ty.mk.sizeOf_spec]at h1 |-;have:SizeOf.sizeOf t<SizeOf.sizeOf ((n,t):bI):=by simp only[LP];omega
  simp only[LP]at this;omega
def mT(f:bI)(fs l:List bI):kZ (f:: fs) l=(match Hz f l with|some x=>[x]|none=>[])++kZ fs l:=by
 simp only[kZ];rfl
theorem AK(f:bI)(l:List bI):Hz f l=match bN (fun z=>z.1== f.1) l with
  |some z=>(match uz f.2 z.2 with|some u=>some (f.1,u)|none=>none)
  |none=>none:=by
 obtain⟨n,t⟩:=f;simp only[Hz];rfl
theorem un(l:List bI):(fs:List bI)->(kZ fs l).length<=fs.length
 |[]=>by simp[kZ]
 |f:: fs=>by
  have:=un l fs
  rw[mT,JY,Ke];cases Hz f l<;>simp<;>omega
def rL(n:aT)(t:Ty):aY T false 51 [(0,.str n),(1,t.av)]=some (bi (n,t)):=by
 cases t;rfl
def HW(f:bI):aK T 23 1 [(0,bi f)]=some (aN [f]):=by
 obtain⟨n,t⟩:=f;cases t;rfl
theorem A8(l:List bI):bR (aN l)=M.pure (aN l):=rfl
def rR(b:Ty)(hb:dJ b)(l:List bI)(hl:l.length<=1000000000)(k:Int)(x4 x5:AV)(hk:∀f∈l,∀t:Ty,dJ t->af pg 101 [f.2.av,t.av]=M.pure (match uz f.2 t with|some u=>.tup [u.av,.bool true]|none=>.tup [ty0.av,.bool false])):∀(n i:Nat)(acc:List bI),l.length-i=n->i<=l.length->acc.length<=i->
  aj (L101_0 (af pg) aj) [.ip (ab b.av),aN l,.int .i64 l.length,.int .i64 i,x4,x5,.int .i64 k,aN acc]=M.pure (.tup [(Ty.mk k (acc++kZ (l.drop i) b.fields)).av,.bool true]):=by
 intro n
 induction n with
 |zero=>
  intro i acc hn hi ha;have h1:¬((i:Int)<(l.length:Int)):=by omega
  have h2:l.drop i=[]:=JQ (by omega);have h3:aH 2 [] (.agg [.int .i64 k,aN acc])=M.pure (.agg [.int .i64 k,aN acc]):=bB rfl;rw[FL101_0,h2];simp[L101_0,h1,kZ,h3];rfl
 | succ n ih=>
  intro i acc hn hi ha;have hlt:i<l.length:=by omega
  have h1:(i:Int)<(l.length:Int):=by omega
  have h2:l.drop i=l[i]:: l.drop (i+1):=JS hlt;have hw:IntKind.i64.wrap ((i:Int)+1)=(i:Int)+1:=aS (by omega);have hix:=iM (l:=l) (n:=(i:Int)) (by omega) h1;rw[JW,J1 l i hlt]at hix;have hk':=hk l[i] (JP hlt);have hlk:=t66 b.fields hb.len l[i].1;have ih2:∀acc:List bI,acc.length<=i+1->aj (L101_0 (af pg) aj) [.ip (ab b.av),aN l,.int .i64 l.length,.int .i64 ((i:Int)+1),x4,x5,.int .i64 k,aN acc]=M.pure (.tup [(Ty.mk k (acc++kZ (l.drop (i+1)) b.fields)).av,.bool true]):=fun acc ha=>ih (i+1) acc (by omega) (by omega) ha;simp only[eQ]at ih2;rw[FL101_0,h2,mT,AK];generalize l[i]=f at hix hk' hlk |-;cases hz:bN (fun z:bI=>z.1== f.1) b.fields with
  |none=>
   rw[hz]at hlk;have ih':=ih2 acc (by omega);simp[L101_0,h1,hix,hlk,hw,ih']
  | some z=>
   rw[hz]at hlk;have hc:=hk' z.2 (hb.kid (gF hz).1);cases hu:uz f.2 z.2 with
   |none=>
    rw[hu]at hc;have ih':=ih2 acc (by omega);simp[L101_0,h1,hix,hlk,hw,hc,hu,ih']
   |some u=>
    rw[hu]at hc;have ih':=ih2 (acc++[(f.1,u)]) (by simp;omega);have hap:=yD (a:=acc) (b:=[(f.1,u)]) (by simp;omega);simp[L101_0,h1,hix,hlk,hw,hc,hu,rL,HW,hap,A8,ih']
theorem t101(a b:Ty)(ha:dJ a)(hb:dJ b):af pg 101 [a.av,b.av]=M.pure (match uz a b with|some u=>.tup [u.av,.bool true]|none=>.tup [ty0.av,.bool false]):=by
 have hloop:=rR b hb a.fields ha.len a.kind (.int .i64 0) (.sl []) (fun f hf t ht=>by
  have:=wH hf
  exact t101 f.2 t (ha.kid hf) ht) a.fields.length 0 [] rfl (Ki _) (Ki _)
 rw[C101];have e1:uz a b=if a.kind=b.kind then some (.mk a.kind (kZ a.fields b.fields))else none:=by
  cases a;cases b;simp only[uz,Ty.kind,Ty.fields];rfl
 have b1:aY T false 44 []=some ty0.av:=rfl;have b2:∀k:Int,aY T true 44 [(0,.int .i64 k)]=some (.agg [.int .i64 k,.hn]):=fun k=>rfl;have b3:∀k:Int,aH 2 [1] (.agg [.int .i64 k,.hn])=M.pure (.agg [.int .i64 k,.hn]):=fun k=>rfl;rw[e1];simp only[KG,Kt]at hloop;by_cases hk:a.kind=b.kind
 ·have hk':(a.kind != b.kind)=false:=by simp[hk]
  rw[JV hk];have hloop':aj (L101_0 (af pg) aj) [.ip (ab b.av),aN a.fields,.int .i64 a.fields.length,.int .i64 0,.int .i64 0,.sl [],.int .i64 a.kind,.sl []]=M.pure (.tup [(Ty.mk a.kind (kZ a.fields b.fields)).av,.bool true]):=hloop;simp only[eQ]at hloop';simp[S101,hk',b2,b3,hloop'];exact ba fun g=>by simp[cl,df]
 ·have hk':(a.kind != b.kind)=true:=by simp[hk]
  rw[if_neg hk];simp[S101,hk',b1];exact ba fun g=>by simp[cl,df]
termination_by SizeOf.sizeOf a
end
end Go.Proofs.YtblddnfanlkgiaaGreat
