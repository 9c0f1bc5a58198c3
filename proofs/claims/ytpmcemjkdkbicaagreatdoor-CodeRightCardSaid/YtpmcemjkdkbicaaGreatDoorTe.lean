/- What the functions of the seat compute, part 5: the texts of the claim, one behind the other. Conditions: bounds, as each theorem names them. -/
import Derived.Test.YtpmcemjkdkbicaaGreatDoorTd
import Derived.Test.YtpmcemjkdkbicaaGreatDoorLd
set_option linter.defProp false
set_option linter.unusedSimpArgs false
set_option linter.unusedVariables false
namespace Go.Proofs.YtpmcemjkdkbicaaGreatDoor
open Go Go.Av Go.Av.Ap
set_option maxRecDepth 100000
noncomputable section
def L12_0(call:CC)(fx:bH AV)(a:RR)(b:List AV):M AV:=ae (af (aa T 42 (nth b 0) 4)) fun c=>ae (af (aj T 38 c)) fun d=>ae (af (aK T 38 d)) fun e=>ae (af (ao T .lss 3 (nth b 1) e)) fun f=>ae (ay f true 1 (ae (af (ao T .lss 3 (nth b 1) (.int .i64 7))) fun g=>M.pure [g])) fun h=>ae (af (aJ f (nth h 0) (.bool false))) fun i=>ar i (ae (af (aa T 42 (nth b 0) 4)) fun j=>ae (af (aj T 38 j)) fun k=>ae (af (ak T 38 k (nth b 1))) fun l=>ae (af (aa T 59 l 2)) fun m=>ae (af (aj T 36 m)) fun n=>ae (call 31 [n]) fun o=>ae (af (fm UnOp.not o)) fun p=>ae (ay p false 1 (ae (af (aa T 42 (nth b 0) 4)) fun q=>ae (af (aj T 38 q)) fun r=>ae (af (ak T 38 r (nth b 1))) fun s=>ae (af (aa T 59 s 3)) fun u=>ae (af (aj T 55 u)) fun v=>ae (call 32 [v]) fun w=>ae (af (fm UnOp.not w)) fun x=>M.pure [x])) fun y=>ae (af (aJ p (.bool true) (nth y 0))) fun z=>ae (ay z false 1 (ae (af (aa T 42 (nth b 0) 4)) fun A=>ae (af (aj T 38 A)) fun B=>ae (af (ak T 38 B (nth b 1))) fun C=>ae (af (aa T 59 C 5)) fun D=>ae (af (aj T 57 D)) fun E=>ae (call 33 [E]) fun F=>ae (af (fm UnOp.not F)) fun G=>M.pure [G])) fun H=>ae (af (aJ z (.bool true) (nth H 0))) fun I=>ar I (M.pure (AV.bool false)) (ae (af (ao T .add 3 (nth b 1) (.int .i64 1))) fun J=>a [nth b 0,J])) (ae (af (aa T 42 (nth b 0) 4)) fun K=>ae (af (aj T 38 K)) fun L=>ae (af (aK T 38 L)) fun N=>ae (af (ao T .leq 3 N (.int .i64 6))) fun O=>ae (ay O true 1 (ae (af (aa T 42 (nth b 0) 1)) fun P=>ae (af (aj T 35 P)) fun Q=>ae (af (aK T 35 Q)) fun R=>ae (af (ao T .leq 3 R (.int .i64 6))) fun S=>M.pure [S])) fun U=>ae (af (aJ O (nth U 0) (.bool false))) fun V=>ae (ay V true 1 (ae (af (aa T 42 (nth b 0) 2)) fun W=>ae (af (aj T 36 W)) fun X=>ae (call 31 [X]) fun Y=>M.pure [Y])) fun Z=>ae (af (aJ V (nth Z 0) (.bool false))) fun u0=>ae (ay u0 true 1 (ae (af (aa T 42 (nth b 0) 3)) fun u1=>ae (af (aj T 37 u1)) fun u2=>ae (call 34 [u2]) fun u3=>M.pure [u3])) fun u4=>ae (af (aJ u0 (nth u4 0) (.bool false))) fun u5=>ae (ay u5 true 1 (ae (af (aa T 42 (nth b 0) 6)) fun u6=>ae (af (aa T 40 u6 0)) fun u7=>ae (af (aj T 36 u7)) fun u8=>ae (call 31 [u8]) fun u9=>M.pure [u9])) fun w0=>ae (af (aJ u5 (nth w0 0) (.bool false))) fun w1=>ae (ay w1 true 1 (ae (af (aa T 42 (nth b 0) 6)) fun w2=>ae (af (aa T 40 w2 1)) fun w3=>ae (af (aj T 37 w3)) fun w4=>ae (call 34 [w4]) fun w5=>M.pure [w5])) fun w6=>ae (af (aJ w1 (nth w6 0) (.bool false))) fun w7=>ae (ay w7 true 1 (ae (af (aa T 42 (nth b 0) 6)) fun w8=>ae (af (aa T 40 w8 2)) fun w9=>ae (af (aj T 37 w9)) fun x0=>ae (call 34 [x0]) fun x1=>M.pure [x1])) fun x2=>ae (af (aJ w7 (nth x2 0) (.bool false))) fun x3=>M.pure x3)
def XL12_0{call:CC}:bL (L12_0 call ah) fun _n=>L12_0 call ah  :=by
 intro a b c d;unfold L12_0;exact (by(iterate 6 refine lb fun _=>?_);exact (au (by(iterate 11 refine lb fun _=>?_);exact (au (aR.const _) (lb fun _=>c _))) (aR.const _)))
def FL12_0(call:CC)(vs:List AV):ah (L12_0 call ah) vs=L12_0 call ah  (ah (L12_0 call ah)) vs:=aY (XL12_0) vs
def S12(call:CC)(fx:bH AV)(a0:AV):M AV:=fx (L12_0 call fx) [.ip (ab a0),.int .i64 0]
def E12(a0:AV):EE 12 Tryz.f12 Ei [a0] (fun c x=>S12 c x a0):=fun _ _=>by kernel_rfl
def C12(a0:AV):ai pg 12 [a0]=aM (S12 (ai pg) ah (cl az a0)):=(aC aI rfl rfl rfl _).trans (LG aM (E12 (cl az a0) _ _))
def L16_0(call:CC)(fx:bH AV)(a:RR)(b:List AV):M AV:=ae (af (aa T 51 (nth b 0) 1)) fun c=>ae (af (aj T 49 c)) fun d=>ae (af (aK T 49 d)) fun e=>ae (af (ao T .lss 3 (nth b 1) e)) fun f=>ae (ay f true 1 (ae (af (ao T .lss 3 (nth b 1) (.int .i64 9))) fun g=>M.pure [g])) fun h=>ae (af (aJ f (nth h 0) (.bool false))) fun i=>ar i (ae (af (aa T 51 (nth b 0) 1)) fun j=>ae (af (aj T 49 j)) fun k=>ae (af (ak T 49 k (nth b 1))) fun l=>ae (af (aj T 102 l)) fun m=>ae (call 43 [m]) fun n=>ae (af (fm UnOp.not n)) fun o=>ar o (M.pure (AV.bool false)) (ae (af (ao T .add 3 (nth b 1) (.int .i64 1))) fun p=>a [nth b 0,p])) (ae (af (aa T 51 (nth b 0) 1)) fun q=>ae (af (aj T 49 q)) fun r=>ae (af (aK T 49 r)) fun s=>ae (af (ao T .leq 3 s (.int .i64 8))) fun u=>M.pure u)
def XL16_0{call:CC}:bL (L16_0 call ah) fun _n=>L16_0 call ah  :=by
 intro a b c d;unfold L16_0;exact (by(iterate 6 refine lb fun _=>?_);exact (au (by(iterate 6 refine lb fun _=>?_);exact (au (aR.const _) (lb fun _=>c _))) (aR.const _)))
def FL16_0(call:CC)(vs:List AV):ah (L16_0 call ah) vs=L16_0 call ah  (ah (L16_0 call ah)) vs:=aY (XL16_0) vs
def S16(call:CC)(fx:bH AV)(a0:AV):M AV:=fx (L16_0 call fx) [.ip (ab a0),.int .i64 0]
def E16(a0:AV):EE 16 Tryz.f16 Em [a0] (fun c x=>S16 c x a0):=fun _ _=>by kernel_rfl
def C16(a0:AV):ai pg 16 [a0]=aM (S16 (ai pg) ah (cl az a0)):=(aC aI rfl rfl rfl _).trans (LG aM (E16 (cl az a0) _ _))
def S21(call:CC)(fx:bH AV)(a0 a1:AV):M AV:=ae (call 53 [a0]) fun a=>ae (af (bB a0)) fun b=>ae (af (aa T 71 b 1)) fun c=>ae (bj T 69 c) fun d=>ae (oH T 69 d a1) fun e=>ae (af (bB a0)) fun f=>ae (af (aa T 71 f 1)) fun g=>ae (bI T 69 g e) fun h=>ae (af (aK T 9 a1)) fun i=>M.pure (AV.tup [i,AV.nili])
def E21(a0 a1:AV):EE 21 Tryz.f21 Ep [a0,a1] (fun c x=>S21 c x a0 a1):=fun _ _=>by kernel_rfl
def C21(a0 a1:AV):ai pg 21 [a0,a1]=S21 (ai pg) ah a0 a1:=(cJ aI rfl rfl rfl _).trans (E21 a0 a1 _ _)
def K23_0(call:CC)(fx:bH AV)(a:List AV):M AV:=ae (af (ao T .add 9 (nth a 0) (.str [10]))) fun b=>M.pure b
def K23_1(call:CC)(fx:bH AV)(a:RR)(b:List AV):M AV:=ae (af (ao T .add 9 (.str [32]) (nth b 2))) fun c=>ae (af (ao T .add 9 c (.str [32]))) fun d=>ae (af (aa T 67 (nth b 0) 2)) fun e=>ae (af (aj T 9 e)) fun f=>ae (af (ao T .add 9 d f)) fun g=>ae (af (ao T .add 9 g (.str [32]))) fun h=>ae (af (aa T 67 (nth b 0) 1)) fun i=>ae (af (aj T 3 i)) fun j=>ae (call 22 [j]) fun k=>ae (af (ao T .add 9 h k)) fun l=>ae (af (ao T .add 9 (nth b 1) l)) fun m=>a [m]
def L23_0(call:CC)(fx:bH AV)(a:RR)(b:RR)(c:List AV):M AV:=ae (af (ao T .lss 3 (nth c 3) (nth c 2))) fun d=>ar d (ae (af (ak T 35 (nth c 1) (nth c 3))) fun e=>ae (af (aj T 9 e)) fun f=>ae (af (ao T .add 9 (.str [32]) f)) fun g=>ae (af (ao T .add 9 (nth c 0) g)) fun h=>ae (af (ao T .add 3 (nth c 3) (.int .i64 1))) fun i=>b [h,nth c 1,nth c 2,i]) (a [nth c 0])
def K23_2(call:CC)(fx:bH AV)(a:RR)(b:List AV):M AV:=ar (nth b 2) (a [nth b 1]) (ae (af (aa T 67 (nth b 0) 1)) fun c=>ae (af (aj T 3 c)) fun d=>ae (call 22 [d]) fun e=>ae (af (ao T .add 9 (.str [32]) e)) fun f=>ae (af (ao T .add 9 (nth b 1) f)) fun g=>a [g])
def XL23_0{call:CC}{a:RR}{b:Nat->RR}(c:bm a fun n=>b n):bL (L23_0 call ah a) fun n=>L23_0 call ah (b n):=by
 intro d e f g;unfold L23_0;exact (lb fun _=>(au (by(iterate 5 refine lb fun _=>?_);exact (f _)) (c _)))
def FL23_0(call:CC)(a:RR)(vs:List AV):ah (L23_0 call ah a) vs=L23_0 call ah a (ah (L23_0 call ah a)) vs:=aY (XL23_0 (bm.const _)) vs
def S23(call:CC)(fx:bH AV)(a0:AV):M AV:=ae (af (aa T 67 (.ip (ab a0)) 0)) fun a=>ae (af (aj T 3 a)) fun b=>ae (af (ak T 120 (.ip [.str [105,110,116],.str [98,111,111,108],.str [108,111,97,100],.str [115,116,111,114,101],.str [97,100,100],.str [115,117,98],.str [109,117,108],.str [108,101,115,115],.str [101,113],.str [110,111,116],.str [106,117,109,112],.str [102,97,108,115,101],.str [114,101,99],.str [102,105,101,108,100],.str [99,97,108,108],.str [97,99,116],.str [103,101,116],.str [115,101,116],.str [114,101,116,117,114,110],.str [112,111,112]]) b)) fun c=>ae (af (aj T 9 c)) fun d=>jn (K23_0 call fx) fun e=>ae (af (aa T 67 (.ip (ab a0)) 0)) fun f=>ae (af (aj T 3 f)) fun g=>ae (af (ao T .eql 3 g (.int .i64 13))) fun h=>ar h (ae (af (aa T 67 (.ip (ab a0)) 2)) fun i=>ae (af (aj T 9 i)) fun j=>ae (af (ao T .add 9 (.str [32]) j)) fun k=>ae (af (ao T .add 9 d k)) fun l=>e [l]) (ae (af (ao T .eql 3 g (.int .i64 14))) fun m=>ar m (ae (af (aa T 67 (.ip (ab a0)) 3)) fun n=>ae (af (aj T 9 n)) fun o=>jn (K23_1 call fx e) fun p=>ae (af (ao T .eql 9 o (.str []))) fun q=>ar q (p [.ip (ab a0),d,.str [46]]) (p [.ip (ab a0),d,o])) (ae (af (ao T .eql 3 g (.int .i64 12))) fun r=>ar r (ae (af (aa T 67 (.ip (ab a0)) 4)) fun s=>ae (af (aj T 35 s)) fun u=>ae (af (aK T 35 u)) fun v=>fx (L23_0 call fx e) [d,u,v,.int .i64 0]) (jn (K23_2 call fx e) fun w=>ae (af (ao T .eql 3 g (.int .i64 4))) fun x=>ar x (w [.ip (ab a0),d,x]) (ae (af (ao T .eql 3 g (.int .i64 5))) fun y=>ar y (w [.ip (ab a0),d,y]) (ae (af (ao T .eql 3 g (.int .i64 6))) fun z=>ar z (w [.ip (ab a0),d,z]) (ae (af (ao T .eql 3 g (.int .i64 7))) fun A=>ar A (w [.ip (ab a0),d,A]) (ae (af (ao T .eql 3 g (.int .i64 8))) fun B=>ar B (w [.ip (ab a0),d,B]) (ae (af (ao T .eql 3 g (.int .i64 9))) fun C=>ar C (w [.ip (ab a0),d,C]) (ae (af (ao T .eql 3 g (.int .i64 18))) fun D=>ar D (w [.ip (ab a0),d,D]) (ae (af (ao T .eql 3 g (.int .i64 19))) fun E=>w [.ip (ab a0),d,E]))))))))))
def E23(a0:AV):EE 23 Tryz.f23 Er [a0] (fun c x=>S23 c x a0):=fun _ _=>by kernel_rfl
def C23(a0:AV):ai pg 23 [a0]=aM (S23 (ai pg) ah (cl az a0)):=(aC aI rfl rfl rfl _).trans (LG aM (E23 (cl az a0) _ _))
def S30(call:CC)(fx:bH AV)(a0 a1:AV):M AV:=ae (af (aa T 67 (.ip (ab a0)) 0)) fun a=>ae (af (aj T 3 a)) fun b=>ae (af (aa T 67 (.ip (ab a1)) 0)) fun c=>ae (af (aj T 3 c)) fun d=>ae (af (ao T .eql 3 b d)) fun e=>ae (ay e true 1 (ae (af (aa T 67 (.ip (ab a0)) 1)) fun f=>ae (af (aj T 3 f)) fun g=>ae (af (aa T 67 (.ip (ab a1)) 1)) fun h=>ae (af (aj T 3 h)) fun i=>ae (af (ao T .eql 3 g i)) fun j=>M.pure [j])) fun k=>ae (af (aJ e (nth k 0) (.bool false))) fun l=>ae (ay l true 1 (ae (af (aa T 67 (.ip (ab a0)) 2)) fun m=>ae (af (aj T 9 m)) fun n=>ae (af (aa T 67 (.ip (ab a1)) 2)) fun o=>ae (af (aj T 9 o)) fun p=>ae (af (ao T .eql 9 n p)) fun q=>M.pure [q])) fun r=>ae (af (aJ l (nth r 0) (.bool false))) fun s=>ae (ay s true 1 (ae (af (aa T 67 (.ip (ab a0)) 3)) fun u=>ae (af (aj T 9 u)) fun v=>ae (af (aa T 67 (.ip (ab a1)) 3)) fun w=>ae (af (aj T 9 w)) fun x=>ae (af (ao T .eql 9 v x)) fun y=>M.pure [y])) fun z=>ae (af (aJ s (nth z 0) (.bool false))) fun A=>ae (ay A true 1 (ae (af (aa T 67 (.ip (ab a0)) 4)) fun B=>ae (af (aj T 35 B)) fun C=>ae (af (aa T 67 (.ip (ab a1)) 4)) fun D=>ae (af (aj T 35 D)) fun E=>ae (call 61 [C,E]) fun F=>M.pure [F])) fun G=>ae (af (aJ A (nth G 0) (.bool false))) fun H=>M.pure H
def E30(a0 a1:AV):EE 30 Tryz.f30 Ex [a0,a1] (fun c x=>S30 c x a0 a1):=fun _ _=>by kernel_rfl
def C30(a0 a1:AV):ai pg 30 [a0,a1]=aM (S30 (ai pg) ah (cl az a0) (cl az a1)):=(aC aI rfl rfl rfl _).trans (LG aM (E30 (cl az a0) (cl az a1) _ _))
def L31_0(call:CC)(fx:bH AV)(a:RR)(b:List AV):M AV:=ae (af (aK T 36 (nth b 0))) fun c=>ae (af (ao T .lss 3 (nth b 1) c)) fun d=>ae (ay d true 1 (ae (af (ao T .lss 3 (nth b 1) (.int .i64 9))) fun e=>M.pure [e])) fun f=>ae (af (aJ d (nth f 0) (.bool false))) fun g=>ar g (ae (af (ak T 36 (nth b 0) (nth b 1))) fun h=>ae (af (aa T 95 h 1)) fun i=>ae (af (aj T 55 i)) fun j=>ae (call 32 [j]) fun k=>ae (af (fm UnOp.not k)) fun l=>ar l (M.pure (AV.bool false)) (ae (af (ao T .add 3 (nth b 1) (.int .i64 1))) fun m=>a [nth b 0,m])) (ae (af (aK T 36 (nth b 0))) fun n=>ae (af (ao T .leq 3 n (.int .i64 8))) fun o=>M.pure o)
def XL31_0{call:CC}:bL (L31_0 call ah) fun _n=>L31_0 call ah  :=by
 intro a b c d;unfold L31_0;exact (lb fun _=>(lb fun _=>(lb fun _=>(lb fun _=>(au (by(iterate 5 refine lb fun _=>?_);exact (au (aR.const _) (lb fun _=>c _))) (aR.const _))))))
def FL31_0(call:CC)(vs:List AV):ah (L31_0 call ah) vs=L31_0 call ah  (ah (L31_0 call ah)) vs:=aY (XL31_0) vs
def S31(call:CC)(fx:bH AV)(a0:AV):M AV:=fx (L31_0 call fx) [a0,.int .i64 0]
def E31(a0:AV):EE 31 Tryz.f31 Ey [a0] (fun c x=>S31 c x a0):=fun _ _=>by kernel_rfl
def C31(a0:AV):ai pg 31 [a0]=aM (S31 (ai pg) ah (cl az a0)):=(aC aI rfl rfl rfl _).trans (LG aM (E31 (cl az a0) _ _))
def S36(call:CC)(fx:bH AV)(a0:AV):M AV:=ae (af (aj T 55 (.ip (ab a0)))) fun a=>ae (call 64 [a,.int .i64 4]) fun b=>M.pure b
def E36(a0:AV):EE 36 Tryz.f36 ED [a0] (fun c x=>S36 c x a0):=fun _ _=>by kernel_rfl
def C36(a0:AV):ai pg 36 [a0]=aM (S36 (ai pg) ah (cl az a0)):=(aC aI rfl rfl rfl _).trans (LG aM (E36 (cl az a0) _ _))
def S37(call:CC)(fx:bH AV)(a0:AV):M AV:=ae (af (aj T 57 (.ip (ab a0)))) fun a=>ae (call 65 [a,.int .i64 12]) fun b=>M.pure b
def E37(a0:AV):EE 37 Tryz.f37 EF [a0] (fun c x=>S37 c x a0):=fun _ _=>by kernel_rfl
def C37(a0:AV):ai pg 37 [a0]=aM (S37 (ai pg) ah (cl az a0)):=(aC aI rfl rfl rfl _).trans (LG aM (E37 (cl az a0) _ _))
def K48_0(call:CC)(fx:bH AV)(a:List AV):M AV:=ae (ay (nth a 4) true 1 (ae (af (ao T .eql 3 (nth a 0) (.int .i64 0))) fun b=>M.pure [b])) fun c=>ae (af (aJ (nth a 4) (nth c 0) (.bool false))) fun d=>ae (ay d true 1 (ae (af (ao T .eql 9 (nth a 1) (.str []))) fun e=>M.pure [e])) fun f=>ae (af (aJ d (nth f 0) (.bool false))) fun g=>ae (ay g true 1 (ae (af (ao T .eql 9 (nth a 2) (.str []))) fun h=>M.pure [h])) fun i=>ae (af (aJ g (nth i 0) (.bool false))) fun j=>ae (ay j true 1 (ae (af (aK T 35 (nth a 3))) fun k=>ae (af (ao T .eql 3 k (.int .i64 0))) fun l=>M.pure [l])) fun m=>ae (af (aJ j (nth m 0) (.bool false))) fun n=>M.pure n
def K48_1(call:CC)(fx:bH AV)(a:RR)(b:List AV):M AV:=ar (nth b 5) (a [nth b 0,nth b 1,nth b 2,nth b 3,nth b 4]) (M.pure (AV.bool false))
def K48_2(call:CC)(fx:bH AV)(a:RR)(b:List AV):M AV:=ar (nth b 6) (ae (af (ao T .leq 3 (.int .i64 0) (nth b 0))) fun c=>ae (ay c true 1 (ae (af (ao T .lss 3 (nth b 0) (.int .i64 8))) fun d=>M.pure [d])) fun e=>ae (af (aJ c (nth e 0) (.bool false))) fun f=>a [.int .i64 0,nth b 1,nth b 2,nth b 3,f]) (ae (af (ao T .eql 3 (nth b 5) (.int .i64 15))) fun g=>ar g (ae (af (ao T .eql 3 (nth b 0) (.int .i64 1))) fun h=>ae (ay h false 1 (ae (af (ao T .eql 3 (nth b 0) (.int .i64 2))) fun i=>M.pure [i])) fun j=>ae (af (aJ h (.bool true) (nth j 0))) fun k=>ae (ay k false 1 (ae (af (ao T .eql 3 (nth b 0) (.int .i64 4))) fun l=>M.pure [l])) fun m=>ae (af (aJ k (.bool true) (nth m 0))) fun n=>ae (ay n false 1 (ae (af (ao T .eql 3 (nth b 0) (.int .i64 8))) fun o=>M.pure [o])) fun p=>ae (af (aJ n (.bool true) (nth p 0))) fun q=>a [.int .i64 0,nth b 1,nth b 2,nth b 3,q]) (ae (af (ao T .eql 3 (nth b 5) (.int .i64 13))) fun r=>ar r (ae (call 15 [nth b 1]) fun s=>a [nth b 0,.str [],nth b 2,nth b 3,s]) (ae (af (ao T .eql 3 (nth b 5) (.int .i64 14))) fun u=>ar u (ae (af (ao T .leq 3 (.int .i64 0) (nth b 0))) fun v=>ae (ay v true 1 (ae (af (ao T .leq 3 (nth b 0) (.int .i64 6))) fun w=>M.pure [w])) fun x=>ae (af (aJ v (nth x 0) (.bool false))) fun y=>ae (ay y true 1 (ae (call 15 [nth b 1]) fun z=>M.pure [z])) fun A=>ae (af (aJ y (nth A 0) (.bool false))) fun B=>ae (ay B true 1 (ae (af (ao T .eql 9 (nth b 2) (.str []))) fun C=>M.pure [C])) fun D=>ae (ay (nth D 0) false 1 (ae (call 15 [nth b 2]) fun E=>M.pure [E])) fun F=>ae (ay B true 1 (ae (af (aJ (nth D 0) (.bool true) (nth F 0))) fun G=>M.pure [G])) fun H=>ae (af (aJ B (nth H 0) (.bool false))) fun I=>a [.int .i64 0,.str [],.str [],nth b 3,I]) (ae (af (ao T .eql 3 (nth b 5) (.int .i64 12))) fun J=>ar J (ae (call 89 [nth b 3]) fun K=>a [nth b 0,nth b 1,nth b 2,.sl [],K]) (jn (K48_1 call fx a) fun L=>ae (af (ao T .eql 3 (nth b 5) (.int .i64 4))) fun N=>ar N (L [nth b 0,nth b 1,nth b 2,nth b 3,nth b 4,N]) (ae (af (ao T .eql 3 (nth b 5) (.int .i64 5))) fun O=>ar O (L [nth b 0,nth b 1,nth b 2,nth b 3,nth b 4,O]) (ae (af (ao T .eql 3 (nth b 5) (.int .i64 6))) fun P=>ar P (L [nth b 0,nth b 1,nth b 2,nth b 3,nth b 4,P]) (ae (af (ao T .eql 3 (nth b 5) (.int .i64 7))) fun Q=>ar Q (L [nth b 0,nth b 1,nth b 2,nth b 3,nth b 4,Q]) (ae (af (ao T .eql 3 (nth b 5) (.int .i64 8))) fun R=>ar R (L [nth b 0,nth b 1,nth b 2,nth b 3,nth b 4,R]) (ae (af (ao T .eql 3 (nth b 5) (.int .i64 9))) fun S=>ar S (L [nth b 0,nth b 1,nth b 2,nth b 3,nth b 4,S]) (ae (af (ao T .eql 3 (nth b 5) (.int .i64 18))) fun U=>ar U (L [nth b 0,nth b 1,nth b 2,nth b 3,nth b 4,U]) (ae (af (ao T .eql 3 (nth b 5) (.int .i64 19))) fun V=>L [nth b 0,nth b 1,nth b 2,nth b 3,nth b 4,V]))))))))))))
def K48_3(call:CC)(fx:bH AV)(a:RR)(b:List AV):M AV:=ar (nth b 7) (ae (af (ao T .leq 3 (.int .i64 0) (nth b 1))) fun c=>ae (ay c true 1 (ae (af (aa T 28 (nth b 0) 3)) fun d=>ae (af (aj T 26 d)) fun e=>ae (af (aK T 26 e)) fun f=>ae (af (ao T .lss 3 (nth b 1) f)) fun g=>M.pure [g])) fun h=>ae (af (aJ c (nth h 0) (.bool false))) fun i=>a [.int .i64 0,nth b 2,nth b 3,nth b 4,i]) (jn (K48_2 call fx a) fun j=>ae (af (ao T .eql 3 (nth b 6) (.int .i64 16))) fun k=>ar k (j [nth b 1,nth b 2,nth b 3,nth b 4,nth b 5,nth b 6,k]) (ae (af (ao T .eql 3 (nth b 6) (.int .i64 17))) fun l=>j [nth b 1,nth b 2,nth b 3,nth b 4,nth b 5,nth b 6,l]))
def K48_4(call:CC)(fx:bH AV)(a:RR)(b:List AV):M AV:=ar (nth b 7) (ae (af (ao T .leq 3 (.int .i64 0) (nth b 1))) fun c=>ae (ay c true 1 (ae (af (aa T 28 (nth b 0) 2)) fun d=>ae (af (aj T 3 d)) fun e=>ae (af (ao T .lss 3 (nth b 1) e)) fun f=>M.pure [f])) fun g=>ae (af (aJ c (nth g 0) (.bool false))) fun h=>a [.int .i64 0,nth b 2,nth b 3,nth b 4,h]) (jn (K48_3 call fx a) fun i=>ae (af (ao T .eql 3 (nth b 6) (.int .i64 10))) fun j=>ar j (i [nth b 0,nth b 1,nth b 2,nth b 3,nth b 4,nth b 5,nth b 6,j]) (ae (af (ao T .eql 3 (nth b 6) (.int .i64 11))) fun k=>i [nth b 0,nth b 1,nth b 2,nth b 3,nth b 4,nth b 5,nth b 6,k]))
def S48(call:CC)(fx:bH AV)(a0 a1:AV):M AV:=ae (af (aa T 67 (.ip (ab a1)) 1)) fun a=>ae (af (aj T 3 a)) fun b=>ae (af (aa T 67 (.ip (ab a1)) 2)) fun c=>ae (af (aj T 9 c)) fun d=>ae (af (aa T 67 (.ip (ab a1)) 3)) fun e=>ae (af (aj T 9 e)) fun f=>ae (af (aa T 67 (.ip (ab a1)) 4)) fun g=>ae (af (aj T 35 g)) fun h=>jn (K48_0 call fx) fun i=>ae (af (aa T 67 (.ip (ab a1)) 0)) fun j=>ae (af (aj T 3 j)) fun k=>ae (af (ao T .eql 3 k (.int .i64 0))) fun l=>ar l (i [.int .i64 0,d,f,h,.bool true]) (ae (af (ao T .eql 3 k (.int .i64 1))) fun m=>ar m (ae (af (ao T .eql 3 b (.int .i64 0))) fun n=>ae (ay n false 1 (ae (af (ao T .eql 3 b (.int .i64 1))) fun o=>M.pure [o])) fun p=>ae (af (aJ n (.bool true) (nth p 0))) fun q=>i [.int .i64 0,d,f,h,q]) (jn (K48_4 call fx i) fun r=>ae (af (ao T .eql 3 k (.int .i64 2))) fun s=>ar s (r [.ip (ab a0),b,d,f,h,.bool true,k,s]) (ae (af (ao T .eql 3 k (.int .i64 3))) fun u=>r [.ip (ab a0),b,d,f,h,.bool true,k,u])))
def E48(a0 a1:AV):EE 48 Tryz.f48 EP [a0,a1] (fun c x=>S48 c x a0 a1):=fun _ _=>by kernel_rfl
def C48(a0 a1:AV):ai pg 48 [a0,a1]=aM (S48 (ai pg) ah (cl az a0) (cl az a1)):=(aC aI rfl rfl rfl _).trans (LG aM (E48 (cl az a0) (cl az a1) _ _))
def L58_0(call:CC)(fx:bH AV)(a:RR)(b:List AV):M AV:=ae (af (ao T .lss 3 (nth b 3) (nth b 2))) fun c=>ar c (ae (af (ak T 35 (nth b 0) (nth b 3))) fun d=>ae (af (aj T 9 d)) fun e=>ae (af (ao T .eql 9 (nth b 1) e)) fun f=>ar f (M.pure (nth b 3)) (ae (af (ao T .add 3 (nth b 3) (.int .i64 1))) fun g=>a [nth b 0,nth b 1,nth b 2,g])) (M.pure (AV.int .i64 (-1)))
def XL58_0{call:CC}:bL (L58_0 call ah) fun _n=>L58_0 call ah  :=by
 intro a b c d;unfold L58_0;exact (lb fun _=>(au (lb fun _=>(lb fun _=>(lb fun _=>(au (aR.const _) (lb fun _=>c _))))) (aR.const _)))
def FL58_0(call:CC)(vs:List AV):ah (L58_0 call ah) vs=L58_0 call ah  (ah (L58_0 call ah)) vs:=aY (XL58_0) vs
def S58(call:CC)(fx:bH AV)(a0 a1:AV):M AV:=ae (af (aK T 35 a0)) fun a=>fx (L58_0 call fx) [a0,a1,a,.int .i64 0]
def E58(a0 a1:AV):EE 58 Tryz.f58 ET [a0,a1] (fun c x=>S58 c x a0 a1):=fun _ _=>by kernel_rfl
def C58(a0 a1:AV):ai pg 58 [a0,a1]=aM (S58 (ai pg) ah (cl az a0) (cl az a1)):=(aC aI rfl rfl rfl _).trans (LG aM (E58 (cl az a0) (cl az a1) _ _))
def L61_0(call:CC)(fx:bH AV)(a:RR)(b:List AV):M AV:=ae (af (aK T 35 (nth b 0))) fun c=>ae (af (ao T .lss 3 (nth b 2) c)) fun d=>ar d (ae (af (ak T 35 (nth b 0) (nth b 2))) fun e=>ae (af (aj T 9 e)) fun f=>ae (af (ak T 35 (nth b 1) (nth b 2))) fun g=>ae (af (aj T 9 g)) fun h=>ae (af (ao T .neq 9 f h)) fun i=>ar i (M.pure (AV.bool false)) (ae (af (ao T .add 3 (nth b 2) (.int .i64 1))) fun j=>a [nth b 0,nth b 1,j])) (M.pure (AV.bool true))
def XL61_0{call:CC}:bL (L61_0 call ah) fun _n=>L61_0 call ah  :=by
 intro a b c d;unfold L61_0;exact (lb fun _=>(lb fun _=>(au (by(iterate 5 refine lb fun _=>?_);exact (au (aR.const _) (lb fun _=>c _))) (aR.const _))))
def FL61_0(call:CC)(vs:List AV):ah (L61_0 call ah) vs=L61_0 call ah  (ah (L61_0 call ah)) vs:=aY (XL61_0) vs
def S61(call:CC)(fx:bH AV)(a0 a1:AV):M AV:=ae (af (aK T 35 a0)) fun a=>ae (af (aK T 35 a1)) fun b=>ae (af (ao T .neq 3 a b)) fun c=>ar c (M.pure (AV.bool false)) (fx (L61_0 call fx) [a0,a1,.int .i64 0])
def E61(a0 a1:AV):EE 61 Tryz.f61 EV [a0,a1] (fun c x=>S61 c x a0 a1):=fun _ _=>by kernel_rfl
def C61(a0 a1:AV):ai pg 61 [a0,a1]=aM (S61 (ai pg) ah (cl az a0) (cl az a1)):=(aC aI rfl rfl rfl _).trans (LG aM (E61 (cl az a0) (cl az a1) _ _))
def L62_0(call:CC)(fx:bH AV)(a:RR)(b:List AV):M AV:=ae (af (aa T 55 (nth b 2) 1)) fun c=>ae (af (aj T 36 c)) fun d=>ae (af (aK T 36 d)) fun e=>ae (af (ao T .lss 3 (nth b 4) e)) fun f=>ae (ay f true 1 (ae (af (ao T .leq 3 (nth b 3) (nth b 0))) fun g=>M.pure [g])) fun h=>ae (af (aJ f (nth h 0) (.bool false))) fun i=>ar i (ae (af (aa T 55 (nth b 2) 1)) fun j=>ae (af (aj T 36 j)) fun k=>ae (af (ak T 36 k (nth b 4))) fun l=>ae (af (aa T 95 l 1)) fun m=>ae (af (aj T 55 m)) fun n=>ae (af (ao T .sub 3 (nth b 0) (nth b 3))) fun o=>ae (af (ao T .sub 3 (nth b 1) (.int .i64 1))) fun p=>ae (call 62 [n,o,p]) fun q=>ae (af (ao T .add 3 (nth b 3) q)) fun r=>ae (af (ao T .add 3 (nth b 4) (.int .i64 1))) fun s=>a [nth b 0,nth b 1,nth b 2,r,s]) (M.pure (nth b 3))
def XL62_0{call:CC}:bL (L62_0 call ah) fun _n=>L62_0 call ah  :=by
 intro a b c d;unfold L62_0;exact (by(iterate 6 refine lb fun _=>?_);exact (au (by(iterate 10 refine lb fun _=>?_);exact (c _)) (aR.const _)))
def FL62_0(call:CC)(vs:List AV):ah (L62_0 call ah) vs=L62_0 call ah  (ah (L62_0 call ah)) vs:=aY (XL62_0) vs
def S62(call:CC)(fx:bH AV)(a0 a1 a2:AV):M AV:=ae (af (ao T .lss 3 a2 (.int .i64 1))) fun a=>ar a (ae (af (ao T .add 3 a1 (.int .i64 1))) fun b=>M.pure b) (fx (L62_0 call fx) [a1,a2,.ip (ab a0),.int .i64 1,.int .i64 0])
def E62(a0 a1 a2:AV):EE 62 Tryz.f62 EW [a0,a1,a2] (fun c x=>S62 c x a0 a1 a2):=fun _ _=>by kernel_rfl
def C62(a0 a1 a2:AV):ai pg 62 [a0,a1,a2]=aM (S62 (ai pg) ah (cl az a0) (cl az a1) (cl az a2)):=(aC aI rfl rfl rfl _).trans (LG aM (E62 (cl az a0) (cl az a1) (cl az a2) _ _))
def L67_0(call:CC)(fx:bH AV)(a:RR)(b:List AV):M AV:=ae (af (ao T .geq 3 (nth b 2) (.int .i64 0))) fun c=>ar c (ae (af (ak T 35 (nth b 0) (nth b 2))) fun d=>ae (af (aj T 9 d)) fun e=>ae (af (ao T .eql 9 e (nth b 1))) fun f=>ar f (M.pure (nth b 2)) (ae (af (ao T .sub 3 (nth b 2) (.int .i64 1))) fun g=>a [nth b 0,nth b 1,g])) (M.pure (AV.int .i64 (-1)))
def XL67_0{call:CC}:bL (L67_0 call ah) fun _n=>L67_0 call ah  :=by
 intro a b c d;unfold L67_0;exact (lb fun _=>(au (lb fun _=>(lb fun _=>(lb fun _=>(au (aR.const _) (lb fun _=>c _))))) (aR.const _)))
def FL67_0(call:CC)(vs:List AV):ah (L67_0 call ah) vs=L67_0 call ah  (ah (L67_0 call ah)) vs:=aY (XL67_0) vs
def S67(call:CC)(fx:bH AV)(a0 a1:AV):M AV:=ae (af (aK T 35 a0)) fun a=>ae (af (ao T .sub 3 a (.int .i64 1))) fun b=>fx (L67_0 call fx) [a0,a1,b]
def E67(a0 a1:AV):EE 67 Tryz.f67 E1 [a0,a1] (fun c x=>S67 c x a0 a1):=fun _ _=>by kernel_rfl
def C67(a0 a1:AV):ai pg 67 [a0,a1]=aM (S67 (ai pg) ah (cl az a0) (cl az a1)):=(aC aI rfl rfl rfl _).trans (LG aM (E67 (cl az a0) (cl az a1) _ _))
def S74(call:CC)(fx:bH AV)(a0:AV):M AV:=ae (call 72 [a0]) fun a=>ae (ay a false 1 (ae (call 75 [a0]) fun b=>M.pure [b])) fun c=>ae (af (aJ a (.bool true) (nth c 0))) fun d=>M.pure d
def E74(a0:AV):EE 74 Tryz.f74 Fb [a0] (fun c x=>S74 c x a0):=fun _ _=>by kernel_rfl
def C74(a0:AV):ai pg 74 [a0]=aM (S74 (ai pg) ah (cl az a0)):=(aC aI rfl rfl rfl _).trans (LG aM (E74 (cl az a0) _ _))
def S94(call:CC)(fx:bH AV)(a0 a1:AV):M AV:=ae (af (aK T 9 a0)) fun a=>ae (af (aK T 9 a1)) fun b=>ae (af (ao T .geq 3 a b)) fun c=>ae (ay c true 1 (ae (af (aK T 9 a0)) fun d=>ae (af (aK T 9 a1)) fun e=>ae (af (ao T .sub 3 d e)) fun f=>ae (af (dj T 9 a0 (some f) none none)) fun g=>ae (af (ao T .eql 9 g a1)) fun h=>M.pure [h])) fun i=>ae (af (aJ c (nth i 0) (.bool false))) fun j=>M.pure j
def E94(a0 a1:AV):EE 94 Tryz.f94 Fu [a0,a1] (fun c x=>S94 c x a0 a1):=fun _ _=>by kernel_rfl
def C94(a0 a1:AV):ai pg 94 [a0,a1]=aM (S94 (ai pg) ah (cl az a0) (cl az a1)):=(aC aI rfl rfl rfl _).trans (LG aM (E94 (cl az a0) (cl az a1) _ _))
def S97(call:CC)(fx:bH AV)(a0 a1:AV):M AV:=ae (call 121 [a0,a1]) fun a=>ar a (ae (af (aK T 9 a1)) fun b=>ae (af (dj T 9 a0 (some b) none none)) fun c=>M.pure c) (M.pure a0)
def E97(a0 a1:AV):EE 97 Tryz.f97 Fv [a0,a1] (fun c x=>S97 c x a0 a1):=fun _ _=>by kernel_rfl
def C97(a0 a1:AV):ai pg 97 [a0,a1]=aM (S97 (ai pg) ah (cl az a0) (cl az a1)):=(aC aI rfl rfl rfl _).trans (LG aM (E97 (cl az a0) (cl az a1) _ _))
def L99_0(call:CC)(fx:bH AV)(a:RR)(b:List AV):M AV:=ae (af (ao T .lss 3 (nth b 3) (nth b 2))) fun c=>ar c (ae (af (ak T 35 (nth b 1) (nth b 3))) fun d=>ae (af (aj T 9 d)) fun e=>ae (call 15 [e]) fun f=>ae (af (fm UnOp.not f)) fun g=>ae (ay g false 1 (ae (af (ao T .gtr 3 (nth b 3) (.int .i64 0))) fun h=>M.pure [h])) fun i=>ae (ay (nth i 0) true 1 (ae (af (aa T 57 (nth b 0) 4)) fun j=>ae (af (aj T 35 j)) fun k=>ae (af (ao T .sub 3 (nth b 3) (.int .i64 1))) fun l=>ae (af (ak T 35 k l)) fun m=>ae (af (aj T 9 m)) fun n=>ae (af (ao T .leq 9 e n)) fun o=>M.pure [o])) fun p=>ae (ay g false 1 (ae (af (aJ (nth i 0) (nth p 0) (.bool false))) fun q=>M.pure [q])) fun r=>ae (af (aJ g (.bool true) (nth r 0))) fun s=>ar s (M.pure (AV.bool false)) (ae (af (ao T .add 3 (nth b 3) (.int .i64 1))) fun u=>a [nth b 0,nth b 1,nth b 2,u])) (ae (af (aa T 57 (nth b 0) 4)) fun v=>ae (af (aj T 35 v)) fun w=>ae (af (aK T 35 w)) fun x=>ae (af (ao T .leq 3 x (.int .i64 8))) fun y=>M.pure y)
def K99_0(call:CC)(fx:bH AV)(a:List AV):M AV:=ar (nth a 2) (ae (af (aa T 57 (nth a 0) 2)) fun b=>ae (af (aj T 9 b)) fun c=>ae (call 15 [c]) fun d=>M.pure d) (ae (af (ao T .eql 3 (nth a 1) (.int .i64 15))) fun e=>ar e (ae (af (aa T 57 (nth a 0) 2)) fun f=>ae (af (aj T 9 f)) fun g=>ae (call 15 [g]) fun h=>ae (ay h true 1 (ae (af (aa T 57 (nth a 0) 3)) fun i=>ae (af (aj T 9 i)) fun j=>ae (af (ao T .eql 9 j (.str []))) fun k=>M.pure [k])) fun l=>ae (ay (nth l 0) false 1 (ae (af (aa T 57 (nth a 0) 3)) fun m=>ae (af (aj T 9 m)) fun n=>ae (call 15 [n]) fun o=>M.pure [o])) fun p=>ae (ay h true 1 (ae (af (aJ (nth l 0) (.bool true) (nth p 0))) fun q=>M.pure [q])) fun r=>ae (af (aJ h (nth r 0) (.bool false))) fun s=>ae (ay s true 1 (ae (af (aa T 57 (nth a 0) 5)) fun u=>ae (af (aj T 37 u)) fun v=>ae (af (aK T 37 v)) fun w=>ae (af (ao T .leq 3 w (.int .i64 6))) fun x=>M.pure [x])) fun y=>ae (af (aJ s (nth y 0) (.bool false))) fun z=>M.pure z) (ae (af (ao T .eql 3 (nth a 1) (.int .i64 13))) fun A=>ar A (ae (af (aa T 57 (nth a 0) 4)) fun B=>ae (af (aj T 35 B)) fun C=>ae (af (aK T 35 C)) fun D=>fx (L99_0 call fx) [nth a 0,C,D,.int .i64 0]) (M.pure (AV.bool true))))
def XL99_0{call:CC}:bL (L99_0 call ah) fun _n=>L99_0 call ah  :=by
 intro a b c d;unfold L99_0;exact (lb fun _=>(au (by(iterate 8 refine lb fun _=>?_);exact (au (aR.const _) (lb fun _=>c _))) (aR.const _)))
def FL99_0(call:CC)(vs:List AV):ah (L99_0 call ah) vs=L99_0 call ah  (ah (L99_0 call ah)) vs:=aY (XL99_0) vs
def S99(call:CC)(fx:bH AV)(a0:AV):M AV:=ae (af (aa T 57 (.ip (ab a0)) 0)) fun a=>ae (af (aj T 3 a)) fun b=>ae (af (ao T .eql 3 b (.int .i64 0))) fun c=>ar c (ae (af (aa T 57 (.ip (ab a0)) 1)) fun d=>ae (af (aj T 3 d)) fun e=>ae (af (ao T .geq 3 e (.int .i64 0))) fun f=>ae (ay f true 1 (ae (af (aa T 57 (.ip (ab a0)) 1)) fun g=>ae (af (aj T 3 g)) fun h=>ae (af (ao T .leq 3 h (.int .i64 1099511627776))) fun i=>M.pure [i])) fun j=>ae (af (aJ f (nth j 0) (.bool false))) fun k=>M.pure k) (ae (af (ao T .eql 3 b (.int .i64 1))) fun l=>ar l (ae (af (aa T 57 (.ip (ab a0)) 1)) fun m=>ae (af (aj T 3 m)) fun n=>ae (af (ao T .eql 3 n (.int .i64 0))) fun o=>ae (ay o false 1 (ae (af (aa T 57 (.ip (ab a0)) 1)) fun p=>ae (af (aj T 3 p)) fun q=>ae (af (ao T .eql 3 q (.int .i64 1))) fun r=>M.pure [r])) fun s=>ae (af (aJ o (.bool true) (nth s 0))) fun u=>M.pure u) (ae (af (ao T .eql 3 b (.int .i64 16))) fun v=>ar v (ae (af (aa T 57 (.ip (ab a0)) 1)) fun w=>ae (af (aj T 3 w)) fun x=>ae (af (ao T .eql 3 x (.int .i64 1))) fun y=>ae (ay y false 1 (ae (af (aa T 57 (.ip (ab a0)) 1)) fun z=>ae (af (aj T 3 z)) fun A=>ae (af (ao T .eql 3 A (.int .i64 2))) fun B=>M.pure [B])) fun C=>ae (af (aJ y (.bool true) (nth C 0))) fun D=>ae (ay D false 1 (ae (af (aa T 57 (.ip (ab a0)) 1)) fun E=>ae (af (aj T 3 E)) fun F=>ae (af (ao T .eql 3 F (.int .i64 4))) fun G=>M.pure [G])) fun H=>ae (af (aJ D (.bool true) (nth H 0))) fun I=>ae (ay I false 1 (ae (af (aa T 57 (.ip (ab a0)) 1)) fun J=>ae (af (aj T 3 J)) fun K=>ae (af (ao T .eql 3 K (.int .i64 8))) fun L=>M.pure [L])) fun N=>ae (af (aJ I (.bool true) (nth N 0))) fun O=>M.pure O) (jn (K99_0 call fx) fun P=>ae (af (ao T .eql 3 b (.int .i64 2))) fun Q=>ar Q (P [.ip (ab a0),b,Q]) (ae (af (ao T .eql 3 b (.int .i64 17))) fun R=>ar R (P [.ip (ab a0),b,R]) (ae (af (ao T .eql 3 b (.int .i64 18))) fun S=>ar S (P [.ip (ab a0),b,S]) (ae (af (ao T .eql 3 b (.int .i64 14))) fun U=>ar U (P [.ip (ab a0),b,U]) (ae (af (ao T .eql 3 b (.int .i64 12))) fun V=>P [.ip (ab a0),b,V])))))))
def E99(a0:AV):EE 99 Tryz.f99 Fx [a0] (fun c x=>S99 c x a0):=fun _ _=>by kernel_rfl
def C99(a0:AV):ai pg 99 [a0]=aM (S99 (ai pg) ah (cl az a0)):=(aC aI rfl rfl rfl _).trans (LG aM (E99 (cl az a0) _ _))
def L105_0(call:CC)(fx:bH AV)(a:RR)(b:List AV):M AV:=ae (af (ao T .lss 3 (nth b 2) (nth b 1))) fun c=>ar c (ae (af (ak T 36 (nth b 0) (nth b 2))) fun d=>ae (af (aj T 95 d)) fun e=>ae (aT 3 e) fun f=>ae (af (aa T 95 (.ip (ab f)) 1)) fun g=>ae (af (aj T 55 g)) fun h=>ae (af (aS T 100 1 [(0,h)])) fun i=>ae (af (dm T 100 (nth b 9) i)) fun j=>ae (cq j) fun k=>ae (af (ao T .add 3 (nth b 2) (.int .i64 1))) fun l=>a [nth b 0,nth b 1,l,nth b 3,nth b 4,nth b 5,nth b 6,nth b 7,nth b 8,j,nth b 10,nth b 11,nth b 12]) (ae (aE 5 [] (.agg [nth b 8,nth b 9,nth b 10,nth b 11,nth b 12])) fun m=>M.pure (AV.tup [.agg [nth (ab m) 0,nth (ab m) 1,nth (ab m) 2,nth (ab m) 3,nth (ab m) 4],.bool true]))
def XL105_0{call:CC}:bL (L105_0 call ah) fun _n=>L105_0 call ah  :=by
 intro a b c d;unfold L105_0;exact (lb fun _=>(au (by(iterate 9 refine lb fun _=>?_);exact (c _)) (aR.const _)))
def FL105_0(call:CC)(vs:List AV):ah (L105_0 call ah) vs=L105_0 call ah  (ah (L105_0 call ah)) vs:=aY (XL105_0) vs
def S105(call:CC)(fx:bH AV)(a0 a1:AV):M AV:=ae (af (aa T 57 (.ip (ab a1)) 3)) fun a=>ae (af (aj T 9 a)) fun b=>ae (af (ao T .eql 9 b (.str []))) fun c=>ar c (ae (af (bB a0)) fun d=>ae (af (aa T 109 d 0)) fun e=>ae (af (aa T 42 e 4)) fun f=>ae (bj T 38 f) fun g=>ae (call 127 [g,.fn (Fn.func 128) [] [.ip (ab a1)]]) fun h=>ae (af (ao T .lss 3 h (.int .i64 0))) fun i=>ar i (ae (af (aQ T false 102 [])) fun j=>ae (aE 5 [] j) fun k=>M.pure (AV.tup [.agg [nth (ab k) 0,nth (ab k) 1,nth (ab k) 2,nth (ab k) 3,nth (ab k) 4],.bool false])) (ae (af (bB a0)) fun l=>ae (af (aa T 109 l 0)) fun m=>ae (af (aa T 42 m 4)) fun n=>ae (bj T 38 n) fun o=>ae (af (ak T 38 o h)) fun p=>ae (af (aj T 59 p)) fun q=>ae (aT 12 q) fun r=>ae (af (aa T 59 (.ip (ab r)) 3)) fun s=>ae (af (aj T 55 s)) fun u=>ae (af (aa T 59 (.ip (ab r)) 4)) fun v=>ae (af (aj T 3 v)) fun w=>ae (af (aQ T true 102 [(2,u),(3,w)])) fun x=>ae (aE 5 [1] x) fun y=>ae (af (aa T 59 (.ip (ab r)) 2)) fun z=>ae (af (aj T 36 z)) fun A=>ae (af (aK T 36 A)) fun B=>fx (L105_0 call fx) [A,B,.int .i64 0,.str [],.sl [],.int .i64 0,.sl [],.int .i64 0,nth (ab y) 0,.sl [],nth (ab y) 2,nth (ab y) 3,nth (ab y) 4])) (ae (af (bB a0)) fun C=>ae (af (aa T 109 C 1)) fun D=>ae (bj T 107 D) fun E=>ae (af (aa T 57 (.ip (ab a1)) 3)) fun F=>ae (af (aj T 9 F)) fun G=>ae (eO T 107 E G true) fun H=>ae (af (aG H 0)) fun I=>ae (af (aG H 1)) fun J=>ae (aT 2 I) fun K=>ae (af (aa T 51 (.ip (ab K)) 1)) fun L=>ae (af (aj T 49 L)) fun N=>ae (call 129 [N,.fn (Fn.func 130) [] [.ip (ab a1)]]) fun O=>ae (af (fm UnOp.not J)) fun P=>ae (ay P false 1 (ae (af (ao T .lss 3 O (.int .i64 0))) fun Q=>M.pure [Q])) fun R=>ae (af (aJ P (.bool true) (nth R 0))) fun S=>ae (ay S false 1 (ae (af (bB a0)) fun U=>ae (af (aa T 109 U 0)) fun V=>ae (af (aa T 42 V 1)) fun W=>ae (bj T 35 W) fun X=>ae (af (aa T 57 (.ip (ab a1)) 3)) fun Y=>ae (af (aj T 9 Y)) fun Z=>ae (cW (call 131 [X,Z])) fun u0=>ae (af (fm UnOp.not u0)) fun u1=>M.pure [u1])) fun u2=>ae (af (aJ S (.bool true) (nth u2 0))) fun u3=>ar u3 (ae (af (aQ T false 102 [])) fun u4=>ae (aE 5 [] u4) fun u5=>M.pure (AV.tup [.agg [nth (ab u5) 0,nth (ab u5) 1,nth (ab u5) 2,nth (ab u5) 3,nth (ab u5) 4],.bool false])) (ae (af (aa T 51 (.ip (ab K)) 1)) fun u6=>ae (af (aj T 49 u6)) fun u7=>ae (af (ak T 49 u7 O)) fun u8=>ae (af (aj T 102 u8)) fun u9=>ae (aE 5 [] u9) fun w0=>M.pure (AV.tup [.agg [nth (ab w0) 0,nth (ab w0) 1,nth (ab w0) 2,nth (ab w0) 3,nth (ab w0) 4],.bool true])))
def E105(a0 a1:AV):EE 105 Tryz.f105 zZ [a0,a1] (fun c x=>S105 c x a0 a1):=fun _ _=>by kernel_rfl
def C105(a0 a1:AV):ai pg 105 [a0,a1]=S105 (ai pg) ah a0 a1:=(cJ aI rfl rfl rfl _).trans (E105 a0 a1 _ _)
def L108_0(call:CC)(fx:bH AV)(a:RR)(b:List AV):M AV:=ae (af (ao T .lss 3 (nth b 3) (nth b 2))) fun c=>ar c (ae (af (ak T 36 (nth b 1) (nth b 3))) fun d=>ae (af (aj T 95 d)) fun e=>ae (aT 3 e) fun f=>ae (af (aa T 55 (nth b 0) 1)) fun g=>ae (af (aj T 36 g)) fun h=>ae (af (aa T 95 (.ip (ab f)) 0)) fun i=>ae (af (aj T 9 i)) fun j=>ae (call 81 [h,j]) fun k=>ae (af (aG k 0)) fun l=>ae (af (aG k 1)) fun m=>ae (aT 2 l) fun n=>ar m (ae (af (aa T 95 (.ip (ab f)) 1)) fun o=>ae (af (aj T 55 o)) fun p=>ae (af (aj T 55 (.ip (ab n)))) fun q=>ae (call 108 [p,q]) fun r=>ae (af (aG r 0)) fun s=>ae (af (aG r 1)) fun u=>ae (aT 2 s) fun v=>ar u (ae (af (aa T 95 (.ip (ab f)) 0)) fun w=>ae (af (aj T 9 w)) fun x=>ae (af (aj T 55 (.ip (ab v)))) fun y=>ae (af (aQ T false 95 [(0,x),(1,y)])) fun z=>ae (af (aS T 36 1 [(0,z)])) fun A=>ae (af (dm T 36 (nth b 7) A)) fun B=>ae (cq B) fun C=>ae (af (ao T .add 3 (nth b 3) (.int .i64 1))) fun D=>a [nth b 0,nth b 1,nth b 2,D,nth b 4,nth b 5,nth b 6,B]) (ae (af (ao T .add 3 (nth b 3) (.int .i64 1))) fun E=>a [nth b 0,nth b 1,nth b 2,E,nth b 4,nth b 5,nth b 6,nth b 7])) (ae (af (ao T .add 3 (nth b 3) (.int .i64 1))) fun F=>a [nth b 0,nth b 1,nth b 2,F,nth b 4,nth b 5,nth b 6,nth b 7])) (ae (aE 2 [] (.agg [nth b 6,nth b 7])) fun G=>M.pure (AV.tup [.agg [nth (ab G) 0,nth (ab G) 1],.bool true]))
def XL108_0{call:CC}:bL (L108_0 call ah) fun _n=>L108_0 call ah  :=by
 intro a b c d;unfold L108_0;exact (lb fun _=>(au (by(iterate 11 refine lb fun _=>?_);exact (au (by(iterate 7 refine lb fun _=>?_);exact (au (by(iterate 8 refine lb fun _=>?_);exact (c _)) (lb fun _=>c _))) (lb fun _=>c _))) (aR.const _)))
def FL108_0(call:CC)(vs:List AV):ah (L108_0 call ah) vs=L108_0 call ah  (ah (L108_0 call ah)) vs:=aY (XL108_0) vs
def S108(call:CC)(fx:bH AV)(a0 a1:AV):M AV:=ae (af (aa T 55 (.ip (ab a0)) 0)) fun a=>ae (af (aj T 3 a)) fun b=>ae (af (aa T 55 (.ip (ab a1)) 0)) fun c=>ae (af (aj T 3 c)) fun d=>ae (af (ao T .neq 3 b d)) fun e=>ar e (ae (af (aQ T false 55 [])) fun f=>ae (aE 2 [] f) fun g=>M.pure (AV.tup [.agg [nth (ab g) 0,nth (ab g) 1],.bool false])) (ae (af (aa T 55 (.ip (ab a0)) 0)) fun h=>ae (af (aj T 3 h)) fun i=>ae (af (aQ T true 55 [(0,i)])) fun j=>ae (aE 2 [1] j) fun k=>ae (af (aa T 55 (.ip (ab a0)) 1)) fun l=>ae (af (aj T 36 l)) fun m=>ae (af (aK T 36 m)) fun n=>fx (L108_0 call fx) [.ip (ab a1),m,n,.int .i64 0,.int .i64 0,.sl [],nth (ab k) 0,.sl []])
def E108(a0 a1:AV):EE 108 Tryz.f108 Ab [a0,a1] (fun c x=>S108 c x a0 a1):=fun _ _=>by kernel_rfl
def C108(a0 a1:AV):ai pg 108 [a0,a1]=aM (S108 (ai pg) ah (cl az a0) (cl az a1)):=(aC aI rfl rfl rfl _).trans (LG aM (E108 (cl az a0) (cl az a1) _ _))
def S130(call:CC)(fx:bH AV)(a0 a1:AV):M AV:=ae (af (aa T 102 (.ip (ab a0)) 0)) fun a=>ae (af (aj T 9 a)) fun b=>ae (af (aa T 57 a1 2)) fun c=>ae (af (aj T 9 c)) fun d=>ae (af (ao T .eql 9 b d)) fun e=>M.pure e
def E130(a0 a1:AV):EE 130 Tryz.f130 Ag [a0,a1] (fun c x=>S130 c x a0 a1):=fun _ _=>by kernel_rfl
def C130(a0 a1:AV):ai pg 130 [a0,a1]=aM (S130 (ai pg) ah (cl az a0) (cl az a1)):=(aC aI rfl rfl rfl _).trans (LG aM (E130 (cl az a0) (cl az a1) _ _))
def S131(call:CC)(fx:bH AV)(a0 a1:AV):M AV:=ae (call 58 [a0,a1]) fun a=>ae (af (ao T .geq 3 a (.int .i64 0))) fun b=>M.pure b
def E131(a0 a1:AV):EE 131 Tryz.f131 Ah [a0,a1] (fun c x=>S131 c x a0 a1):=fun _ _=>by kernel_rfl
def C131(a0 a1:AV):ai pg 131 [a0,a1]=aM (S131 (ai pg) ah (cl az a0) (cl az a1)):=(aC aI rfl rfl rfl _).trans (LG aM (E131 (cl az a0) (cl az a1) _ _))
@[simp] theorem FA28_0(cs:List AV):aa T 28 (.ip cs) 0=some (.ip (cs.drop 0)):=rfl
@[simp] theorem FH28_0(l k:Nat):aa T 28 (.hp l k) 0=some (.hp l (k+0)):=rfl
@[simp] theorem FA28_1(cs:List AV):aa T 28 (.ip cs) 1=some (.ip (cs.drop 1)):=rfl
@[simp] theorem FH28_1(l k:Nat):aa T 28 (.hp l k) 1=some (.hp l (k+1)):=rfl
@[simp] theorem FA28_2(cs:List AV):aa T 28 (.ip cs) 2=some (.ip (cs.drop 2)):=rfl
@[simp] theorem FH28_2(l k:Nat):aa T 28 (.hp l k) 2=some (.hp l (k+2)):=rfl
@[simp] theorem FA28_3(cs:List AV):aa T 28 (.ip cs) 3=some (.ip (cs.drop 3)):=rfl
@[simp] theorem FH28_3(l k:Nat):aa T 28 (.hp l k) 3=some (.hp l (k+3)):=rfl
@[simp] theorem FA40_0(cs:List AV):aa T 40 (.ip cs) 0=some (.ip (cs.drop 0)):=rfl
@[simp] theorem FH40_0(l k:Nat):aa T 40 (.hp l k) 0=some (.hp l (k+0)):=rfl
@[simp] theorem FA40_1(cs:List AV):aa T 40 (.ip cs) 1=some (.ip (cs.drop 1)):=rfl
@[simp] theorem FH40_1(l k:Nat):aa T 40 (.hp l k) 1=some (.hp l (k+1)):=rfl
@[simp] theorem FA40_2(cs:List AV):aa T 40 (.ip cs) 2=some (.ip (cs.drop 2)):=rfl
@[simp] theorem FH40_2(l k:Nat):aa T 40 (.hp l k) 2=some (.hp l (k+2)):=rfl
@[simp] theorem FA42_0(cs:List AV):aa T 42 (.ip cs) 0=some (.ip (cs.drop 0)):=rfl
@[simp] theorem FH42_0(l k:Nat):aa T 42 (.hp l k) 0=some (.hp l (k+0)):=rfl
@[simp] theorem FA42_1(cs:List AV):aa T 42 (.ip cs) 1=some (.ip (cs.drop 1)):=rfl
@[simp] theorem FH42_1(l k:Nat):aa T 42 (.hp l k) 1=some (.hp l (k+1)):=rfl
@[simp] theorem FA42_2(cs:List AV):aa T 42 (.ip cs) 2=some (.ip (cs.drop 2)):=rfl
@[simp] theorem FH42_2(l k:Nat):aa T 42 (.hp l k) 2=some (.hp l (k+2)):=rfl
@[simp] theorem FA42_3(cs:List AV):aa T 42 (.ip cs) 3=some (.ip (cs.drop 3)):=rfl
@[simp] theorem FH42_3(l k:Nat):aa T 42 (.hp l k) 3=some (.hp l (k+3)):=rfl
@[simp] theorem FA42_4(cs:List AV):aa T 42 (.ip cs) 4=some (.ip (cs.drop 4)):=rfl
@[simp] theorem FH42_4(l k:Nat):aa T 42 (.hp l k) 4=some (.hp l (k+4)):=rfl
@[simp] theorem FA42_5(cs:List AV):aa T 42 (.ip cs) 5=some (.ip (cs.drop 5)):=rfl
@[simp] theorem FH42_5(l k:Nat):aa T 42 (.hp l k) 5=some (.hp l (k+5)):=rfl
@[simp] theorem FA42_6(cs:List AV):aa T 42 (.ip cs) 6=some (.ip (cs.drop 6)):=rfl
@[simp] theorem FH42_6(l k:Nat):aa T 42 (.hp l k) 6=some (.hp l (k+6)):=rfl
@[simp] theorem FA51_0(cs:List AV):aa T 51 (.ip cs) 0=some (.ip (cs.drop 0)):=rfl
@[simp] theorem FH51_0(l k:Nat):aa T 51 (.hp l k) 0=some (.hp l (k+0)):=rfl
@[simp] theorem FA51_1(cs:List AV):aa T 51 (.ip cs) 1=some (.ip (cs.drop 1)):=rfl
@[simp] theorem FH51_1(l k:Nat):aa T 51 (.hp l k) 1=some (.hp l (k+1)):=rfl
@[simp] theorem FA55_0(cs:List AV):aa T 55 (.ip cs) 0=some (.ip (cs.drop 0)):=rfl
@[simp] theorem FH55_0(l k:Nat):aa T 55 (.hp l k) 0=some (.hp l (k+0)):=rfl
@[simp] theorem FA55_1(cs:List AV):aa T 55 (.ip cs) 1=some (.ip (cs.drop 1)):=rfl
@[simp] theorem FH55_1(l k:Nat):aa T 55 (.hp l k) 1=some (.hp l (k+1)):=rfl
@[simp] theorem FA57_0(cs:List AV):aa T 57 (.ip cs) 0=some (.ip (cs.drop 0)):=rfl
@[simp] theorem FH57_0(l k:Nat):aa T 57 (.hp l k) 0=some (.hp l (k+0)):=rfl
@[simp] theorem FA57_1(cs:List AV):aa T 57 (.ip cs) 1=some (.ip (cs.drop 1)):=rfl
@[simp] theorem FH57_1(l k:Nat):aa T 57 (.hp l k) 1=some (.hp l (k+1)):=rfl
@[simp] theorem FA57_2(cs:List AV):aa T 57 (.ip cs) 2=some (.ip (cs.drop 2)):=rfl
@[simp] theorem FH57_2(l k:Nat):aa T 57 (.hp l k) 2=some (.hp l (k+2)):=rfl
@[simp] theorem FA57_3(cs:List AV):aa T 57 (.ip cs) 3=some (.ip (cs.drop 3)):=rfl
@[simp] theorem FH57_3(l k:Nat):aa T 57 (.hp l k) 3=some (.hp l (k+3)):=rfl
@[simp] theorem FA57_4(cs:List AV):aa T 57 (.ip cs) 4=some (.ip (cs.drop 4)):=rfl
@[simp] theorem FH57_4(l k:Nat):aa T 57 (.hp l k) 4=some (.hp l (k+4)):=rfl
@[simp] theorem FA57_5(cs:List AV):aa T 57 (.ip cs) 5=some (.ip (cs.drop 5)):=rfl
@[simp] theorem FH57_5(l k:Nat):aa T 57 (.hp l k) 5=some (.hp l (k+5)):=rfl
@[simp] theorem FA59_0(cs:List AV):aa T 59 (.ip cs) 0=some (.ip (cs.drop 0)):=rfl
@[simp] theorem FH59_0(l k:Nat):aa T 59 (.hp l k) 0=some (.hp l (k+0)):=rfl
@[simp] theorem FA59_2(cs:List AV):aa T 59 (.ip cs) 2=some (.ip (cs.drop 2)):=rfl
@[simp] theorem FH59_2(l k:Nat):aa T 59 (.hp l k) 2=some (.hp l (k+2)):=rfl
@[simp] theorem FA59_3(cs:List AV):aa T 59 (.ip cs) 3=some (.ip (cs.drop 3)):=rfl
@[simp] theorem FH59_3(l k:Nat):aa T 59 (.hp l k) 3=some (.hp l (k+3)):=rfl
@[simp] theorem FA59_4(cs:List AV):aa T 59 (.ip cs) 4=some (.ip (cs.drop 5)):=rfl
@[simp] theorem FH59_4(l k:Nat):aa T 59 (.hp l k) 4=some (.hp l (k+5)):=rfl
@[simp] theorem FA59_5(cs:List AV):aa T 59 (.ip cs) 5=some (.ip (cs.drop 6)):=rfl
@[simp] theorem FH59_5(l k:Nat):aa T 59 (.hp l k) 5=some (.hp l (k+6)):=rfl
@[simp] theorem FA67_0(cs:List AV):aa T 67 (.ip cs) 0=some (.ip (cs.drop 0)):=rfl
@[simp] theorem FH67_0(l k:Nat):aa T 67 (.hp l k) 0=some (.hp l (k+0)):=rfl
@[simp] theorem FA67_1(cs:List AV):aa T 67 (.ip cs) 1=some (.ip (cs.drop 1)):=rfl
@[simp] theorem FH67_1(l k:Nat):aa T 67 (.hp l k) 1=some (.hp l (k+1)):=rfl
@[simp] theorem FA67_2(cs:List AV):aa T 67 (.ip cs) 2=some (.ip (cs.drop 2)):=rfl
@[simp] theorem FH67_2(l k:Nat):aa T 67 (.hp l k) 2=some (.hp l (k+2)):=rfl
@[simp] theorem FA67_3(cs:List AV):aa T 67 (.ip cs) 3=some (.ip (cs.drop 3)):=rfl
@[simp] theorem FH67_3(l k:Nat):aa T 67 (.hp l k) 3=some (.hp l (k+3)):=rfl
@[simp] theorem FA67_4(cs:List AV):aa T 67 (.ip cs) 4=some (.ip (cs.drop 4)):=rfl
@[simp] theorem FH67_4(l k:Nat):aa T 67 (.hp l k) 4=some (.hp l (k+4)):=rfl
@[simp] theorem FA71_1(cs:List AV):aa T 71 (.ip cs) 1=some (.ip (cs.drop 1)):=rfl
@[simp] theorem FH71_1(l k:Nat):aa T 71 (.hp l k) 1=some (.hp l (k+1)):=rfl
@[simp] theorem FA93_0(cs:List AV):aa T 93 (.ip cs) 0=some (.ip (cs.drop 0)):=rfl
@[simp] theorem FH93_0(l k:Nat):aa T 93 (.hp l k) 0=some (.hp l (k+0)):=rfl
@[simp] theorem FA93_1(cs:List AV):aa T 93 (.ip cs) 1=some (.ip (cs.drop 1)):=rfl
@[simp] theorem FH93_1(l k:Nat):aa T 93 (.hp l k) 1=some (.hp l (k+1)):=rfl
@[simp] theorem FA93_2(cs:List AV):aa T 93 (.ip cs) 2=some (.ip (cs.drop 2)):=rfl
@[simp] theorem FH93_2(l k:Nat):aa T 93 (.hp l k) 2=some (.hp l (k+2)):=rfl
@[simp] theorem FA95_0(cs:List AV):aa T 95 (.ip cs) 0=some (.ip (cs.drop 0)):=rfl
@[simp] theorem FH95_0(l k:Nat):aa T 95 (.hp l k) 0=some (.hp l (k+0)):=rfl
@[simp] theorem FA95_1(cs:List AV):aa T 95 (.ip cs) 1=some (.ip (cs.drop 1)):=rfl
@[simp] theorem FH95_1(l k:Nat):aa T 95 (.hp l k) 1=some (.hp l (k+1)):=rfl
@[simp] theorem FA102_0(cs:List AV):aa T 102 (.ip cs) 0=some (.ip (cs.drop 0)):=rfl
@[simp] theorem FH102_0(l k:Nat):aa T 102 (.hp l k) 0=some (.hp l (k+0)):=rfl
@[simp] theorem FA102_1(cs:List AV):aa T 102 (.ip cs) 1=some (.ip (cs.drop 1)):=rfl
@[simp] theorem FH102_1(l k:Nat):aa T 102 (.hp l k) 1=some (.hp l (k+1)):=rfl
@[simp] theorem FA102_2(cs:List AV):aa T 102 (.ip cs) 2=some (.ip (cs.drop 2)):=rfl
@[simp] theorem FH102_2(l k:Nat):aa T 102 (.hp l k) 2=some (.hp l (k+2)):=rfl
@[simp] theorem FA102_3(cs:List AV):aa T 102 (.ip cs) 3=some (.ip (cs.drop 4)):=rfl
@[simp] theorem FH102_3(l k:Nat):aa T 102 (.hp l k) 3=some (.hp l (k+4)):=rfl
@[simp] theorem FA109_0(cs:List AV):aa T 109 (.ip cs) 0=some (.ip (cs.drop 0)):=rfl
@[simp] theorem FH109_0(l k:Nat):aa T 109 (.hp l k) 0=some (.hp l (k+0)):=rfl
@[simp] theorem FA109_1(cs:List AV):aa T 109 (.ip cs) 1=some (.ip (cs.drop 9)):=rfl
@[simp] theorem FH109_1(l k:Nat):aa T 109 (.hp l k) 1=some (.hp l (k+9)):=rfl
@[simp] theorem FA109_2(cs:List AV):aa T 109 (.ip cs) 2=some (.ip (cs.drop 10)):=rfl
@[simp] theorem FH109_2(l k:Nat):aa T 109 (.hp l k) 2=some (.hp l (k+10)):=rfl
@[simp] theorem LD3(x:AV)(l:List AV):aj T 3 (.ip (x:: l))=some x:=rfl
@[simp] theorem LD4(x:AV)(l:List AV):aj T 4 (.ip (x:: l))=some x:=rfl
@[simp] theorem LD9(x:AV)(l:List AV):aj T 9 (.ip (x:: l))=some x:=rfl
@[simp] theorem LD26(x:AV)(l:List AV):aj T 26 (.ip (x:: l))=some x:=rfl
@[simp] theorem LD28(cs:List AV):aj T 28 (.ip cs)=if 4<=cs.length then some (.agg (cs.take 4))else none:=rfl
@[simp] theorem LD35(x:AV)(l:List AV):aj T 35 (.ip (x:: l))=some x:=rfl
@[simp] theorem LD36(x:AV)(l:List AV):aj T 36 (.ip (x:: l))=some x:=rfl
@[simp] theorem LD37(x:AV)(l:List AV):aj T 37 (.ip (x:: l))=some x:=rfl
@[simp] theorem LD38(x:AV)(l:List AV):aj T 38 (.ip (x:: l))=some x:=rfl
@[simp] theorem LD42(cs:List AV):aj T 42 (.ip cs)=if 9<=cs.length then some (.agg (cs.take 9))else none:=rfl
@[simp] theorem LD49(x:AV)(l:List AV):aj T 49 (.ip (x:: l))=some x:=rfl
@[simp] theorem LD51(cs:List AV):aj T 51 (.ip cs)=if 2<=cs.length then some (.agg (cs.take 2))else none:=rfl
@[simp] theorem LD55(cs:List AV):aj T 55 (.ip cs)=if 2<=cs.length then some (.agg (cs.take 2))else none:=rfl
@[simp] theorem LD57(cs:List AV):aj T 57 (.ip cs)=if 6<=cs.length then some (.agg (cs.take 6))else none:=rfl
@[simp] theorem LD59(cs:List AV):aj T 59 (.ip cs)=if 12<=cs.length then some (.agg (cs.take 12))else none:=rfl
@[simp] theorem LD67(cs:List AV):aj T 67 (.ip cs)=if 5<=cs.length then some (.agg (cs.take 5))else none:=rfl
@[simp] theorem LD69(x:AV)(l:List AV):aj T 69 (.ip (x:: l))=some x:=rfl
@[simp] theorem LD95(cs:List AV):aj T 95 (.ip cs)=if 3<=cs.length then some (.agg (cs.take 3))else none:=rfl
@[simp] theorem LD100(x:AV)(l:List AV):aj T 100 (.ip (x:: l))=some x:=rfl
@[simp] theorem LD102(cs:List AV):aj T 102 (.ip cs)=if 5<=cs.length then some (.agg (cs.take 5))else none:=rfl
@[simp] theorem LD107(x:AV)(l:List AV):aj T 107 (.ip (x:: l))=some x:=rfl
@[simp] theorem Jr(s:aU):aK T 9 (.str s)=some (.int .i64 s.length):=rfl
@[simp] theorem Ky(es:List AV):aK T 22 (.sl es)=some (.int .i64 es.length):=rfl
@[simp] theorem JE:aK T 22 .hn=some (.int .i64 0):=rfl
@[simp] theorem Jt(l k n s:Nat)(a:Bool):aK T 22 (.hs l k n s a)=some (.int .i64 n):=rfl
@[simp] theorem Kz(es:List AV):aK T 26 (.sl es)=some (.int .i64 es.length):=rfl
@[simp] theorem JF:aK T 26 .hn=some (.int .i64 0):=rfl
@[simp] theorem Ju(l k n s:Nat)(a:Bool):aK T 26 (.hs l k n s a)=some (.int .i64 n):=rfl
@[simp] theorem Hu(es:List AV):aK T 35 (.sl es)=some (.int .i64 es.length):=rfl
@[simp] theorem JG:aK T 35 .hn=some (.int .i64 0):=rfl
@[simp] theorem Jv(l k n s:Nat)(a:Bool):aK T 35 (.hs l k n s a)=some (.int .i64 n):=rfl
@[simp] theorem d8(l:List aU):aK T 35 (strs l)=some (.int .i64 l.length):=(Hu _).trans (by simp)
@[simp] theorem Hv(es:List AV):aK T 36 (.sl es)=some (.int .i64 es.length):=rfl
@[simp] theorem JH:aK T 36 .hn=some (.int .i64 0):=rfl
@[simp] theorem Jw(l k n s:Nat)(a:Bool):aK T 36 (.hs l k n s a)=some (.int .i64 n):=rfl
@[simp] theorem mE(l:List bM):aK T 36 (aO l)=some (.int .i64 l.length):=(Hv _).trans (by simp[e9])
@[simp] theorem Hw(es:List AV):aK T 37 (.sl es)=some (.int .i64 es.length):=rfl
@[simp] theorem JI:aK T 37 .hn=some (.int .i64 0):=rfl
@[simp] theorem Jy(l k n s:Nat)(a:Bool):aK T 37 (.hs l k n s a)=some (.int .i64 n):=rfl
@[simp] theorem rY(l:List Exp):aK T 37 (cw l)=some (.int .i64 l.length):=(Hw _).trans (by simp[g9])
@[simp] theorem Hx(es:List AV):aK T 38 (.sl es)=some (.int .i64 es.length):=rfl
@[simp] theorem JJ:aK T 38 .hn=some (.int .i64 0):=rfl
@[simp] theorem Jz(l k n s:Nat)(a:Bool):aK T 38 (.hs l k n s a)=some (.int .i64 n):=rfl
@[simp] theorem vQ(l:List Fun):aK T 38 (fI l)=some (.int .i64 l.length):=(Hx _).trans (by simp)
@[simp] theorem Hy(es:List AV):aK T 47 (.sl es)=some (.int .i64 es.length):=rfl
@[simp] theorem JK:aK T 47 .hn=some (.int .i64 0):=rfl
@[simp] theorem JB(l k n s:Nat)(a:Bool):aK T 47 (.hs l k n s a)=some (.int .i64 n):=rfl
@[simp] theorem kY(l:List Face):aK T 47 (faces l)=some (.int .i64 l.length):=(Hy _).trans (by simp)
@[simp] theorem Hz(es:List AV):aK T 49 (.sl es)=some (.int .i64 es.length):=rfl
@[simp] theorem JL:aK T 49 .hn=some (.int .i64 0):=rfl
@[simp] theorem JC(l k n s:Nat)(a:Bool):aK T 49 (.hs l k n s a)=some (.int .i64 n):=rfl
@[simp] theorem Js(l:List Sig):aK T 49 (sigs l)=some (.int .i64 l.length):=(Hz _).trans (by simp)
@[simp] theorem HA(es:List AV):aK T 60 (.sl es)=some (.int .i64 es.length):=rfl
@[simp] theorem JM:aK T 60 .hn=some (.int .i64 0):=rfl
@[simp] theorem JD(l k n s:Nat)(a:Bool):aK T 60 (.hs l k n s a)=some (.int .i64 n):=rfl
@[simp] theorem iZ(l:List Int):aK T 60 (ints l)=some (.int .i64 l.length):=(HA _).trans (by simp)
@[simp] theorem FX(es:List AV):aK T 100 (.sl es)=some (.int .i64 es.length):=rfl
@[simp] theorem I5:aK T 100 .hn=some (.int .i64 0):=rfl
@[simp] theorem I4(l k n s:Nat)(a:Bool):aK T 100 (.hs l k n s a)=some (.int .i64 n):=rfl
@[simp] theorem I3(l:List Ty):aK T 100 (gG l)=some (.int .i64 l.length):=(FX _).trans (by simp)
def jI{l:List aU}{n:Int}(h0:0<=n)(h:n<(l.length:Int)):ak T 35 (strs l) (.int .i64 n)=some (.ip (ab (AV.str l[n.toNat]!))):=cm (T:=T) (t:=35) (e:=9) rfl rfl rfl (fun _=>by first|rfl|(simp;done)|(simp;rfl)) h0 h
def oe{l:List bM}{n:Int}(h0:0<=n)(h:n<(l.length:Int)):ak T 36 (aO l) (.int .i64 n)=some (.ip (ab (bW l[n.toNat]!))):=by rw[aO,e9];exact cm (T:=T) (t:=36) (e:=95) rfl rfl rfl (fun _=>by first|rfl|(simp;done)|(simp;rfl)) h0 h
def kJ{l:List Exp}{n:Int}(h0:0<=n)(h:n<(l.length:Int)):ak T 37 (cw l) (.int .i64 n)=some (.ip (ab (Exp.av l[n.toNat]!))):=by rw[cw,g9];exact cm (T:=T) (t:=37) (e:=57) rfl rfl rfl (fun _=>by first|rfl|(simp;done)|(simp;rfl)) h0 h
def vP{l:List Fun}{n:Int}(h0:0<=n)(h:n<(l.length:Int)):ak T 38 (fI l) (.int .i64 n)=some (.ip (ab (Fun.av l[n.toNat]!))):=cm (T:=T) (t:=38) (e:=59) rfl rfl rfl (fun _=>by first|rfl|(simp;done)|(simp;rfl)) h0 h
def Ht{l:List Face}{n:Int}(h0:0<=n)(h:n<(l.length:Int)):ak T 47 (faces l) (.int .i64 n)=some (.ip (ab (Face.av l[n.toNat]!))):=cm (T:=T) (t:=47) (e:=51) rfl rfl rfl (fun _=>by first|rfl|(simp;done)|(simp;rfl)) h0 h
def CG{l:List Sig}{n:Int}(h0:0<=n)(h:n<(l.length:Int)):ak T 49 (sigs l) (.int .i64 n)=some (.ip (ab (Sig.av l[n.toNat]!))):=cm (T:=T) (t:=49) (e:=102) rfl rfl rfl (fun _=>by first|rfl|(simp;done)|(simp;rfl)) h0 h
def FV{l:List Int}{n:Int}(h0:0<=n)(h:n<(l.length:Int)):ak T 60 (ints l) (.int .i64 n)=some (.ip (ab (AV.int .i64 l[n.toNat]!))):=cm (T:=T) (t:=60) (e:=3) rfl rfl rfl (fun _=>by first|rfl|(simp;done)|(simp;rfl)) h0 h
def lH{l:List Ty}{n:Int}(h0:0<=n)(h:n<(l.length:Int)):ak T 100 (gG l) (.int .i64 n)=some (.ip (ab (Ty.av l[n.toNat]!))):=cm (T:=T) (t:=100) (e:=55) rfl rfl rfl (fun _=>by first|rfl|(simp;done)|(simp;rfl)) h0 h
def FS{a b:List aU}(h:(a.length+b.length)*16<=140737488355328):dm T 35 (strs a) (strs b)=some (strs (a++b)):=by
 have:=jN (T:=T) (t:=35) (e:=9) rfl rfl rfl (f:=AV.str) (fun _=>by first|rfl|(simp;done)|(simp;rfl)) (a:=a) (b:=b) h (by decide)
 simpa [strs]using this
def FT{a b:List bM}(h:(a.length+b.length)*48<=140737488355328):dm T 36 (aO a) (aO b)=some (aO (a++b)):=by
 have:=jN (T:=T) (t:=36) (e:=95) rfl rfl rfl (f:=bW) (fun _=>by first|rfl|(simp;done)|(simp;rfl)) (a:=a) (b:=b) h (by decide)
 simpa [aO,e9]using this
def Jp{a b:List Int}(h:(a.length+b.length)*8<=140737488355328):dm T 60 (ints a) (ints b)=some (ints (a++b)):=by
 have:=jN (T:=T) (t:=60) (e:=3) rfl rfl rfl (f:=AV.int .i64) (fun _=>by first|rfl|(simp;done)|(simp;rfl)) (a:=a) (b:=b) h (by decide)
 simpa [ints]using this
def Ee{a b:List Ty}(h:(a.length+b.length)*32<=140737488355328):dm T 100 (gG a) (gG b)=some (gG (a++b)):=by
 have:=jN (T:=T) (t:=100) (e:=55) rfl rfl rfl (f:=Ty.av) (fun _=>by first|rfl|(simp;done)|(simp;rfl)) (a:=a) (b:=b) h (by decide)
 simpa [gG]using this
@[simp] theorem HN(t:Nat)(a b:Int):ao T .geq t (.int .u8 a) (.int .u8 b)=some (.bool (decide (b<=a))):=rfl
@[simp] theorem HO(t:Nat)(a b:Int):ao T .leq t (.int .u8 a) (.int .u8 b)=some (.bool (decide (a<=b))):=rfl
@[simp] theorem yz(t:Nat)(a b:aU):ao T .leq t (.str a) (.str b)=some (.bool (bK a b||a== b)):=rfl
def Dz(f:AV)(F:bM->Bool)(l:List bM)(hb:l.length<=4611686018427387904)(hf:∀x∈l,cd (ai pg) f [bW x]=M.pure (.bool (F x))):∀(n:Nat)(i:Int),l.length-i.toNat=n->0<=i->i<=l.length->
  ah (L100_0 (ai pg) ah) [aO l,f,.int .i64 l.length,.int .i64 i]=M.pure (.int .i64 (bG F (l.drop i.toNat) i)):=by
 intro n
 induction n with
 |zero=>
  intro i hn hi hl;rw[FL100_0];simp only[L100_0];have h1:¬(i<(l.length:Int)):=by omega
  have h2:l.drop i.toNat=[]:=Me (by omega);simp[h1,h2,bG]
 |succ n ih=>
  intro i hn hi hl;have h1:i<(l.length:Int):=by omega
  have hlt:i.toNat<l.length:=by omega
  have h2:bG F (l.drop i.toNat) i=if F l[i.toNat]=true then i else bG F (l.drop (i.toNat+1)) (i+1):=by rw[L9 hlt];rfl
  have h3:=hf l[i.toNat] (LM hlt);have h4:=ih (i+1) (by omega) (by omega) (by omega);rw[show (i+1).toNat=i.toNat+1 by omega]at h4;rw[FL100_0];simp only[L100_0];simp (disch:=omega) [h1,a8,oe,h3,h2];cases F l[i.toNat]
  ·simpa using h4
  ·simp
def t100(f:AV)(F:bM->Bool)(l:List bM)(hb:l.length<=4611686018427387904)(hc:∀g,cl g f=f)(hf:∀x∈l,cd (ai pg) f [bW x]=M.pure (.bool (F x))):ai pg 100 [aO l,f]=M.pure (.int .i64 (bG F l 0)):=by
 rw[C100];simp[S100,hc,Dz f F l hb hf l.length 0 rfl (by omega) (by omega)]
def t87(f:AV)(F:bM->Bool)(l:List bM)(hb:l.length<=4611686018427387904)(hc:∀g,cl g f=f)(hf:∀x∈l,cd (ai pg) f [bW x]=M.pure (.bool (F x))):ai pg 87 [aO l,f]=M.pure (.bool (l.any F)):=by
 rw[C87];simp[S87,hc,t100 f F l hb hc hf,mT]
def DC(f:AV)(F:Ty->Bool)(l:List Ty)(hb:l.length<=4611686018427387904)(hf:∀x∈l,cd (ai pg) f [Ty.av x]=M.pure (.bool (F x))):∀(n:Nat)(i:Int),l.length-i.toNat=n->0<=i->i<=l.length->
  ah (L103_0 (ai pg) ah) [gG l,f,.int .i64 l.length,.int .i64 i]=M.pure (.int .i64 (bG F (l.drop i.toNat) i)):=by
 intro n
 induction n with
 |zero=>
  intro i hn hi hl;rw[FL103_0];simp only[L103_0];have h1:¬(i<(l.length:Int)):=by omega
  have h2:l.drop i.toNat=[]:=Me (by omega);simp[h1,h2,bG]
 |succ n ih=>
  intro i hn hi hl;have h1:i<(l.length:Int):=by omega
  have hlt:i.toNat<l.length:=by omega
  have h2:bG F (l.drop i.toNat) i=if F l[i.toNat]=true then i else bG F (l.drop (i.toNat+1)) (i+1):=by rw[L9 hlt];rfl
  have h3:=hf l[i.toNat] (LM hlt);have h4:=ih (i+1) (by omega) (by omega) (by omega);rw[show (i+1).toNat=i.toNat+1 by omega]at h4;rw[FL103_0];simp only[L103_0];simp (disch:=omega) [h1,a8,lH,h3,h2];cases F l[i.toNat]
  ·simpa using h4
  ·simp
def t103(f:AV)(F:Ty->Bool)(l:List Ty)(hb:l.length<=4611686018427387904)(hc:∀g,cl g f=f)(hf:∀x∈l,cd (ai pg) f [Ty.av x]=M.pure (.bool (F x))):ai pg 103 [gG l,f]=M.pure (.int .i64 (bG F l 0)):=by
 rw[C103];simp[S103,hc,DC f F l hb hf l.length 0 rfl (by omega) (by omega)]
def t78(f:AV)(F:Ty->Bool)(l:List Ty)(hb:l.length<=4611686018427387904)(hc:∀g,cl g f=f)(hf:∀x∈l,cd (ai pg) f [Ty.av x]=M.pure (.bool (F x))):ai pg 78 [gG l,f]=M.pure (.bool (l.any F)):=by
 rw[C78];simp[S78,hc,t103 f F l hb hc hf,mT]
def DF(f:AV)(F:Sig->Bool)(l:List Sig)(hb:l.length<=4611686018427387904)(hf:∀x∈l,cd (ai pg) f [Sig.av x]=M.pure (.bool (F x))):∀(n:Nat)(i:Int),l.length-i.toNat=n->0<=i->i<=l.length->
  ah (L129_0 (ai pg) ah) [sigs l,f,.int .i64 l.length,.int .i64 i]=M.pure (.int .i64 (bG F (l.drop i.toNat) i)):=by
 intro n
 induction n with
 |zero=>
  intro i hn hi hl;rw[FL129_0];simp only[L129_0];have h1:¬(i<(l.length:Int)):=by omega
  have h2:l.drop i.toNat=[]:=Me (by omega);simp[h1,h2,bG]
 |succ n ih=>
  intro i hn hi hl;have h1:i<(l.length:Int):=by omega
  have hlt:i.toNat<l.length:=by omega
  have h2:bG F (l.drop i.toNat) i=if F l[i.toNat]=true then i else bG F (l.drop (i.toNat+1)) (i+1):=by rw[L9 hlt];rfl
  have h3:=hf l[i.toNat] (LM hlt);have h4:=ih (i+1) (by omega) (by omega) (by omega);rw[show (i+1).toNat=i.toNat+1 by omega]at h4;rw[FL129_0];simp only[L129_0];simp (disch:=omega) [h1,a8,CG,h3,h2];cases F l[i.toNat]
  ·simpa using h4
  ·simp
def t129(f:AV)(F:Sig->Bool)(l:List Sig)(hb:l.length<=4611686018427387904)(hc:∀g,cl g f=f)(hf:∀x∈l,cd (ai pg) f [Sig.av x]=M.pure (.bool (F x))):ai pg 129 [sigs l,f]=M.pure (.int .i64 (bG F l 0)):=by
 rw[C129];simp[S129,hc,DF f F l hb hf l.length 0 rfl (by omega) (by omega)]
def t72(b:UInt8):ai pg 72 [.int .u8 b.toNat]=M.pure (.bool (ou b)):=by
 rw[C72];have e:decide ((b.toNat:Int)<=122)=decide (b.toNat<=122):=MG.2 (by omega);have e2:decide (97<=(b.toNat:Int))=decide (97<=b.toNat):=MG.2 (by omega);simp[S72,ou,e,e2]
def t75(b:UInt8):ai pg 75 [.int .u8 b.toNat]=M.pure (.bool (wu b)):=by
 rw[C75];have e:decide ((b.toNat:Int)<=57)=decide (b.toNat<=57):=MG.2 (by omega);have e2:decide (48<=(b.toNat:Int))=decide (48<=b.toNat):=MG.2 (by omega);simp[S75,wu,e,e2]
def t74(b:UInt8):ai pg 74 [.int .u8 b.toNat]=M.pure (.bool (fQ b)):=by
 rw[C74];simp[S74,t72,t75,fQ]
theorem FH{s:aU}{i:Nat}(h:i<s.length):fW T 9 (.str s) (.int .i64 (i:Int))=some (.int .u8 (s[i].toNat:Int)):=by
 have e1:fW T 9 (.str s) (.int .i64 (i:Int))=(if(i:Int)<0 then none else s[(i:Int).toNat]?.map fun b=>.int .u8 b.toNat):=rfl;rw[e1,if_neg (by omega),LH,LY h];rfl
def GG(F:UInt8->Bool)(f:AV)(s:aU)(hb:s.length<=4611686018427387904)(hf:∀b:UInt8,cd (ai pg) f [.int .u8 b.toNat]=M.pure (.bool (F b))):∀(n i:Nat),s.length-i=n->i<=s.length->
  ah (L73_0 (ai pg) ah) [.str s,f,.int .i64 i]=M.pure (.int .i64 ((i+((s.drop i).takeWhile F).length:Nat):Int)):=by
 intro n
 induction n with
 |zero=>
  intro i hn hi;rw[FL73_0];simp only[L73_0];have h1:¬((i:Int)<(s.length:Int)):=by omega
  have h2:s.drop i=[]:=Me (by omega);simp[h1,h2]
 | succ n ih=>
  intro i hn hi;have hlt:i<s.length:=by omega
  have h1:(i:Int)<(s.length:Int):=by omega
  have h2:s.drop i=s[i]:: s.drop (i+1):=L9 hlt;have h4:=ih (i+1) (by omega) (by omega);have hw:IntKind.i64.wrap ((i:Int)+1)=((i+1:Nat):Int):=bu (by omega);rw[FL73_0];simp only[L73_0,aw,aB,Jr,am,aH,h1,MI,bX,FH hlt,hf,ax,ct,ap,bD,hw,h4,h2,List.takeWhile_cons];cases F s[i]
  ·simp
  ·rw[LC rfl,LC rfl];congr 3;simp;omega
def t41(s:aU):ai pg 41 [.str s]=M.pure (.bool (mC s)):=by
 rw[C41];by_cases hs:s=[]
 ·subst hs;simp[S41,mC]
 ·have hs':(s== [])=false:=LX.2 hs;have hpos:0<s.length:=Ms.2 hs;have h0:=FH (s:=s) (i:=0) hpos;have hd:s[0]=s.headD 0:=by cases s with|nil=>exact absurd rfl hs|cons c s=>rfl
  rw[hd]at h0;simp at h0;by_cases hl:s.length<=20
  ·have h1:=GG fQ (.fn (.func 74) [] []) s (by omega) (fun b=>t74 b) s.length 0 (by simp) (by simp);have hsp:ai pg 73 [.str s,.fn (.func 74) [] []]=M.pure (.int .i64 (((s.takeWhile fQ).length:Nat):Int)):=by
    rw[C73];simp only[S73,cl,dn];rw[show (AV.int .i64 0)=AV.int .i64 ((0:Nat):Int)from rfl,h1];simp
   have e1:decide (20<(s.length:Int))=false:=by rw[M9];omega
   have e3:decide (20<s.length)=false:=by rw[M9];omega
   have e4:decide (s.length<=20)=true:=by simpa using hl
   simp[S41,hs',h0,t72,hsp,e1,e3,e4,mC]
  ·have e1:decide (20<(s.length:Int))=true:=by rw[LB];omega
   have e3:decide (20<s.length)=true:=by rw[LB];omega
   have e4:decide (s.length<=20)=false:=by simpa using hl
   simp[S41,hs',h0,t72,e1,e3,e4,mC]
def t42(s:aU):ai pg 42 [.str kF,.str s]=M.pure (.bool (Lib.contains kF s)):=by
 rw[dx aI (E:=iK) rfl];rfl
theorem yx(t:Nat)(a b:aU):ao T .add t (.str a) (.str b)=if a.length+b.length<=4611686018427387904 then some (.str (a++b))else none:=rfl
def t15(s:aU):ai pg 15 [.str s]=M.pure (.bool (bz s)):=by
 rw[C15];have h1:=t41 s;unfold bz;cases hw:mC s with
 |false=>
  rw[hw]at h1;simp[S15,h1]
 |true=>
  have hl:=rV hw;rw[hw]at h1;have h2:=t42 ([32]++s++[32]);unfold kF at h2;have e1:ao T .add 9 (.str [32]) (.str s)=some (.str ([32]++s)):=by rw[yx,LC (by simp;omega)]
  have e2:ao T .add 9 (.str ([32]++s)) (.str [32])=some (.str ([32]++s++[32])):=by rw[yx,LC (by simp;omega)]
  simp only[S15,wk,h1,ax,bX,e1,am,e2,h2,gO,aw,ct,cF,MV];rfl
def Dx{t:Ty}(h:t.Lim)(k:Nat)(hk:k<t.fields.length):(t.fields[k]!).2.Lim:=by
 rw[LK t.fields k hk];exact h.kid (LM hk)
theorem t64:∀(d:Nat),d<=4->∀(t:Ty),t.Lim->ai pg 64 [t.av,.int .i64 d]=M.pure (.bool (dK d t))
 |0,_,t,_=>by
  rw[C64];simp[S64,dK]
 | d + 1,hd,t,ht=>by
  have ih:=t64 d (by omega);have hlen:=ht.len;have hd1:IntKind.i64.wrap ((((d+1:Nat)):Int)-1)=(d:Int):=iX (by omega);have hloop:=Dm (F:=L64_0 (ai pg) ah) (FL64_0 (ai pg)) (fun k=>[.int .i64 ((d+1:Nat):Int),.ip (ab t.av),aO t.fields,.int .i64 t.fields.length,.int .i64 k]) t.fields.length
   (fun k=>(bz (t.fields[k]!).1&&dK d (t.fields[k]!).2)&&(decide (k=0)||dD (t.fields[k-1]!).1 (t.fields[k]!).1))
   (by simp[L64_0]) (fun k hk=>by
    have h1:(k:Int)<(t.fields.length:Int):=by omega
    have hix:=oe (l:=t.fields) (n:=(k:Int)) (by omega) h1;rw[LH]at hix;have hm:t.fields[k]! ∈t.fields:=by rw[LK t.fields k hk];exact LM hk
    have h2:=t15 (t.fields[k]!).1;have h3:=ih (t.fields[k]!).2 (Dx ht k hk);have hw:IntKind.i64.wrap ((k:Int)+1)=(k:Int)+1:=by rw[bu (by omega)];simp
    have hd0:IntKind.i64.wrap (d:Int)=(d:Int):=Cs (by omega);generalize t.fields[k]! = f at hix h2 h3 hm |-;rcases Mq k with hk0|hk0
    ·subst hk0;have hix0:ak T 36 (aO t.fields) (.int .i64 0)=some (.ip (ab (bW f))):=hix;have hw0:IntKind.i64.wrap 1=1:=rfl;simp[L64_0,hix0,h2,h3,hw0,hd0,hk];cases bz f.1<;>cases dK d f.2<;>simp
    ·have hp:IntKind.i64.wrap ((k:Int)-1)=((k-1:Nat):Int):=by
      rw[a8 (by omega) (by omega)];omega
     have h4:((k-1:Nat):Int)<(t.fields.length:Int):=by omega
     have hix2:=oe (l:=t.fields) (n:=((k-1:Nat):Int)) (by omega) h4;rw[LH]at hix2;generalize t.fields[k-1]! = g at hix2 |-;have hk1:¬k=0:=by omega
     simp[L64_0,h1,hix,h2,h3,hw,hd0,hp,hix2,hk0,hk1,hk];cases bz f.1<;>simp;cases h5:bK f.1 g.1<;>cases dK d f.2<;>by_cases h6:f.1=g.1<;>simp[dD,h5,h6]) 0 (LZ _)
  have hall:((List.range' 0 t.fields.length).all fun k=>(bz (t.fields[k]!).1&&dK d (t.fields[k]!).2)&&(decide (k=0)||dD (t.fields[k-1]!).1 (t.fields[k]!).1))=(t.fields.all (fun f=>bz f.1&&dK d f.2)&&mH (fun a b=>dD a.1 b.1) t.fields):=
   sb (fun f:bM=>bz f.1&&dK d f.2) (fun a b=>dD a.1 b.1) t.fields
  rw[OL,hall]at hloop;rw[C64];have h0:¬((d:Int)+1=0):=by omega
  have hl2:ah (L64_0 (ai pg) ah) [.int .i64 ((d:Int)+1),.ip [.int .i64 t.kind,aO t.fields],aO t.fields,.int .i64 t.fields.length,.int .i64 0]=M.pure (.bool (t.fields.all (fun f=>bz f.1&&dK d f.2)&&mH (fun a b=>dD a.1 b.1) t.fields)):=by
   simpa using hloop
  have hR:dK (d+1) t=if((t.kind<0\/3<=t.kind)\/8<(t.fields.length:Int))\/¬t.kind=2/\0<t.fields.length then false else(t.fields.all (fun f=>bz f.1&&dK d f.2)&&mH (fun a b=>dD a.1 b.1) t.fields):=by
   rw[kl];generalize (t.fields.all (fun f=>bz f.1&&dK d f.2)&&mH (fun a b=>dD a.1 b.1) t.fields)=q;generalize t.fields.length=n;generalize t.kind=k;split
   ·rename_i hc;cases q
    ·simp
    ·simp only[OC,Od,M9,M7,LX];rcases hc with((h|h)|h)|h
     ·exact .inl (.inl (.inl (by omega)))
     ·exact .inl (.inl (.inr (by omega)))
     ·exact .inl (.inr (by omega))
     ·exact .inr ⟨h.1,by omega⟩
   ·rename_i hc;have e1:decide (0<=k)=true:=by rw[LB];omega
    have e2:decide (k<3)=true:=by rw[LB];omega
    have e3:decide (n<=8)=true:=by rw[LB];omega
    have e4:(k== 2||n== 0)=true:=by
     rw[ML,MF,MF];omega
    rw[e1,e2,e3,e4];simp
  rw[hR];simp[S64,h0,hl2]
def t36(t:Ty)(ht:t.Lim):ai pg 36 [t.av]=M.pure (.bool (ci t)):=by
 rw[C36];have:ai pg 64 [t.av,.int .i64 4]=M.pure (.bool (dK 4 t)):=t64 4 (by omega) t ht;simp[S36,this]
def t77(t:Ty)(ht:t.Lim):ai pg 77 [t.av]=M.pure (.bool (ci t)):=by
 rw[C77];simp[S77,t36 t ht]
theorem nI:(l:List bM)->fU (eZ l)=some (l.map fun f=>(f.1,f.2.kind,eZ f.2.fields))
 |[]=>rfl
 |f:: l=>by simp[eZ,fU,nI l,jT,t7,aO]
theorem rn{α β:Type}(g:α->β)(p:β->Bool):(l:List α)->cf p (l.map g)=(cf (fun x=>p (g x)) l).map g
 |[]=>rfl
 |x:: l=>by
  simp only[Mi,cf,rn g p l];cases cf (fun x=>p (g x)) l with
  |some y=>rfl
  |none=>cases p (g x)<;>rfl
def ty0:Ty:=.mk 0 []
def t81(l:List bM)(hl:l.length<=1000000000)(s:aU):ai pg 81 [aO l,.str s]=M.pure (.tup [((cf (fun f=>f.1== s) l).map (·.2)).getD ty0 |>.av,.bool (cf (fun f=>f.1== s) l).isSome]):=by
 rw[dx aI (E:=kC) rfl];unfold kC aO;simp only[nI,M2,hl,MI,LF,wS,rn];cases cf (fun f:bM=>f.1== s) l with
 |none=>rfl
 |some f=>simp[af,M.pure,Ty.av,Ty.cells_eq,aO];rfl
def Ty.Short:Nat->Ty->Prop
 |0,_=>True
 |n+1,t=>t.fields.length<=1000000000/\∀f∈t.fields,Ty.Short n f.2
theorem mj:∀(d:Nat)(t:Ty),dK d t=true->∀n,Ty.Short n t
 |0,t,h,_=>by cases h
 |d+1,t,h,0=>trivial
 |d+1,t,h,n+1=>by
  rw[kl]at h;simp only[LD,LB,LO]at h;exact⟨by omega,fun f hf=>mj d f.2 (h.2.1 f hf).2 n⟩
theorem gT{α:Type}{p:α->Bool}:{l:List α} ->{x:α} ->cf p l=some x->x∈l/\p x=true
 |[],x,h=>by cases h
 | y:: l,x,h=>by
  simp only[cf]at h;cases h2:cf p l with
  |some z=>
   rw[h2]at h;cases h
   have:=gT h2
   exact⟨M8 _ this.1,this.2⟩
  |none=>
   rw[h2]at h;cases h3:p y with
   |true=>rw[h3]at h;cases h;exact⟨M6,h3⟩
   |false=>rw[h3]at h;cases h
def uQ{α:Type}(P:α->Bool)(l:List α):(!l.any fun x=>!P x)=l.all P:=by simp[OW]
theorem t47:∀(n:Nat)(b a:Ty),Ty.Short n a->Ty.Short n b->dK n b=true->ai pg 47 [a.av,b.av]=M.pure (.bool (cB a b))
 |0,b,a,_,_,h=>by cases h
 | n+1,b,a,ha,hb,h=>by
  have ih:=t47 n;rw[kl]at h;simp only[LD,LB,LO]at h;have hf:∀f∈b.fields,cd (ai pg) (.fn (.func 88) [] [.ip (ab a.av)]) [bW f]=M.pure (.bool (!(match cf (fun z=>z.1== f.1) a.fields with|some z=>cB z.2 f.2|none=>false))):=by
   intro f hfm;show ai pg 88 [bW f,.ip (ab a.av)]=_;have h1:=t81 a.fields ha.1 f.1;rw[C88];cases hl:cf (fun z:bM=>z.1== f.1) a.fields with
   |none=>
    rw[hl]at h1;simp[S88,h1,cl,dn]
   |some z=>
    rw[hl]at h1;have h2:=ih f.2 z.2 (ha.2 z (gT hl).1) (hb.2 f hfm) (h.2.1 f hfm).2;simp[S88,h1,cl,dn,h2]
  have h2:=t87 (.fn (.func 88) [] [.ip (ab a.av)]) _ b.fields (by have:=hb.1;omega) (fun g=>by simp[cl,dn]) hf;rw[C47,yJ];simp at h2;simp[S47,h2];rw[uQ];rfl
@[simp] theorem oK(t:Nat)(a b:Int):ao T .andNot t (.int .i64 a) (.int .i64 b)=some (.int .i64 (gg a b)):=rfl
def aL{α β:Type}{m:M α}{a:α}{h h':Hp}(e:m h= .ok a h')(f:α->M β):ae m f h=f a h':=by simp only[ae,e]
def cU{h:Hp}{l:Nat}{cs:List AV}(H:h[l]? = some cs):l<h.length:=by
 rcases L8 l h.length with h1|h1
 ·exact h1
 ·rw[LR h1]at H;cases H
theorem zm(i:Ins):(ab i.av).length=5:=rfl
def CX(h:Hp)(l:Nat)(c:List Ins)(x:AV):Prop:=(c=[]/\x= .hn)\/(c≠[]/\∃lb,l<lb/\x= .hs lb 0 c.length 5 true/\h[lb]? = some (rowOf Ins.av c))
def CS(h:Hp)(l:Nat)(vars:List bM)(c:dP):Prop:=∃x,h[l]? = some [aO vars,x,.int .i64 c.2]/\CX h l c.1 x
def og(l:Nat)(h h':Hp):Prop:=∀i,i<l->h'[i]? = h[i]?
def og.refl(l:Nat)(h:Hp):og l h h:=fun _ _=>rfl
def og.trans{l:Nat}{h h1 h2:Hp}(a:og l h h1)(b:og l h1 h2):og l h h2:=fun i hi=>(b i hi).trans (a i hi)
def og.set{l k:Nat}{h:Hp}{r:List AV}(hk:l<=k):og l h (h.set k r):=fun i hi=>by rw[L6,if_neg (by omega)]
def og.app{l:Nat}{h t:Hp}(hl:l<=h.length):og l h (h++t):=fun i hi=>by rw[LP (by omega)]
theorem BG(l:Nat):bB (.hp l 0)=some (.hp l 0):=rfl
theorem fC0(l:Nat):aa T 93 (.hp l 0) 0=some (.hp l 0):=rfl
theorem fC1(l:Nat):aa T 93 (.hp l 0) 1=some (.hp l 1):=rfl
theorem fC2(l:Nat):aa T 93 (.hp l 0) 2=some (.hp l 2):=rfl
def CX.len{h:Hp}{l:Nat}{c:List Ins}{x:AV}(H:CX h l c x):aK T 26 x=some (.int .i64 c.length):=by
 rcases H with⟨rfl,rfl⟩|⟨_,lb,_,rfl,_⟩<;>rfl
def ji{h:Hp}{l:Nat}{a x n:AV}(H:h[l]? = some [a,x,n]):bj T 26 (.hp l 1) h= .ok x h:=fX (T:=T) (t:=26) rfl rfl H rfl
def Dw{h:Hp}{l:Nat}{a x n:AV}(H:h[l]? = some [a,x,n]):bj T 36 (.hp l 0) h= .ok a h:=fX (T:=T) (t:=36) rfl rfl H rfl
def Bl{h:Hp}{l:Nat}{a x n:AV}(H:h[l]? = some [a,x,n]):bj T 3 (.hp l 2) h= .ok n h:=fX (T:=T) (t:=3) rfl rfl H rfl
theorem t40{h:Hp}{l:Nat}{vars:List bM}{c:dP}(H:CS h l vars c)(i:Ins)(hb:c.1.length<=100000000000):
  ∃h',ai pg 40 [.hp l 0,i.av] h= .ok (.int .i64 c.1.length) h'/\CS h' l vars (bF i c)/\og l h h':=by
 obtain⟨x,hl,hx⟩:=H;have hlt:=cU hl;have hap:∃h1,appH T 26 false x (.sl [i.av]) h= .ok (.hs h.length 0 (c.1.length+1) 5 true) h1/\h1[h.length]? = some (rowOf Ins.av (c.1++[i]))/\h1[l]? = h[l]? /\og l h h1/\h.length<h1.length:=by
  have hr:rowOf Ins.av (c.1++[i])=rowOf Ins.av c.1++ab i.av:=by simp[rowOf]
  rcases hx with⟨h1,rfl⟩|⟨h1,lb,hlb,rfl,hq⟩
  ·refine⟨h++[ab i.av],?_,?_,?_,og.app (by omega),by simp⟩
   ·rw[h1];exact xA (T:=T) (t:=26) (e:=67) rfl rfl rfl (x:=i.av) rfl (by decide) (by decide) (by decide) h
   ·rw[hr,h1,LS (by omega)];simp[rowOf]
   ·rw[LP hlt]
  ·have hln:=eN (f:=Ins.av) zm c.1;have hok:(rowOf Ins.av c.1).all bn=true:=by
    rw[LO];intro y hy;simp only[rowOf,Nh,Mu]at hy;obtain⟨_,⟨j,_,rfl⟩,hy⟩:=hy;have:y∈j.cells:=hy;simp only[Ins.cells,LU,MM,Ng]at this;rcases this with rfl|rfl|rfl|rfl|rfl<;>rfl
   refine⟨(h.set lb [])++[rowOf Ins.av c.1++ab i.av],?_,?_,?_,?_,by simp⟩
   ·exact xB (T:=T) (t:=26) (e:=67) rfl rfl rfl (x:=i.av) rfl (by decide) (by decide) hq hok hln (Ms.2 h1) (by show (c.1.length+1)*72<=_;omega)
   ·rw[hr,LS (by simp)];simp
   ·rw[LP (by simpa using hlt),L6,if_neg (by omega)]
   ·exact (og.set (by omega)).trans (og.app (by simp;omega))
 obtain⟨h1,e1,r1,r2,lo,hlen⟩:=hap;rw[hl]at r2;have st:bI T 26 (.hp l 1) (.hs h.length 0 (c.1.length+1) 5 true) h1= .ok (.tup []) (h1.set l [aO vars,.hs h.length 0 (c.1.length+1) 5 true,.int .i64 c.2]):=
  gM (T:=T) (t:=26) rfl (v:=.hs h.length 0 (c.1.length+1) 5 true) r2 rfl (show 1+1<=3 by omega) (by decide)
 have hl2:(h1.set l [aO vars,.hs h.length 0 (c.1.length+1) 5 true,.int .i64 c.2])[l]? = some [aO vars,.hs h.length 0 (c.1.length+1) 5 true,.int .i64 c.2]:=by
  rw[L6,LC rfl,LC (by omega)]
 refine⟨_,?_,⟨_,hl2,.inr ⟨by simp[bF],h.length,by omega,by simp[bF],?_⟩⟩,lo.trans (og.set (LI _))⟩
 ·have ld0:aj T 67 (.ip (ab i.av))=some i.av:=rfl;have bs:aS T 26 1 [(0,i.av)]=some (.sl [i.av]):=rfl;have ln:aK T 26 (.hs h.length 0 (c.1.length+1) 5 true)=some (.int .i64 ((c.1.length+1:Nat):Int)):=rfl;have hw:IntKind.i64.wrap (((c.1.length+1:Nat):Int)-1)=c.1.length:=by rw[a8 (by omega) (by omega)];omega
  rw[C40];simp only[S40,BG,am,fC1];rw[aL (ji hl)];simp only[ld0,bs,am];rw[aL e1,aL st,aL (ji hl2)];simp only[ln,am,gd,hw];rfl
 ·rw[L6,if_neg (by omega)];exact r1
theorem Bz(names:List aU)(s:aU)(hb:names.length<=1000000):∀n:Nat,n<=names.length->
  ah (L67_0 (ai pg) ah) [strs names,.str s,.int .i64 ((n:Int)-1)]=M.pure (.int .i64 (gA names s n))
 |0,_=>by
  rw[FL67_0];simp[L67_0,gA]
 |n+1,h=>by
  have ih:=Bz names s hb n (by omega);have hix:=jI (l:=names) (n:=(n:Int)) (by omega) (by omega);have e:(((n+1:Nat):Int)-1)=n:=by omega
  have hw:IntKind.i64.wrap ((n:Int)-1)=n-1:=a8 (by omega) (by omega);have hg:names[n]? = some names[n]!:=by rw[LK names n (by omega)];exact LY (by omega)
  rw[FL67_0,e];simp only[LH]at hix;have hd:decide ((0:Int)<=(n:Int))=true:=Mj (by omega);simp only[L67_0,aw,aB,oo,am,ap,hd,Mc,hix];simp only[gA,hg,LA];by_cases hn:names[n]! = s
  ·simp[hn]
  ·simp[hn,hw,ih]
def t67(names:List aU)(s:aU)(hb:names.length<=1000000):ai pg 67 [strs names,.str s]=M.pure (.int .i64 (jy names s)):=by
 have h:=Bz names s hb names.length (LI _);have hw:IntKind.i64.wrap ((names.length:Int)-1)=names.length-1:=a8 (by omega) (by omega);rw[C67];simp[S67,hw,h,jy]
def t101(x:bM)(s:aU):ai pg 101 [bW x,.ip (ab (.str s))]=M.pure (.bool (x.1== s)):=by
 rw[C101];simp[S101,cl,dn]
def t68{h:Hp}{l:Nat}{vars:List bM}{c:dP}(H:CS h l vars c)(s:aU)(hb:vars.length<=1000000):ai pg 68 [.hp l 0,.str s] h= .ok (.int .i64 (iW vars s)) h:=by
 obtain⟨x,hl,hx⟩:=H;have hi:=t100 (.fn (.func 101) [] [.ip (ab (.str s))]) (fun f=>f.1== s) vars (by omega) (fun g=>by simp[cl,dn]) (fun x _=>t101 x s);rw[C68];simp only[S68,BG,am,fC0];rw[aL (Dw hl),hi];rfl
def t59(l:List aU)(h:l.length<=8796093022208):ai pg 59 [strs l]=M.pure (strs l):=by
 have e:ai pg 59 [strs l]=eQ T 35 (ai pg) [strs l]:=dx aI rfl _;rw[e];show af (dm T 35 (.sl []) (strs l))=_
 have:=FS (a:=[]) (b:=l) (by simp;omega)
 simp only[Mn]at this;show af (dm T 35 (strs []) (strs l))=_;rw[this];rfl
theorem t66(n:Int):ai pg 66 [.int .i64 n]=M.pure (fe n).av:=by
 have hb:aQ T false 57 [(0,.int .i64 1),(1,.int .i64 n)]=some (fe n).av:=rfl;rw[C66];simp[S66,hb]
end
end Go.Proofs.YtpmcemjkdkbicaaGreatDoor
