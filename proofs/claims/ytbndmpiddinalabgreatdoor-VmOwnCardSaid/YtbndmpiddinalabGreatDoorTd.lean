/- What the functions compute, part 4. Conditions: bounds. -/
import Derived.Test.YtbndmpiddinalabGreatDoorTc
set_option linter.defProp false
set_option linter.unusedSimpArgs false
set_option linter.unusedVariables false
namespace Go.Proofs.YtbndmpiddinalabGreatDoor
open Go Go.Av Go.Av.Ap
set_option maxRecDepth 100000
noncomputable section
def S17(call:CC)(fx:bk AV)(a0:AV):M AV:=eX 39 (qc a0) fun a=>au (call 26 [a]) fun b=>jd b 0 fun c=>jd b 1 fun d=>ao d
def C17(a0:AV):af pg 17 [a0]=bn (S17 (af pg) ak (cl aF a0)):=cY
def L18_0(call:CC)(fx:bk AV)(a:RR)(b:List AV):M AV:=aR 55 (ab b 0) 1 31 fun c=>cO 31 c fun d=>aU .lss 3 (ab b 1) d fun e=>fk e (cN .leq 3 (ab b 1) (qi 14) fun f=>ao [f]) fun g=>aC g (aR 55 (ab b 0) 1 31 fun h=>eH 31 h (ab b 1) 9 fun i=>cO 9 i fun j=>bY .gtr 3 j (qi 30) (ao (.bool false)) (aU .add 3 (ab b 1) (qi 1) fun k=>a [ab b 0,k])) (aR 55 (ab b 0) 0 9 fun l=>cO 9 l fun m=>aU .leq 3 m (qi 30) fun n=>fk n (ca 55 (ab b 0) 1 31 fun o=>kw 31 o fun p=>cN .leq 3 p (qi 14) fun q=>ao [q]) fun r=>fk r (ca 55 (ab b 0) 4 51 fun s=>kw 51 s fun u=>cN .leq 3 u (qi 8) fun v=>ao [v]) fun w=>fk w (ca 55 (ab b 0) 2 49 fun x=>au (call 36 [x]) fun y=>ao [y]) fun z=>fk z (ca 55 (ab b 0) 3 50 fun A=>au (call 39 [A]) fun B=>ao [B]) fun C=>fk C (Gb 55 (ab b 0) 6 fun D=>ca 53 D 0 49 fun E=>au (call 36 [E]) fun F=>ao [F]) fun G=>fk G (Gb 55 (ab b 0) 6 fun H=>ca 53 H 1 50 fun I=>au (call 39 [I]) fun J=>ao [J]) fun K=>fk K (Gb 55 (ab b 0) 6 fun L=>ca 53 L 2 50 fun N=>au (call 39 [N]) fun O=>ao [O]) fun P=>ao P)
def L18_1(call:CC)(fx:bk AV)(a:RR)(b:List AV):M AV:=aR 55 (ab b 0) 4 51 fun c=>cO 51 c fun d=>aU .lss 3 (ab b 1) d fun e=>fk e (cN .leq 3 (ab b 1) (qi 8) fun f=>ao [f]) fun g=>aC g (aR 55 (ab b 0) 4 51 fun h=>eH 51 h (ab b 1) 110 fun i=>jv 12 i fun j=>aR 110 (qc j) 0 9 fun k=>cO 9 k fun l=>aU .gtr 3 l (qi 30) fun m=>eG m (ca 110 (qc j) 2 49 fun n=>au (call 36 [n]) fun o=>m9 UnOp.not o fun p=>ao [p]) fun q=>eG q (ca 110 (qc j) 3 106 fun r=>au (call 37 [r]) fun s=>m9 UnOp.not s fun u=>ao [u]) fun v=>eG v (ca 110 (qc j) 5 108 fun w=>au (call 38 [w]) fun x=>m9 UnOp.not x fun y=>ao [y]) fun z=>aC z (ao (.bool false)) (aU .add 3 (ab b 1) (qi 1) fun A=>a [ab b 0,A])) (fx (L18_0 call fx) [ab b 0,qi 0])
def FL18_0(call:CC):FW (L18_0 call ak):=hY
def FL18_1(call:CC):FW (L18_1 call ak):=hY
def S18(call:CC)(fx:bk AV)(a0:AV):M AV:=fx (L18_1 call fx) [qc a0,qi 0]
def C18(a0:AV):af pg 18 [a0]=bn (S18 (af pg) ak (cl aF a0)):=cY
def L24_0(call:CC)(fx:bk AV)(a:RR)(b:List AV):M AV:=cO 23 (ab b 2) fun c=>ct 77 (ab b 3) 2 fun d=>aR 75 d 2 3 fun e=>bY .lss 3 c e (au (call 49 [qi 0]) fun f=>sB 23 1 [(0,f)] fun g=>au (appH T 23 false (ab b 2) g) fun h=>a [ab b 0,ab b 1,h,ab b 3]) (dU (ab b 0) fun i=>ct 82 i 0 fun j=>ct 39 j 2 fun k=>eI 29 k fun l=>ct 77 (ab b 3) 2 fun m=>aR 75 m 0 9 fun n=>iz true 46 [(0,ab b 1),(1,n),(3,ab b 2)] fun o=>sB 29 1 [(0,o)] fun p=>au (appH T 29 false l p) fun q=>dU (ab b 0) fun r=>ct 82 r 0 fun s=>ct 39 s 2 fun u=>na 29 u q fun v=>ao (.tup []))
def K24_0(call:CC)(fx:bk AV)(a:List AV):M AV:=fx (L24_0 call fx) (gy a)
def FL24_0(call:CC):FW (L24_0 call ak):=hY
def S24(call:CC)(fx:bk AV)(a0 a1 a2 a3:AV):M AV:=jn (K24_0 call fx) fun a=>aR 77 (qc a2) 1 4 fun b=>aC b (dU a0 fun c=>ct 82 c 0 fun d=>ct 39 d 4 fun e=>ct 37 e 3 fun f=>eI 35 f fun g=>ct 77 (qc a2) 2 fun h=>aR 75 h 0 9 fun i=>au (call 25 [a3]) fun j=>iz false 126 [(0,a1),(1,i),(2,j)] fun k=>sB 35 1 [(0,k)] fun l=>au (appH T 35 false g l) fun m=>dU a0 fun n=>ct 82 n 0 fun o=>ct 39 o 4 fun p=>ct 37 p 3 fun q=>na 35 q m fun r=>a [a0,a1,a3,qc a2]) (a [a0,a1,a3,qc a2])
def C24(a0 a1 a2 a3:AV):af pg 24 [a0,a1,a2,a3]=S24 (af pg) ak a0 a1 a2 a3:=cZ
def L34_0(call:CC)(fx:bk AV)(a:RR)(b:List AV):M AV:=cO 28 (ab b 0) fun c=>bY .lss 3 (ab b 2) c (jU 28 (ab b 0) (ab b 2) fun d=>aR 61 d 0 9 fun e=>jU 28 (ab b 1) (ab b 2) fun f=>aR 61 f 0 9 fun g=>aU .neq 9 e g fun h=>eG h (s8 28 (ab b 0) (ab b 2) fun i=>ca 61 i 1 23 fun j=>s8 28 (ab b 1) (ab b 2) fun k=>ca 61 k 1 23 fun l=>au (dz (call 10 [j,l])) fun m=>m9 UnOp.not m fun n=>ao [n]) fun o=>aC o (ao (.bool false)) (aU .add 3 (ab b 2) (qi 1) fun p=>a [ab b 0,ab b 1,p])) (ao (.bool true))
def FL34_0(call:CC):FW (L34_0 call ak):=hY
def S34(call:CC)(fx:bk AV)(a0 a1:AV):M AV:=cO 28 a0 fun a=>cO 28 a1 fun b=>bY .neq 3 a b (ao (.bool false)) (fx (L34_0 call fx) [a0,a1,qi 0])
def C34(a0 a1:AV):af pg 34 [a0,a1]=bn (S34 (af pg) ak (cl aF a0) (cl aF a1)):=cY
def L36_0(call:CC)(fx:bk AV)(a:RR)(b:List AV):M AV:=cO 49 (ab b 0) fun c=>aU .lss 3 (ab b 1) c fun d=>fk d (cN .leq 3 (ab b 1) (qi 10) fun e=>ao [e]) fun f=>aC f (jU 49 (ab b 0) (ab b 1) fun g=>aR 154 g 0 9 fun h=>cO 9 h fun i=>aU .gtr 3 i (qi 30) fun j=>eG j (s8 49 (ab b 0) (ab b 1) fun k=>ca 154 k 1 106 fun l=>au (call 37 [l]) fun m=>m9 UnOp.not m fun n=>ao [n]) fun o=>aC o (ao (.bool false)) (aU .add 3 (ab b 1) (qi 1) fun p=>a [ab b 0,p])) (cO 49 (ab b 0) fun q=>aU .leq 3 q (qi 10) fun r=>ao r)
def FL36_0(call:CC):FW (L36_0 call ak):=hY
def S36(call:CC)(fx:bk AV)(a0:AV):M AV:=fx (L36_0 call fx) [a0,qi 0]
theorem C36(a0:AV):af pg 36 [a0]=bn (S36 (af pg) ak (cl aF a0)):=cY
def S38(call:CC)(fx:bk AV)(a0:AV):M AV:=eX 108 (qc a0) fun a=>au (call 86 [a,qi 120]) fun b=>aU .leq 3 b (qi 120) fun c=>fk c (OH 108 (qc a0) fun d=>au (call 87 [d]) fun e=>ao [e]) fun f=>ao f
def C38(a0:AV):af pg 38 [a0]=bn (S38 (af pg) ak (cl aF a0)):=cY
def S47(call:CC)(fx:bk AV)(a0:AV):M AV:=eX 33 (qc a0) fun a=>au (call 48 [a]) fun b=>oq UnOp.not b fun c=>ao c
def C47(a0:AV):af pg 47 [a0]=bn (S47 (af pg) ak (cl aF a0)):=cY
def L57_0(call:CC)(fx:bk AV)(a:RR)(b:List AV):M AV:=cO 31 (ab b 0) fun c=>bY .lss 3 (ab b 2) c (eH 31 (ab b 0) (ab b 2) 9 fun d=>eH 31 (ab b 1) (ab b 2) 9 fun e=>bY .neq 9 d e (ao (.bool false)) (aU .add 3 (ab b 2) (qi 1) fun f=>a [ab b 0,ab b 1,f])) (ao (.bool true))
def FL57_0(call:CC):FW (L57_0 call ak):=hY
def S57(call:CC)(fx:bk AV)(a0 a1:AV):M AV:=cO 31 a0 fun a=>cO 31 a1 fun b=>bY .neq 3 a b (ao (.bool false)) (fx (L57_0 call fx) [a0,a1,qi 0])
def C57(a0 a1:AV):af pg 57 [a0,a1]=bn (S57 (af pg) ak (cl aF a0) (cl aF a1)):=cY
def L87_0(call:CC)(fx:bk AV)(a:RR)(b:List AV):M AV:=aR 108 (ab b 0) 5 50 fun c=>cO 50 c fun d=>bY .lss 3 (ab b 1) d (aR 108 (ab b 0) 5 50 fun e=>eH 50 e (ab b 1) 108 fun f=>au (call 87 [f]) fun g=>oq UnOp.not g fun h=>aC h (ao (.bool false)) (aU .add 3 (ab b 1) (qi 1) fun i=>a [ab b 0,i])) (aR 108 (ab b 0) 2 9 fun j=>cO 9 j fun k=>aU .leq 3 k (qi 30) fun l=>fk l (ca 108 (ab b 0) 3 9 fun m=>kw 9 m fun n=>cN .leq 3 n (qi 30) fun o=>ao [o]) fun p=>fk p (ca 108 (ab b 0) 4 31 fun q=>kw 31 q fun r=>cN .leq 3 r (qi 12) fun s=>ao [s]) fun u=>ao u)
def L87_1(call:CC)(fx:bk AV)(a:RR)(b:List AV):M AV:=aR 108 (ab b 0) 4 31 fun c=>cO 31 c fun d=>aU .lss 3 (ab b 1) d fun e=>fk e (cN .leq 3 (ab b 1) (qi 12) fun f=>ao [f]) fun g=>aC g (aR 108 (ab b 0) 4 31 fun h=>eH 31 h (ab b 1) 9 fun i=>cO 9 i fun j=>bY .gtr 3 j (qi 30) (ao (.bool false)) (aU .add 3 (ab b 1) (qi 1) fun k=>a [ab b 0,k])) (fx (L87_0 call fx) [ab b 0,qi 0])
def FL87_0(call:CC):FW (L87_0 call ak):=hY
def FL87_1(call:CC):FW (L87_1 call ak):=hY
def S87(call:CC)(fx:bk AV)(a0:AV):M AV:=fx (L87_1 call fx) [qc a0,qi 0]
theorem C87(a0:AV):af pg 87 [a0]=bn (S87 (af pg) ak (cl aF a0)):=cY
def S91(call:CC)(fx:bk AV)(a0:AV):M AV:=eX 108 (qc a0) fun a=>au (call 145 [a,qi 12]) fun b=>ao b
def C91(a0:AV):af pg 91 [a0]=bn (S91 (af pg) ak (cl aF a0)):=cY
def K95_0(call:CC)(fx:bk AV)(a:List AV):M AV:=fk (ab a 4) (cN .eql 3 (ab a 0) (qi 0) fun b=>ao [b]) fun c=>fk c (cN .eql 9 (ab a 1) (.str []) fun d=>ao [d]) fun e=>fk e (cN .eql 9 (ab a 2) (.str []) fun f=>ao [f]) fun g=>fk g (kw 31 (ab a 3) fun h=>cN .eql 3 h (qi 0) fun i=>ao [i]) fun j=>ao j
def K95_1(call:CC)(fx:bk AV)(a:RR)(b:List AV):M AV:=aC (ab b 5) (a (sS b)) (ao (.bool false))
def K95_2(call:CC)(fx:bk AV)(a:RR)(b:List AV):M AV:=aC (ab b 6) (aU .leq 3 (qi 0) (ab b 0) fun c=>fk c (cN .lss 3 (ab b 0) (qi 8) fun d=>ao [d]) fun e=>a [qi 0,ab b 1,ab b 2,ab b 3,e]) (bY .eql 3 (ab b 5) (qi 15) (aU .eql 3 (ab b 0) (qi 1) fun f=>eG f (cN .eql 3 (ab b 0) (qi 2) fun g=>ao [g]) fun h=>eG h (cN .eql 3 (ab b 0) (qi 4) fun i=>ao [i]) fun j=>eG j (cN .eql 3 (ab b 0) (qi 8) fun k=>ao [k]) fun l=>a [qi 0,ab b 1,ab b 2,ab b 3,l]) (bY .eql 3 (ab b 5) (qi 13) (au (call 88 [ab b 1]) fun m=>a [ab b 0,.str [],ab b 2,ab b 3,m]) (bY .eql 3 (ab b 5) (qi 14) (aU .leq 3 (qi 0) (ab b 0) fun n=>fk n (cN .leq 3 (ab b 0) (qi 6) fun o=>ao [o]) fun p=>fk p (au (call 88 [ab b 1]) fun q=>ao [q]) fun r=>au (aK r true 1 (cN .eql 9 (ab b 2) (.str []) fun s=>ao [s])) fun u=>au (aK (ab u 0) false 1 (au (call 88 [ab b 2]) fun v=>ao [v])) fun w=>fk r (zi (ab u 0) (.bool true) (ab w 0) fun x=>ao [x]) fun y=>a [qi 0,.str [],.str [],ab b 3,y]) (bY .eql 3 (ab b 5) (qi 12) (au (call 152 [ab b 3]) fun z=>a (mS b [.sl [],z])) (jn (K95_1 call fx a) fun A=>aU .eql 3 (ab b 5) (qi 4) fun B=>aC B (A (uU b [B])) (aU .eql 3 (ab b 5) (qi 5) fun C=>aC C (A (uU b [C])) (aU .eql 3 (ab b 5) (qi 6) fun D=>aC D (A (uU b [D])) (aU .eql 3 (ab b 5) (qi 7) fun E=>aC E (A (uU b [E])) (aU .eql 3 (ab b 5) (qi 8) fun F=>aC F (A (uU b [F])) (aU .eql 3 (ab b 5) (qi 9) fun G=>aC G (A (uU b [G])) (aU .eql 3 (ab b 5) (qi 18) fun H=>aC H (A (uU b [H])) (aU .eql 3 (ab b 5) (qi 19) fun I=>A (uU b [I])))))))))))))
def K95_3(call:CC)(fx:bk AV)(a:RR)(b:List AV):M AV:=aC (ab b 7) (aU .leq 3 (qi 0) (ab b 1) fun c=>fk c (ca 75 (ab b 0) 3 73 fun d=>kw 73 d fun e=>cN .lss 3 (ab b 1) e fun f=>ao [f]) fun g=>a [qi 0,ab b 2,ab b 3,ab b 4,g]) (jn (K95_2 call fx a) fun h=>aU .eql 3 (ab b 6) (qi 16) fun i=>aC i (h [ab b 1,ab b 2,ab b 3,ab b 4,ab b 5,ab b 6,i]) (aU .eql 3 (ab b 6) (qi 17) fun j=>h [ab b 1,ab b 2,ab b 3,ab b 4,ab b 5,ab b 6,j]))
def K95_4(call:CC)(fx:bk AV)(a:RR)(b:List AV):M AV:=aC (ab b 7) (aU .leq 3 (qi 0) (ab b 1) fun c=>fk c (ca 75 (ab b 0) 2 3 fun d=>cN .lss 3 (ab b 1) d fun e=>ao [e]) fun f=>a [qi 0,ab b 2,ab b 3,ab b 4,f]) (jn (K95_3 call fx a) fun g=>aU .eql 3 (ab b 6) (qi 10) fun h=>aC h (g (SB b [h])) (aU .eql 3 (ab b 6) (qi 11) fun i=>g (SB b [i])))
def S95(call:CC)(fx:bk AV)(a0 a1:AV):M AV:=aR 133 (qc a1) 1 3 fun a=>aR 133 (qc a1) 2 9 fun b=>aR 133 (qc a1) 3 9 fun c=>aR 133 (qc a1) 4 31 fun d=>jn (K95_0 call fx) fun e=>aR 133 (qc a1) 0 3 fun f=>bY .eql 3 f (qi 0) (e [qi 0,b,c,d,.bool true]) (bY .eql 3 f (qi 1) (aU .eql 3 a (qi 0) fun g=>eG g (cN .eql 3 a (qi 1) fun h=>ao [h]) fun i=>e [qi 0,b,c,d,i]) (jn (K95_4 call fx e) fun j=>aU .eql 3 f (qi 2) fun k=>aC k (j [qc a0,a,b,c,d,.bool true,f,k]) (aU .eql 3 f (qi 3) fun l=>j [qc a0,a,b,c,d,.bool true,f,l])))
theorem C95(a0 a1:AV):af pg 95 [a0,a1]=bn (S95 (af pg) ak (cl aF a0) (cl aF a1)):=cY
def S109(call:CC)(fx:bk AV)(a0 a1:AV):M AV:=dU a0 fun a=>ct 46 a 4 fun b=>eI 23 b fun c=>eX 33 (qc a1) fun d=>cO 23 c fun e=>sB 23 1 [(0,.agg [qi 0,qi 0,.sl [],.sl []])] fun f=>au (appH T 23 false c f) fun g=>jU 23 g e fun h=>au (mc T true 33 h d) fun i=>dU a0 fun j=>ct 46 j 4 fun k=>au (mc T false 23 k g) fun l=>ao (.tup [])
def C109(a0 a1:AV):af pg 109 [a0,a1]=S109 (af pg) ak a0 a1:=cZ
def S139(call:CC)(fx:bk AV)(a0 a1:AV):M AV:=aR 110 (qc a0) 0 9 fun a=>eX 9 a1 fun b=>aU .eql 9 a b fun c=>ao c
def C139(a0 a1:AV):af pg 139 [a0,a1]=bn (S139 (af pg) ak (cl aF a0) (cl aF a1)):=cY
def L150_0(call:CC)(fx:bk AV)(a:RR)(b:List AV):M AV:=bY .lss 3 (ab b 4) (ab b 3) (eH 50 (ab b 2) (ab b 4) 108 fun c=>jv 6 c fun d=>eX 108 (qc d) fun e=>au (call 93 [ab b 0,e,ab b 1]) fun f=>aU .add 3 (ab b 4) (qi 1) fun g=>a (nP b [g])) (ao (.tup []))
def FL150_0(call:CC):FW (L150_0 call ak):=hY
def S150(call:CC)(fx:bk AV)(a0 a1 a2:AV):M AV:=cO 50 a1 fun a=>fx (L150_0 call fx) [a0,a2,a1,a,qi 0]
def C150(a0 a1 a2:AV):af pg 150 [a0,a1,a2]=S150 (af pg) ak a0 a1 a2:=cZ
def S154(call:CC)(fx:bk AV)(a0:AV):M AV:=iz false 33 [(0,qi 0),(1,a0)] fun a=>fH 4 [] a fun b=>ao (.agg (gy (aa b)))
def C154(a0:AV):af pg 154 [a0]=bn (S154 (af pg) ak (cl aF a0)):=cY
def S156(call:CC)(fx:bk AV)(a0 a1 a2:AV):M AV:=bY .eql 3 a0 (qi 7) (aR 33 (qc a1) 0 3 fun a=>aR 33 (qc a2) 0 3 fun b=>aU .eql 3 a b fun c=>fk c (ca 33 (qc a1) 0 3 fun d=>cN .neq 3 d (qi 2) fun e=>ao [e]) fun f=>au (call 141 [f,qi 13]) fun g=>aR 33 (qc a1) 1 3 fun h=>aR 33 (qc a2) 1 3 fun i=>aU .eql 3 h i fun j=>au (call 155 [j]) fun k=>fH 4 [] k fun l=>ao (.agg (gy (aa l)))) (aR 33 (qc a1) 0 3 fun m=>aU .eql 3 m (qi 0) fun n=>fk n (ca 33 (qc a2) 0 3 fun o=>cN .eql 3 o (qi 0) fun p=>ao [p]) fun q=>au (call 141 [q,qi 13]) fun r=>bY .eql 3 a0 (qi 3) (aR 33 (qc a1) 1 3 fun s=>aR 33 (qc a2) 1 3 fun u=>aU .add 3 s u fun v=>au (call 154 [v]) fun w=>fH 4 [] w fun x=>ao (.agg (gy (aa x)))) (bY .eql 3 a0 (qi 4) (aR 33 (qc a1) 1 3 fun y=>aR 33 (qc a2) 1 3 fun z=>aU .sub 3 y z fun A=>au (call 154 [A]) fun B=>fH 4 [] B fun C=>ao (.agg (gy (aa C)))) (bY .eql 3 a0 (qi 5) (aR 33 (qc a1) 1 3 fun D=>aR 33 (qc a2) 1 3 fun E=>aU .mul 3 D E fun F=>au (call 154 [F]) fun G=>fH 4 [] G fun H=>ao (.agg (gy (aa H)))) (aR 33 (qc a1) 1 3 fun I=>aR 33 (qc a2) 1 3 fun J=>aU .lss 3 I J fun K=>au (call 155 [K]) fun L=>fH 4 [] L fun N=>ao (.agg (gy (aa N)))))))
def C156(a0 a1 a2:AV):af pg 156 [a0,a1,a2]=S156 (af pg) ak a0 a1 a2:=cZ
def L158_0(call:CC)(fx:bk AV)(a:RR)(b:List AV):M AV:=bY .lss 3 (ab b 4) (ab b 3) (eH 50 (ab b 2) (ab b 4) 108 fun c=>jv 6 c fun d=>eX 189 (ab b 1) fun e=>eX 108 (qc d) fun f=>au (call 102 [ab b 0,e,f]) fun g=>sB 23 1 [(0,g)] fun h=>au (bP (dJ T 23 (ab b 12) h)) fun i=>A0 i fun j=>aU .add 3 (ab b 4) (qi 1) fun k=>a (nP b [k,ab b 5,ab b 6,ab b 7,ab b 8,ab b 9,ab b 10,ab b 11,i])) (au (call 177 [.agg [ab b 9,ab b 10,ab b 11,ab b 12]]) fun l=>aU .leq 3 l (qi 4) fun m=>au (call 141 [m,qi 6]) fun n=>fH 4 [] (.agg [ab b 9,ab b 10,ab b 11,ab b 12]) fun o=>ao (.agg (gy (aa o))))
def FL158_0(call:CC):FW (L158_0 call ak):=hY
def S158(call:CC)(fx:bk AV)(a0 a1 a2:AV):M AV:=aR 108 (qc a2) 4 31 fun a=>cO 31 a fun b=>aR 108 (qc a2) 5 50 fun c=>cO 50 c fun d=>aU .eql 3 b d fun e=>fk e (ca 108 (qc a2) 4 31 fun f=>au (call 162 [f]) fun g=>ao [g]) fun h=>au (call 141 [h,qi 13]) fun i=>aR 108 (qc a2) 4 31 fun j=>cO 31 j fun k=>aU .leq 3 k (qi 8) fun l=>au (call 141 [l,qi 6]) fun m=>aR 108 (qc a2) 4 31 fun n=>au (call 113 [n]) fun o=>iz true 33 [(0,qi 2),(2,o)] fun p=>fH 4 [3] p fun q=>aR 108 (qc a2) 5 50 fun r=>cO 50 r fun s=>fx (L158_0 call fx) [a0,qc a1,r,s,qi 0,qi 0,qi 0,.sl [],.sl [],ab (aa q) 0,ab (aa q) 1,ab (aa q) 2,.sl []]
def C158(a0 a1 a2:AV):af pg 158 [a0,a1,a2]=S158 (af pg) ak a0 a1 a2:=cZ
def K173_0(call:CC)(fx:bk AV)(a:List AV):M AV:=aC (ab a 2) (aR 108 (ab a 0) 2 9 fun b=>A0 b fun c=>fH 6 [] (.agg [ab a 9,ab a 10,b,ab a 12,ab a 13,ab a 14]) fun d=>ao (.tup [.agg (uT (aa d)),qi 1])) (bY .eql 3 (ab a 1) (qi 16) (aR 108 (ab a 0) 1 3 fun e=>A0 e fun f=>fH 6 [] (.agg [ab a 9,e,ab a 11,ab a 12,ab a 13,ab a 14]) fun g=>ao (.tup [.agg (uT (aa g)),qi 1])) (bY .eql 3 (ab a 1) (qi 10) (fH 6 [] (.agg [ab a 9,ab a 10,ab a 11,ab a 12,ab a 13,ab a 14]) fun h=>ao (.tup [.agg (uT (aa h)),qi 1])) (bY .eql 3 (ab a 1) (qi 12) (aR 108 (ab a 0) 2 9 fun i=>A0 i fun j=>fH 6 [] (.agg [ab a 9,ab a 10,i,ab a 12,ab a 13,ab a 14]) fun k=>ao (.tup [.agg (uT (aa k)),qi 2])) (bY .eql 3 (ab a 1) (qi 11) (fH 6 [] (.agg [ab a 9,ab a 10,ab a 11,ab a 12,ab a 13,ab a 14]) fun l=>ao (.tup [.agg (uT (aa l)),qi 3])) (bY .eql 3 (ab a 1) (qi 13) (aR 108 (ab a 0) 4 31 fun m=>A0 m fun n=>aR 108 (ab a 0) 4 31 fun o=>cO 31 o fun p=>fH 6 [] (.agg [ab a 9,ab a 10,ab a 11,ab a 12,m,ab a 14]) fun q=>ao (.tup [.agg (uT (aa q)),p])) (bY .eql 3 (ab a 1) (qi 15) (aR 108 (ab a 0) 2 9 fun r=>aR 108 (ab a 0) 3 9 fun s=>A0 r fun u=>A0 s fun v=>fH 6 [] (.agg [ab a 9,ab a 10,r,s,ab a 13,ab a 14]) fun w=>ao (.tup [.agg (uT (aa w)),qi (-1)])) (fH 6 [] (.agg [ab a 9,ab a 10,ab a 11,ab a 12,ab a 13,ab a 14]) fun x=>ao (.tup [.agg (uT (aa x)),qi 2]))))))))
def K173_1(call:CC)(fx:bk AV)(a:List AV):M AV:=aC (ab a 2) (aR 108 (ab a 0) 2 9 fun b=>A0 b fun c=>fH 6 [] (.agg [ab a 9,ab a 10,b,ab a 12,ab a 13,ab a 14]) fun d=>ao (.tup [.agg (uT (aa d)),qi 0])) (jn (K173_0 call fx) fun e=>aU .eql 3 (ab a 1) (qi 18) fun f=>aC f (e [ab a 0,ab a 1,f,ab a 3,ab a 4,ab a 5,ab a 6,ab a 7,ab a 8,ab a 9,ab a 10,ab a 11,ab a 12,ab a 13,ab a 14]) (aU .eql 3 (ab a 1) (qi 14) fun g=>e [ab a 0,ab a 1,g,ab a 3,ab a 4,ab a 5,ab a 6,ab a 7,ab a 8,ab a 9,ab a 10,ab a 11,ab a 12,ab a 13,ab a 14]))
def K173_2(call:CC)(fx:bk AV)(a:List AV):M AV:=aC (ab a 2) (aR 108 (ab a 0) 1 3 fun b=>A0 b fun c=>fH 6 [] (.agg [ab a 9,b,ab a 11,ab a 12,ab a 13,ab a 14]) fun d=>ao (.tup [.agg (uT (aa d)),qi 0])) (jn (K173_1 call fx) fun e=>aU .eql 3 (ab a 1) (qi 2) fun f=>aC f (e [ab a 0,ab a 1,f,ab a 3,ab a 4,ab a 5,ab a 6,ab a 7,ab a 8,ab a 9,ab a 10,ab a 11,ab a 12,ab a 13,ab a 14]) (aU .eql 3 (ab a 1) (qi 17) fun g=>e [ab a 0,ab a 1,g,ab a 3,ab a 4,ab a 5,ab a 6,ab a 7,ab a 8,ab a 9,ab a 10,ab a 11,ab a 12,ab a 13,ab a 14]))
def S173(call:CC)(fx:bk AV)(a0:AV):M AV:=aR 108 (qc a0) 0 3 fun a=>aR 108 (qc a0) 5 50 fun b=>iz false 108 [(0,a),(5,b)] fun c=>fH 6 [] c fun d=>aR 108 (qc a0) 0 3 fun e=>jn (K173_2 call fx) fun f=>aU .eql 3 e (qi 0) fun g=>aC g (f [qc a0,e,g,qi 0,qi 0,.str [],.str [],.sl [],.sl [],ab (aa d) 0,ab (aa d) 1,ab (aa d) 2,ab (aa d) 3,ab (aa d) 4,ab (aa d) 5]) (aU .eql 3 e (qi 1) fun h=>f [qc a0,e,h,qi 0,qi 0,.str [],.str [],.sl [],.sl [],ab (aa d) 0,ab (aa d) 1,ab (aa d) 2,ab (aa d) 3,ab (aa d) 4,ab (aa d) 5])
def C173(a0:AV):af pg 173 [a0]=bn (S173 (af pg) ak (cl aF a0)):=cY
def L177_0(call:CC)(fx:bk AV)(a:RR)(b:List AV):M AV:=bY .lss 3 (ab b 3) (ab b 2) (eH 23 (ab b 1) (ab b 3) 33 fun c=>jv 4 c fun d=>eX 33 (qc d) fun e=>au (call 177 [e]) fun f=>au (bP (ka true [ab b 0,f])) fun g=>aU .add 3 (ab b 3) (qi 1) fun h=>a [g,ab b 1,ab b 2,h]) (aU .add 3 (ab b 0) (qi 1) fun i=>ao i)
def FL177_0(call:CC):FW (L177_0 call ak):=hY
def S177(call:CC)(fx:bk AV)(a0:AV):M AV:=aR 33 (qc a0) 3 23 fun a=>cO 23 a fun b=>fx (L177_0 call fx) [qi 0,a,b,qi 0]
def C177(a0:AV):af pg 177 [a0]=bn (S177 (af pg) ak (cl aF a0)):=cY
def L5_0(call:CC)(fx:bk AV)(a:RR)(b:List AV):M AV:=cO 22 (ab b 0) fun c=>aU .lss 3 (ab b 1) c fun d=>fk d (cN .leq 3 (ab b 1) (qi 4) fun e=>ao [e]) fun f=>aC f (eH 22 (ab b 0) (ab b 1) 55 fun g=>au (call 18 [g]) fun h=>oq UnOp.not h fun i=>aC i (ao (.bool false)) (aU .add 3 (ab b 1) (qi 1) fun j=>a [ab b 0,j])) (cO 22 (ab b 0) fun k=>aU .leq 3 k (qi 4) fun l=>ao l)
def FL5_0(call:CC):FW (L5_0 call ak):=hY
def S5(call:CC)(fx:bk AV)(a0:AV):M AV:=fx (L5_0 call fx) [a0,qi 0]
def C5(a0:AV):af pg 5 [a0]=bn (S5 (af pg) ak (cl aF a0)):=cY
def S7(call:CC)(fx:bk AV)(a0 a1 a2 a3 a4:AV):M AV:=au (call 20 [a0]) fun a=>jd a 0 fun b=>jd a 1 fun c=>bY .neq 30 c (qi 0) (iz false 39 [] fun d=>fH 13 [] d fun e=>ao (.tup [.agg (m5 (aa e)),c])) (au (call 21 [a0]) fun f=>jd f 0 fun g=>jd f 1 fun h=>bY .neq 30 h (qi 0) (iz false 39 [] fun i=>fH 13 [] i fun j=>ao (.tup [.agg (m5 (aa j)),h])) (dU b fun k=>ct 82 k 2 fun l=>eI 80 l fun m=>iz false 84 [(0,a1),(1,a2)] fun n=>au (ec T 80 m n true) fun o=>jd o 0 fun p=>jd o 1 fun q=>jv 7 p fun r=>oq UnOp.not q fun s=>aC s (iz false 39 [] fun u=>fH 13 [] u fun v=>ao (.tup [.agg (m5 (aa v)),qi 4])) (ct 77 (qc r) 2 fun w=>aR 75 w 1 3 fun x=>au (call 22 [a3,x]) fun y=>oq UnOp.not y fun z=>aC z (iz false 39 [] fun A=>fH 13 [] A fun B=>ao (.tup [.agg (m5 (aa B)),qi 13])) (au (call 23 [a4]) fun C=>dU b fun D=>ct 82 D 0 fun E=>ct 39 E 1 fun F=>na 28 F g fun G=>dU b fun H=>ct 82 H 0 fun I=>ct 39 I 3 fun J=>na 24 J C fun K=>eX 77 (qc r) fun L=>au (call 25 [a3]) fun N=>au (call 24 [b,a1,L,N]) fun O=>dU b fun P=>ct 82 P 0 fun Q=>eI 39 Q fun R=>fH 13 [] R fun S=>ao (.tup [.agg (m5 (aa S)),qi 0])))))
def C7(a0 a1 a2 a3 a4:AV):af pg 7 [a0,a1,a2,a3,a4]=bn (S7 (af pg) ak (cl aF a0) (cl aF a1) (cl aF a2) (cl aF a3) (cl aF a4)):=cY
def L39_0(call:CC)(fx:bk AV)(a:RR)(b:List AV):M AV:=cO 50 (ab b 0) fun c=>aU .lss 3 (ab b 1) c fun d=>fk d (cN .leq 3 (ab b 1) (qi 10) fun e=>ao [e]) fun f=>aC f (eH 50 (ab b 0) (ab b 1) 108 fun g=>au (call 38 [g]) fun h=>oq UnOp.not h fun i=>aC i (ao (.bool false)) (aU .add 3 (ab b 1) (qi 1) fun j=>a [ab b 0,j])) (cO 50 (ab b 0) fun k=>aU .leq 3 k (qi 10) fun l=>ao l)
def FL39_0(call:CC):FW (L39_0 call ak):=hY
def S39(call:CC)(fx:bk AV)(a0:AV):M AV:=fx (L39_0 call fx) [a0,qi 0]
theorem C39(a0:AV):af pg 39 [a0]=bn (S39 (af pg) ak (cl aF a0)):=cY
def S49(call:CC)(fx:bk AV)(a0:AV):M AV:=iz false 33 [(0,qi 0),(1,a0)] fun a=>fH 4 [] a fun b=>ao (.agg (gy (aa b)))
def C49(a0:AV):af pg 49 [a0]=bn (S49 (af pg) ak (cl aF a0)):=cY
def K55_0(call:CC)(fx:bk AV)(a:List AV):M AV:=aC (ab a 3) (eX 133 (ab a 2) fun b=>au (call 117 [ab a 0,ab a 1,b]) fun c=>ao c) (aR 133 (ab a 2) 0 3 fun d=>au (call 118 [ab a 1,d]) fun e=>ao e)
def K55_1(call:CC)(fx:bk AV)(a:List AV):M AV:=aC (ab a 4) (eX 133 (ab a 2) fun b=>au (call 116 [ab a 0,ab a 1,b]) fun c=>ao c) (jn (K55_0 call fx) fun d=>aU .eql 3 (ab a 3) (qi 9) fun e=>aC e (d (mS a [e])) (aU .eql 3 (ab a 3) (qi 13) fun f=>aC f (d (mS a [f])) (aU .eql 3 (ab a 3) (qi 15) fun g=>d (mS a [g]))))
def S55(call:CC)(fx:bk AV)(a0 a1 a2:AV):M AV:=aR 133 (qc a2) 0 3 fun a=>bY .eql 3 a (qi 0) (aR 133 (qc a2) 1 3 fun b=>au (call 49 [b]) fun c=>au (call 109 [a1,c]) fun d=>ao (qi 0)) (bY .eql 3 a (qi 1) (aR 133 (qc a2) 1 3 fun e=>aU .eql 3 e (qi 1) fun f=>au (call 110 [f]) fun g=>au (call 109 [a1,g]) fun h=>ao (qi 0)) (bY .eql 3 a (qi 2) (dU a1 fun i=>ct 46 i 3 fun j=>eI 23 j fun k=>aR 133 (qc a2) 1 3 fun l=>jU 23 k l fun m=>eI 33 m fun n=>au (call 109 [a1,n]) fun o=>ao (qi 0)) (bY .eql 3 a (qi 3) (dU a1 fun p=>ct 46 p 3 fun q=>au (fP T 5 3 23 q) fun r=>aR 133 (qc a2) 1 3 fun s=>au (iu 5 3 (call 111 [a1,qi 1])) fun u=>jU 23 u (qi 0) fun v=>eI 33 v fun w=>jU 23 r s fun x=>na 33 x w fun y=>ao (qi 0)) (bY .eql 3 a (qi 19) (au (call 111 [a1,qi 1]) fun z=>ao (qi 0)) (bY .eql 3 a (qi 10) (aR 133 (qc a2) 1 3 fun A=>dU a1 fun B=>ct 46 B 2 fun C=>na 3 C A fun D=>ao (qi 0)) (bY .eql 3 a (qi 11) (au (call 112 [a1,qi 1]) fun E=>jU 23 E (qi 0) fun F=>eI 33 F fun G=>jv 4 G fun H=>aR 33 (qc H) 0 3 fun I=>bY .neq 3 I (qi 1) (ao (qi 13)) (au (call 111 [a1,qi 1]) fun J=>aR 33 (qc H) 1 3 fun K=>bY .eql 3 K (qi 0) (aR 133 (qc a2) 1 3 fun L=>dU a1 fun N=>ct 46 N 2 fun O=>na 3 O L fun P=>ao (qi 0)) (ao (qi 0)))) (bY .eql 3 a (qi 12) (aR 133 (qc a2) 4 31 fun Q=>aR 133 (qc a2) 4 31 fun R=>cO 31 R fun S=>au (call 113 [Q]) fun U=>au (call 112 [a1,S]) fun V=>au (au (call 25 [V]) oF) fun W=>iz false 33 [(0,qi 2),(2,U),(3,W)] fun X=>jv 4 X fun Y=>eX 33 (qc Y) fun Z=>au (call 114 [Z]) fun u0=>bY .gtr 3 u0 (qi 4) (ao (qi 6)) (aR 133 (qc a2) 4 31 fun u1=>cO 31 u1 fun u2=>au (call 111 [a1,u2]) fun u3=>eX 33 (qc Y) fun u4=>au (call 109 [a1,u4]) fun u5=>ao (qi 0))) (bY .eql 3 a (qi 14) (eX 133 (qc a2) fun u6=>au (call 115 [a0,a1,u6]) fun u7=>ao u7) (jn (K55_1 call fx) fun u8=>aU .eql 3 a (qi 16) fun u9=>aC u9 (u8 [a0,a1,qc a2,a,u9]) (aU .eql 3 a (qi 17) fun v0=>u8 [a0,a1,qc a2,a,v0]))))))))))
def C55(a0 a1 a2:AV):af pg 55 [a0,a1,a2]=S55 (af pg) ak a0 a1 a2:=cZ
def S56(call:CC)(fx:bk AV)(a0 a1 a2:AV):M AV:=dU a0 fun a=>ct 82 a 0 fun b=>ct 39 b 5 fun c=>na 4 c (.bool true) fun d=>dU a0 fun e=>ct 82 e 0 fun f=>ct 39 f 2 fun g=>na 29 g (.sl []) fun h=>eX 33 (qc a2) fun i=>dU a0 fun j=>ct 82 j 0 fun k=>ct 39 k 1 fun l=>eI 28 l fun m=>au (call 105 [m]) fun n=>dU a0 fun o=>ct 82 o 0 fun p=>ct 39 p 4 fun q=>ct 37 q 0 fun r=>na 30 r a1 fun s=>dU a0 fun u=>ct 82 u 0 fun v=>ct 39 v 4 fun w=>ct 37 w 1 fun x=>na 33 x i fun y=>dU a0 fun z=>ct 82 z 0 fun A=>ct 39 A 4 fun B=>ct 37 B 4 fun C=>na 28 C n fun D=>ao (.tup [])
def C56(a0 a1 a2:AV):af pg 56 [a0,a1,a2]=S56 (af pg) ak a0 a1 a2:=cZ
def S88(call:CC)(fx:bk AV)(a0:AV):M AV:=au (call 122 [a0]) fun a=>fk a (cN .add 9 (.str [32]) a0 fun b=>cN .add 9 b (.str [32]) fun c=>au (call 143 [.str [32,97,110,100,32,98,97,99,107,32,98,111,111,108,32,99,108,111,99,107,32,101,108,115,101,32,102,97,108,115,101,32,102,105,108,101,115,32,102,110,32,102,111,114,119,97,114,100,32,103,101,116,32,105,102,32,105,110,32,105,110,116,32,108,101,116,32,109,111,100,117,108,101,32,109,111,118,101,32,110,101,116,32,110,111,116,32,111,114,32,112,117,98,32,115,101,99,114,101,116,115,32,115,101,116,32,116,104,101,110,32,116,114,117,101,32,117,115,101,32,118,97,114,32],c]) fun d=>m9 UnOp.not d fun e=>ao [e]) fun f=>ao f
def C88(a0:AV):af pg 88 [a0]=bn (S88 (af pg) ak (cl aF a0)):=cY
def S90(call:CC)(fx:bk AV)(a0:AV):M AV:=eX 106 (qc a0) fun a=>au (call 144 [a,qi 4]) fun b=>ao b
def C90(a0:AV):af pg 90 [a0]=bn (S90 (af pg) ak (cl aF a0)):=cY
def L92_0(call:CC)(fx:bk AV)(a:RR)(b:List AV):M AV:=bY .lss 3 (ab b 4) (ab b 3) (eH 50 (ab b 2) (ab b 4) 108 fun c=>jv 6 c fun d=>eX 108 (qc d) fun e=>au (call 91 [e]) fun f=>oq UnOp.not f fun g=>aC g (ao (.bool false)) (aU .add 3 (ab b 4) (qi 1) fun h=>a (nP b [h]))) (cO 50 (ab b 0) fun i=>aU .eql 3 i (ab b 1) fun j=>ao j)
def FL92_0(call:CC):FW (L92_0 call ak):=hY
def S92(call:CC)(fx:bk AV)(a0 a1:AV):M AV:=cO 50 a0 fun a=>fx (L92_0 call fx) [a0,a1,a0,a,qi 0]
def C92(a0 a1:AV):af pg 92 [a0,a1]=bn (S92 (af pg) ak (cl aF a0) (cl aF a1)):=cY
def S97(call:CC)(fx:bk AV)(a0 a1:AV):M AV:=aR 75 (qc a0) 3 73 fun a=>eH 73 a a1 133 fun b=>jv 5 b fun c=>aR 133 (qc c) 0 3 fun d=>bY .eql 3 d (qi 18) (ao (.sl [])) (bY .eql 3 d (qi 10) (aR 133 (qc c) 1 3 fun e=>sB 24 1 [(0,e)] fun f=>ao f) (bY .eql 3 d (qi 11) (aU .add 3 a1 (qi 1) fun g=>aR 133 (qc c) 1 3 fun h=>sB 24 2 [(0,g),(1,h)] fun i=>ao i) (aU .add 3 a1 (qi 1) fun j=>sB 24 1 [(0,j)] fun k=>ao k)))
def C97(a0 a1:AV):af pg 97 [a0,a1]=bn (S97 (af pg) ak (cl aF a0) (cl aF a1)):=cY
def K102_0(call:CC)(fx:bk AV)(a:List AV):M AV:=eX 189 (ab a 1) fun b=>eX 108 (ab a 2) fun c=>au (call 161 [ab a 0,b,c]) fun d=>fH 4 [] d fun e=>ao (.agg (gy (aa e)))
def L102_0(call:CC)(fx:bk AV)(a:RR)(b:RR)(c:List AV):M AV:=bY .geq 3 (ab c 3) (qi 0) (aR 189 (ab c 1) 1 31 fun d=>eH 31 d (ab c 3) 9 fun e=>aR 108 (ab c 2) 2 9 fun f=>bY .eql 9 e f (aR 189 (ab c 1) 2 23 fun g=>eH 23 g (ab c 3) 33 fun h=>fH 4 [] h fun i=>ao (.agg (gy (aa i)))) (aU .sub 3 (ab c 3) (qi 1) fun j=>b (mS c [j,ab c 4,ab c 5,ab c 6,ab c 7]))) (au (bP (l7 T 30 (qi 12))) fun k=>au (Kf k) fun l=>a (mS c [ab c 4,ab c 5,ab c 6,ab c 7]))
def K102_1(call:CC)(fx:bk AV)(a:RR)(b:List AV):M AV:=aC (ab b 4) (eX 189 (ab b 1) fun c=>aR 108 (ab b 2) 5 50 fun d=>eH 50 d (qi 0) 108 fun e=>aR 108 (ab b 2) 0 3 fun f=>aU .eql 3 f (qi 9) fun g=>au (call 157 [ab b 0,c,e]) fun h=>bY .eql 4 h g (aR 108 (ab b 2) 0 3 fun i=>aU .eql 3 i (qi 9) fun j=>au (call 155 [j]) fun k=>fH 4 [] k fun l=>ao (.agg (gy (aa l)))) (eX 189 (ab b 1) fun m=>aR 108 (ab b 2) 5 50 fun n=>eH 50 n (qi 1) 108 fun o=>au (call 157 [ab b 0,m,o]) fun p=>au (dz (call 155 [p])) fun q=>fH 4 [] q fun r=>ao (.agg (gy (aa r))))) (bY .eql 3 (ab b 3) (qi 10) (eX 189 (ab b 1) fun s=>aR 108 (ab b 2) 5 50 fun u=>eH 50 u (qi 0) 108 fun v=>au (call 157 [ab b 0,s,v]) fun w=>oq UnOp.not w fun x=>au (dz (call 155 [x])) fun y=>fH 4 [] y fun z=>ao (.agg (gy (aa z)))) (bY .eql 3 (ab b 3) (qi 11) (eX 189 (ab b 1) fun A=>aR 108 (ab b 2) 5 50 fun B=>eH 50 B (qi 0) 108 fun C=>au (call 157 [ab b 0,A,C]) fun D=>aC D (eX 189 (ab b 1) fun E=>aR 108 (ab b 2) 5 50 fun F=>eH 50 F (qi 1) 108 fun G=>au (call 102 [ab b 0,E,G]) fun H=>fH 4 [] H fun I=>ao (.agg (gy (aa I)))) (eX 189 (ab b 1) fun J=>aR 108 (ab b 2) 5 50 fun K=>eH 50 K (qi 2) 108 fun L=>au (call 102 [ab b 0,J,L]) fun N=>fH 4 [] N fun O=>ao (.agg (gy (aa O))))) (bY .eql 3 (ab b 3) (qi 12) (eX 189 (ab b 1) fun P=>aR 108 (ab b 2) 2 9 fun Q=>eX 189 (ab b 1) fun R=>aR 108 (ab b 2) 5 50 fun S=>eH 50 S (qi 0) 108 fun U=>aR 108 (ab b 2) 5 50 fun V=>eH 50 V (qi 1) 108 fun W=>au (call 102 [ab b 0,R,U]) fun X=>au (dz (call 142 [P,Q,X])) fun Y=>au (call 102 [ab b 0,Y,W]) fun Z=>fH 4 [] Z fun u0=>ao (.agg (gy (aa u0)))) (bY .eql 3 (ab b 3) (qi 13) (eX 189 (ab b 1) fun u1=>eX 108 (ab b 2) fun u2=>au (call 158 [ab b 0,u1,u2]) fun u3=>fH 4 [] u3 fun u4=>ao (.agg (gy (aa u4)))) (bY .eql 3 (ab b 3) (qi 14) (eX 189 (ab b 1) fun u5=>aR 108 (ab b 2) 5 50 fun u6=>eH 50 u6 (qi 0) 108 fun u7=>au (call 102 [ab b 0,u5,u7]) fun u8=>jv 4 u8 fun u9=>aR 33 (qc u9) 2 31 fun v0=>aR 108 (ab b 2) 2 9 fun v1=>au (call 159 [v0,v1]) fun v2=>aR 33 (qc u9) 0 3 fun v3=>aU .eql 3 v3 (qi 2) fun v4=>fk v4 (cN .geq 3 v2 (qi 0) fun v5=>ao [v5]) fun v6=>au (call 141 [v6,qi 13]) fun v7=>aR 33 (qc u9) 3 23 fun v8=>eH 23 v8 v2 33 fun v9=>fH 4 [] v9 fun w0=>ao (.agg (gy (aa w0)))) (bY .eql 3 (ab b 3) (qi 15) (eX 189 (ab b 1) fun w1=>eX 108 (ab b 2) fun w2=>au (call 160 [ab b 0,w1,w2]) fun w3=>fH 4 [] w3 fun w4=>ao (.agg (gy (aa w4)))) (a (mS b [ab b 5,ab b 6,ab b 7,ab b 8]))))))))
def K102_2(call:CC)(fx:bk AV)(a:RR)(b:List AV):M AV:=aC (ab b 4) (aR 108 (ab b 2) 0 3 fun c=>eX 189 (ab b 1) fun d=>aR 108 (ab b 2) 5 50 fun e=>eH 50 e (qi 0) 108 fun f=>eX 189 (ab b 1) fun g=>aR 108 (ab b 2) 5 50 fun h=>eH 50 h (qi 1) 108 fun i=>au (call 102 [ab b 0,d,f]) fun j=>au (call 102 [ab b 0,g,i]) fun k=>au (call 156 [c,j,k]) fun l=>fH 4 [] l fun m=>ao (.agg (gy (aa m)))) (jn (K102_1 call fx a) fun n=>aU .eql 3 (ab b 3) (qi 8) fun o=>aC o (n (nP b [o,ab b 5,ab b 6,ab b 7,ab b 8])) (aU .eql 3 (ab b 3) (qi 9) fun p=>n (nP b [p,ab b 5,ab b 6,ab b 7,ab b 8])))
def FL102_0(call:CC)(a:RR):FW (L102_0 call ak a):=hY
def S102(call:CC)(fx:bk AV)(a0 a1 a2:AV):M AV:=dU a0 fun a=>ct 166 a 2 fun b=>eI 3 b fun c=>aU .gtr 3 c (qi 0) fun d=>au (call 141 [d,qi 16]) fun e=>dU a0 fun f=>ct 166 f 2 fun g=>eI 3 g fun h=>aU .sub 3 h (qi 1) fun i=>dU a0 fun j=>ct 166 j 2 fun k=>na 3 k i fun l=>aR 108 (qc a2) 0 3 fun m=>au (call 153 [m]) fun n=>aU .neq 3 n (qi (-2)) fun o=>au (aK o true 1 (cN .eql 3 n (qi (-1)) fun p=>ao [p])) fun q=>au (aK (ab q 0) false 1 (ca 108 (qc a2) 5 50 fun r=>kw 50 r fun s=>cN .eql 3 n s fun u=>ao [u])) fun v=>fk o (zi (ab q 0) (.bool true) (ab v 0) fun w=>ao [w]) fun x=>au (call 141 [x,qi 13]) fun y=>jn (K102_0 call fx) fun z=>aR 108 (qc a2) 0 3 fun A=>bY .eql 3 A (qi 0) (aR 108 (qc a2) 1 3 fun B=>au (call 154 [B]) fun C=>fH 4 [] C fun D=>ao (.agg (gy (aa D)))) (bY .eql 3 A (qi 1) (aR 108 (qc a2) 1 3 fun E=>aU .eql 3 E (qi 0) fun F=>eG F (ca 108 (qc a2) 1 3 fun G=>cN .eql 3 G (qi 1) fun H=>ao [H]) fun I=>au (call 141 [I,qi 13]) fun J=>aR 108 (qc a2) 1 3 fun K=>aU .eql 3 K (qi 1) fun L=>au (call 155 [L]) fun N=>fH 4 [] N fun O=>ao (.agg (gy (aa O)))) (bY .eql 3 A (qi 2) (aR 189 (qc a1) 1 31 fun P=>cO 31 P fun Q=>aU .sub 3 Q (qi 1) fun R=>fx (L102_0 call fx z) [a0,qc a1,qc a2,R,qi 0,qi 0,.sl [],.sl []]) (jn (K102_2 call fx z) fun S=>aU .eql 3 A (qi 3) fun U=>aC U (S [a0,qc a1,qc a2,A,U,qi 0,qi 0,.sl [],.sl []]) (aU .eql 3 A (qi 4) fun V=>aC V (S [a0,qc a1,qc a2,A,V,qi 0,qi 0,.sl [],.sl []]) (aU .eql 3 A (qi 5) fun W=>aC W (S [a0,qc a1,qc a2,A,W,qi 0,qi 0,.sl [],.sl []]) (aU .eql 3 A (qi 6) fun X=>aC X (S [a0,qc a1,qc a2,A,X,qi 0,qi 0,.sl [],.sl []]) (aU .eql 3 A (qi 7) fun Y=>S [a0,qc a1,qc a2,A,Y,qi 0,qi 0,.sl [],.sl []])))))))
def C102(a0 a1 a2:AV):af pg 102 [a0,a1,a2]=S102 (af pg) ak a0 a1 a2:=cZ
def L103_0(call:CC)(fx:bk AV)(a:RR)(b:List AV):M AV:=bY .lss 3 (ab b 3) (ab b 2) (eH 23 (ab b 0) (ab b 3) 33 fun c=>au (cU call (ab b 1) [c]) fun d=>aC d (ao (ab b 3)) (aU .add 3 (ab b 3) (qi 1) fun e=>a (mS b [e]))) (ao (qi (-1)))
def FL103_0(call:CC):FW (L103_0 call ak):=hY
def S103(call:CC)(fx:bk AV)(a0 a1:AV):M AV:=cO 23 a0 fun a=>fx (L103_0 call fx) [a0,a1,a,qi 0]
def C103(a0 a1:AV):af pg 103 [a0,a1]=bn (S103 (af pg) ak (cl aF a0) (cl aF a1)):=cY
def S104(call:CC)(fx:bk AV)(a0 a1:AV):M AV:=eX 3 (qc a1) fun a=>bY .eql 3 a (qi 0) (ao (.bool false)) (aR 33 (qc a0) 0 3 fun b=>aU .eql 3 b (qi 0) fun c=>eG c (ca 33 (qc a0) 0 3 fun d=>cN .eql 3 d (qi 1) fun e=>ao [e]) fun f=>aC f (aR 33 (qc a0) 2 31 fun g=>cO 31 g fun h=>aU .eql 3 h (qi 0) fun i=>fk i (ca 33 (qc a0) 3 23 fun j=>kw 23 j fun k=>cN .eql 3 k (qi 0) fun l=>ao [l]) fun m=>au (aK m true 1 (ca 33 (qc a0) 0 3 fun n=>cN .eql 3 n (qi 0) fun o=>ao [o])) fun p=>au (aK (ab p 0) false 1 (ca 33 (qc a0) 1 3 fun q=>cN .eql 3 q (qi 0) fun r=>ao [r])) fun s=>au (aK m true 1 (zi (ab p 0) (.bool true) (ab s 0) fun u=>ao [u])) fun v=>au (aK (ab v 0) false 1 (ca 33 (qc a0) 1 3 fun w=>cN .eql 3 w (qi 1) fun x=>ao [x])) fun y=>fk m (zi (ab v 0) (.bool true) (ab y 0) fun z=>ao [z]) fun A=>ao A) (aR 33 (qc a0) 0 3 fun B=>aU .neq 3 B (qi 2) fun C=>eG C (ca 33 (qc a0) 1 3 fun D=>cN .neq 3 D (qi 0) fun E=>ao [E]) fun F=>eG F (ca 33 (qc a0) 2 31 fun G=>kw 31 G fun H=>ca 33 (qc a0) 3 23 fun I=>kw 23 I fun J=>cN .neq 3 H J fun K=>ao [K]) fun L=>eG L (ca 33 (qc a0) 2 31 fun N=>kw 31 N fun O=>cN .gtr 3 O (qi 8) fun P=>ao [P]) fun Q=>eG Q (ca 33 (qc a0) 2 31 fun R=>au (call 162 [R]) fun S=>m9 UnOp.not S fun U=>ao [U]) fun V=>aC V (ao (.bool false)) (aR 33 (qc a0) 3 23 fun W=>au (call 46 [W,.fn (Fn.func 163) [] [qc a1]]) fun X=>oq UnOp.not X fun Y=>ao Y)))
def C104(a0 a1:AV):af pg 104 [a0,a1]=bn (S104 (af pg) ak (cl aF a0) (cl aF a1)):=cY
def S110(call:CC)(fx:bk AV)(a0:AV):M AV:=aC a0 (iz false 33 [(0,qi 1),(1,qi 1)] fun a=>fH 4 [] a fun b=>ao (.agg (gy (aa b)))) (iz false 33 [(0,qi 1)] fun c=>fH 4 [] c fun d=>ao (.agg (gy (aa d))))
def C110(a0:AV):af pg 110 [a0]=bn (S110 (af pg) ak (cl aF a0)):=cY
def S111(call:CC)(fx:bk AV)(a0 a1:AV):M AV:=dU a0 fun a=>ct 46 a 4 fun b=>eI 23 b fun c=>cO 23 c fun d=>aU .sub 3 d a1 fun e=>dU a0 fun f=>ct 46 f 4 fun g=>eI 23 g fun h=>au (bP (da T 23 h (some e) none none)) fun i=>au (call 25 [i]) fun j=>dU a0 fun k=>ct 46 k 4 fun l=>eI 23 l fun m=>au (bP (rF T 23 m none (some e) none)) fun n=>dU a0 fun o=>ct 46 o 4 fun p=>na 23 p n fun q=>ao j
def C111(a0 a1:AV):af pg 111 [a0,a1]=S111 (af pg) ak a0 a1:=cZ
def K115_0(call:CC)(fx:bk AV)(a:List AV):M AV:=dU (ab a 0) fun b=>ct 82 b 2 fun c=>eI 80 c fun d=>aR 133 (ab a 2) 2 9 fun e=>iz false 84 [(0,ab a 3),(1,e)] fun f=>au (ec T 80 d f true) fun g=>jd g 0 fun h=>jd g 1 fun i=>jv 7 h fun j=>oq UnOp.not i fun k=>au (aK k false 1 (ca 133 (ab a 2) 3 9 fun l=>cN .neq 9 l (.str []) fun m=>ao [m])) fun n=>au (aK (ab n 0) true 1 (ca 77 (qc j) 1 4 fun o=>m9 UnOp.not o fun p=>ao [p])) fun q=>eG k (zi (ab n 0) (ab q 0) (.bool false) fun r=>ao [r]) fun s=>aC s (ao (qi 12)) (ct 77 (qc j) 2 fun u=>aR 75 u 1 3 fun v=>aR 133 (ab a 2) 1 3 fun w=>bY .neq 3 v w (ao (qi 13)) (dU (ab a 0) fun x=>ct 82 x 0 fun y=>ct 39 y 2 fun z=>eI 29 z fun A=>cO 29 A fun B=>bY .geq 3 B (qi 60) (ao (qi 6)) (eX 77 (qc j) fun C=>aR 133 (ab a 2) 1 3 fun D=>au (call 111 [ab a 1,D]) fun E=>au (call 24 [ab a 0,ab a 3,C,E]) fun F=>ao (qi 0))))
def S115(call:CC)(fx:bk AV)(a0 a1 a2:AV):M AV:=aR 133 (qc a2) 3 9 fun a=>jn (K115_0 call fx) fun b=>bY .eql 9 a (.str []) (dU a1 fun c=>ct 46 c 0 fun d=>eI 9 d fun e=>b [a0,a1,qc a2,e]) (b [a0,a1,qc a2,a])
def C115(a0 a1 a2:AV):af pg 115 [a0,a1,a2]=S115 (af pg) ak a0 a1 a2:=cZ
def S121(call:CC)(fx:bk AV)(a0:AV):M AV:=aU .geq 5 a0 (.int .u8 48) fun a=>fk a (cN .leq 5 a0 (.int .u8 57) fun b=>ao [b]) fun c=>ao c
def C121(a0:AV):af pg 121 [a0]=bn (S121 (af pg) ak (cl aF a0)):=cY
def S163(call:CC)(fx:bk AV)(a0 a1:AV):M AV:=eX 33 (qc a0) fun a=>eX 3 a1 fun b=>aU .sub 3 b (qi 1) fun c=>au (call 104 [a,c]) fun d=>oq UnOp.not d fun e=>ao e
def C163(a0 a1:AV):af pg 163 [a0,a1]=bn (S163 (af pg) ak (cl aF a0) (cl aF a1)):=cY
@[simp] theorem FA33_0(cs:List AV):ah T 33 (.ip cs) 0=some (.ip (cs.drop 0)):=rfl
@[simp] theorem FH33_0(l k:Nat):ah T 33 (.hp l k) 0=some (.hp l (k+0)):=rfl
@[simp] theorem FA33_1(cs:List AV):ah T 33 (.ip cs) 1=some (.ip (cs.drop 1)):=rfl
@[simp] theorem FH33_1(l k:Nat):ah T 33 (.hp l k) 1=some (.hp l (k+1)):=rfl
@[simp] theorem FA33_2(cs:List AV):ah T 33 (.ip cs) 2=some (.ip (cs.drop 2)):=rfl
@[simp] theorem FH33_2(l k:Nat):ah T 33 (.hp l k) 2=some (.hp l (k+2)):=rfl
@[simp] theorem FA33_3(cs:List AV):ah T 33 (.ip cs) 3=some (.ip (cs.drop 3)):=rfl
@[simp] theorem FH33_3(l k:Nat):ah T 33 (.hp l k) 3=some (.hp l (k+3)):=rfl
@[simp] theorem FA37_0(cs:List AV):ah T 37 (.ip cs) 0=some (.ip (cs.drop 0)):=rfl
@[simp] theorem FH37_0(l k:Nat):ah T 37 (.hp l k) 0=some (.hp l (k+0)):=rfl
@[simp] theorem FA37_1(cs:List AV):ah T 37 (.ip cs) 1=some (.ip (cs.drop 1)):=rfl
@[simp] theorem FH37_1(l k:Nat):ah T 37 (.hp l k) 1=some (.hp l (k+1)):=rfl
@[simp] theorem FA37_2(cs:List AV):ah T 37 (.ip cs) 2=some (.ip (cs.drop 5)):=rfl
@[simp] theorem FH37_2(l k:Nat):ah T 37 (.hp l k) 2=some (.hp l (k+5)):=rfl
@[simp] theorem FA37_3(cs:List AV):ah T 37 (.ip cs) 3=some (.ip (cs.drop 6)):=rfl
@[simp] theorem FH37_3(l k:Nat):ah T 37 (.hp l k) 3=some (.hp l (k+6)):=rfl
@[simp] theorem FA37_4(cs:List AV):ah T 37 (.ip cs) 4=some (.ip (cs.drop 7)):=rfl
@[simp] theorem FH37_4(l k:Nat):ah T 37 (.hp l k) 4=some (.hp l (k+7)):=rfl
@[simp] theorem FA39_0(cs:List AV):ah T 39 (.ip cs) 0=some (.ip (cs.drop 0)):=rfl
@[simp] theorem FH39_0(l k:Nat):ah T 39 (.hp l k) 0=some (.hp l (k+0)):=rfl
@[simp] theorem FA39_1(cs:List AV):ah T 39 (.ip cs) 1=some (.ip (cs.drop 1)):=rfl
@[simp] theorem FH39_1(l k:Nat):ah T 39 (.hp l k) 1=some (.hp l (k+1)):=rfl
@[simp] theorem FA39_2(cs:List AV):ah T 39 (.ip cs) 2=some (.ip (cs.drop 2)):=rfl
@[simp] theorem FH39_2(l k:Nat):ah T 39 (.hp l k) 2=some (.hp l (k+2)):=rfl
@[simp] theorem FA39_3(cs:List AV):ah T 39 (.ip cs) 3=some (.ip (cs.drop 3)):=rfl
@[simp] theorem FH39_3(l k:Nat):ah T 39 (.hp l k) 3=some (.hp l (k+3)):=rfl
@[simp] theorem FA39_4(cs:List AV):ah T 39 (.ip cs) 4=some (.ip (cs.drop 4)):=rfl
@[simp] theorem FH39_4(l k:Nat):ah T 39 (.hp l k) 4=some (.hp l (k+4)):=rfl
@[simp] theorem FA39_5(cs:List AV):ah T 39 (.ip cs) 5=some (.ip (cs.drop 12)):=rfl
@[simp] theorem FH39_5(l k:Nat):ah T 39 (.hp l k) 5=some (.hp l (k+12)):=rfl
@[simp] theorem FA46_0(cs:List AV):ah T 46 (.ip cs) 0=some (.ip (cs.drop 0)):=rfl
@[simp] theorem FH46_0(l k:Nat):ah T 46 (.hp l k) 0=some (.hp l (k+0)):=rfl
@[simp] theorem FA46_1(cs:List AV):ah T 46 (.ip cs) 1=some (.ip (cs.drop 1)):=rfl
@[simp] theorem FH46_1(l k:Nat):ah T 46 (.hp l k) 1=some (.hp l (k+1)):=rfl
@[simp] theorem FA46_2(cs:List AV):ah T 46 (.ip cs) 2=some (.ip (cs.drop 2)):=rfl
@[simp] theorem FH46_2(l k:Nat):ah T 46 (.hp l k) 2=some (.hp l (k+2)):=rfl
@[simp] theorem FA46_3(cs:List AV):ah T 46 (.ip cs) 3=some (.ip (cs.drop 3)):=rfl
@[simp] theorem FH46_3(l k:Nat):ah T 46 (.hp l k) 3=some (.hp l (k+3)):=rfl
@[simp] theorem FA46_4(cs:List AV):ah T 46 (.ip cs) 4=some (.ip (cs.drop 4)):=rfl
@[simp] theorem FH46_4(l k:Nat):ah T 46 (.hp l k) 4=some (.hp l (k+4)):=rfl
@[simp] theorem FA53_0(cs:List AV):ah T 53 (.ip cs) 0=some (.ip (cs.drop 0)):=rfl
@[simp] theorem FH53_0(l k:Nat):ah T 53 (.hp l k) 0=some (.hp l (k+0)):=rfl
@[simp] theorem FA53_1(cs:List AV):ah T 53 (.ip cs) 1=some (.ip (cs.drop 1)):=rfl
@[simp] theorem FH53_1(l k:Nat):ah T 53 (.hp l k) 1=some (.hp l (k+1)):=rfl
@[simp] theorem FA53_2(cs:List AV):ah T 53 (.ip cs) 2=some (.ip (cs.drop 2)):=rfl
@[simp] theorem FH53_2(l k:Nat):ah T 53 (.hp l k) 2=some (.hp l (k+2)):=rfl
@[simp] theorem FA55_0(cs:List AV):ah T 55 (.ip cs) 0=some (.ip (cs.drop 0)):=rfl
@[simp] theorem FH55_0(l k:Nat):ah T 55 (.hp l k) 0=some (.hp l (k+0)):=rfl
@[simp] theorem FA55_1(cs:List AV):ah T 55 (.ip cs) 1=some (.ip (cs.drop 1)):=rfl
@[simp] theorem FH55_1(l k:Nat):ah T 55 (.hp l k) 1=some (.hp l (k+1)):=rfl
@[simp] theorem FA55_2(cs:List AV):ah T 55 (.ip cs) 2=some (.ip (cs.drop 2)):=rfl
@[simp] theorem FH55_2(l k:Nat):ah T 55 (.hp l k) 2=some (.hp l (k+2)):=rfl
@[simp] theorem FA55_3(cs:List AV):ah T 55 (.ip cs) 3=some (.ip (cs.drop 3)):=rfl
@[simp] theorem FH55_3(l k:Nat):ah T 55 (.hp l k) 3=some (.hp l (k+3)):=rfl
@[simp] theorem FA55_4(cs:List AV):ah T 55 (.ip cs) 4=some (.ip (cs.drop 4)):=rfl
@[simp] theorem FH55_4(l k:Nat):ah T 55 (.hp l k) 4=some (.hp l (k+4)):=rfl
@[simp] theorem FA55_5(cs:List AV):ah T 55 (.ip cs) 5=some (.ip (cs.drop 5)):=rfl
@[simp] theorem FH55_5(l k:Nat):ah T 55 (.hp l k) 5=some (.hp l (k+5)):=rfl
@[simp] theorem FA55_6(cs:List AV):ah T 55 (.ip cs) 6=some (.ip (cs.drop 6)):=rfl
@[simp] theorem FH55_6(l k:Nat):ah T 55 (.hp l k) 6=some (.hp l (k+6)):=rfl
@[simp] theorem FA61_0(cs:List AV):ah T 61 (.ip cs) 0=some (.ip (cs.drop 0)):=rfl
@[simp] theorem FH61_0(l k:Nat):ah T 61 (.hp l k) 0=some (.hp l (k+0)):=rfl
@[simp] theorem FA61_1(cs:List AV):ah T 61 (.ip cs) 1=some (.ip (cs.drop 1)):=rfl
@[simp] theorem FH61_1(l k:Nat):ah T 61 (.hp l k) 1=some (.hp l (k+1)):=rfl
@[simp] theorem FA75_0(cs:List AV):ah T 75 (.ip cs) 0=some (.ip (cs.drop 0)):=rfl
@[simp] theorem FH75_0(l k:Nat):ah T 75 (.hp l k) 0=some (.hp l (k+0)):=rfl
@[simp] theorem FA75_1(cs:List AV):ah T 75 (.ip cs) 1=some (.ip (cs.drop 1)):=rfl
@[simp] theorem FH75_1(l k:Nat):ah T 75 (.hp l k) 1=some (.hp l (k+1)):=rfl
@[simp] theorem FA75_2(cs:List AV):ah T 75 (.ip cs) 2=some (.ip (cs.drop 2)):=rfl
@[simp] theorem FH75_2(l k:Nat):ah T 75 (.hp l k) 2=some (.hp l (k+2)):=rfl
@[simp] theorem FA75_3(cs:List AV):ah T 75 (.ip cs) 3=some (.ip (cs.drop 3)):=rfl
@[simp] theorem FH75_3(l k:Nat):ah T 75 (.hp l k) 3=some (.hp l (k+3)):=rfl
@[simp] theorem FA77_1(cs:List AV):ah T 77 (.ip cs) 1=some (.ip (cs.drop 1)):=rfl
@[simp] theorem FH77_1(l k:Nat):ah T 77 (.hp l k) 1=some (.hp l (k+1)):=rfl
@[simp] theorem FA77_2(cs:List AV):ah T 77 (.ip cs) 2=some (.ip (cs.drop 2)):=rfl
@[simp] theorem FH77_2(l k:Nat):ah T 77 (.hp l k) 2=some (.hp l (k+2)):=rfl
@[simp] theorem FA77_3(cs:List AV):ah T 77 (.ip cs) 3=some (.ip (cs.drop 6)):=rfl
@[simp] theorem FH77_3(l k:Nat):ah T 77 (.hp l k) 3=some (.hp l (k+6)):=rfl
@[simp] theorem FA82_0(cs:List AV):ah T 82 (.ip cs) 0=some (.ip (cs.drop 0)):=rfl
@[simp] theorem FH82_0(l k:Nat):ah T 82 (.hp l k) 0=some (.hp l (k+0)):=rfl
@[simp] theorem FA82_1(cs:List AV):ah T 82 (.ip cs) 1=some (.ip (cs.drop 13)):=rfl
@[simp] theorem FH82_1(l k:Nat):ah T 82 (.hp l k) 1=some (.hp l (k+13)):=rfl
@[simp] theorem FA82_2(cs:List AV):ah T 82 (.ip cs) 2=some (.ip (cs.drop 14)):=rfl
@[simp] theorem FH82_2(l k:Nat):ah T 82 (.hp l k) 2=some (.hp l (k+14)):=rfl
@[simp] theorem FA96_0(cs:List AV):ah T 96 (.ip cs) 0=some (.ip (cs.drop 0)):=rfl
@[simp] theorem FH96_0(l k:Nat):ah T 96 (.hp l k) 0=some (.hp l (k+0)):=rfl
@[simp] theorem FA96_1(cs:List AV):ah T 96 (.ip cs) 1=some (.ip (cs.drop 1)):=rfl
@[simp] theorem FH96_1(l k:Nat):ah T 96 (.hp l k) 1=some (.hp l (k+1)):=rfl
@[simp] theorem FA106_0(cs:List AV):ah T 106 (.ip cs) 0=some (.ip (cs.drop 0)):=rfl
@[simp] theorem FH106_0(l k:Nat):ah T 106 (.hp l k) 0=some (.hp l (k+0)):=rfl
@[simp] theorem FA106_1(cs:List AV):ah T 106 (.ip cs) 1=some (.ip (cs.drop 1)):=rfl
@[simp] theorem FH106_1(l k:Nat):ah T 106 (.hp l k) 1=some (.hp l (k+1)):=rfl
@[simp] theorem FA108_0(cs:List AV):ah T 108 (.ip cs) 0=some (.ip (cs.drop 0)):=rfl
@[simp] theorem FH108_0(l k:Nat):ah T 108 (.hp l k) 0=some (.hp l (k+0)):=rfl
@[simp] theorem FA108_1(cs:List AV):ah T 108 (.ip cs) 1=some (.ip (cs.drop 1)):=rfl
@[simp] theorem FH108_1(l k:Nat):ah T 108 (.hp l k) 1=some (.hp l (k+1)):=rfl
@[simp] theorem FA108_2(cs:List AV):ah T 108 (.ip cs) 2=some (.ip (cs.drop 2)):=rfl
@[simp] theorem FH108_2(l k:Nat):ah T 108 (.hp l k) 2=some (.hp l (k+2)):=rfl
@[simp] theorem FA108_3(cs:List AV):ah T 108 (.ip cs) 3=some (.ip (cs.drop 3)):=rfl
@[simp] theorem FH108_3(l k:Nat):ah T 108 (.hp l k) 3=some (.hp l (k+3)):=rfl
@[simp] theorem FA108_4(cs:List AV):ah T 108 (.ip cs) 4=some (.ip (cs.drop 4)):=rfl
@[simp] theorem FH108_4(l k:Nat):ah T 108 (.hp l k) 4=some (.hp l (k+4)):=rfl
@[simp] theorem FA108_5(cs:List AV):ah T 108 (.ip cs) 5=some (.ip (cs.drop 5)):=rfl
@[simp] theorem FH108_5(l k:Nat):ah T 108 (.hp l k) 5=some (.hp l (k+5)):=rfl
@[simp] theorem FA110_0(cs:List AV):ah T 110 (.ip cs) 0=some (.ip (cs.drop 0)):=rfl
@[simp] theorem FH110_0(l k:Nat):ah T 110 (.hp l k) 0=some (.hp l (k+0)):=rfl
@[simp] theorem FA110_1(cs:List AV):ah T 110 (.ip cs) 1=some (.ip (cs.drop 1)):=rfl
@[simp] theorem FH110_1(l k:Nat):ah T 110 (.hp l k) 1=some (.hp l (k+1)):=rfl
@[simp] theorem FA110_2(cs:List AV):ah T 110 (.ip cs) 2=some (.ip (cs.drop 2)):=rfl
@[simp] theorem FH110_2(l k:Nat):ah T 110 (.hp l k) 2=some (.hp l (k+2)):=rfl
@[simp] theorem FA110_3(cs:List AV):ah T 110 (.ip cs) 3=some (.ip (cs.drop 3)):=rfl
@[simp] theorem FH110_3(l k:Nat):ah T 110 (.hp l k) 3=some (.hp l (k+3)):=rfl
@[simp] theorem FA110_4(cs:List AV):ah T 110 (.ip cs) 4=some (.ip (cs.drop 5)):=rfl
@[simp] theorem FH110_4(l k:Nat):ah T 110 (.hp l k) 4=some (.hp l (k+5)):=rfl
@[simp] theorem FA110_5(cs:List AV):ah T 110 (.ip cs) 5=some (.ip (cs.drop 6)):=rfl
@[simp] theorem FH110_5(l k:Nat):ah T 110 (.hp l k) 5=some (.hp l (k+6)):=rfl
@[simp] theorem FA126_0(cs:List AV):ah T 126 (.ip cs) 0=some (.ip (cs.drop 0)):=rfl
@[simp] theorem FH126_0(l k:Nat):ah T 126 (.hp l k) 0=some (.hp l (k+0)):=rfl
@[simp] theorem FA126_1(cs:List AV):ah T 126 (.ip cs) 1=some (.ip (cs.drop 1)):=rfl
@[simp] theorem FH126_1(l k:Nat):ah T 126 (.hp l k) 1=some (.hp l (k+1)):=rfl
@[simp] theorem FA126_2(cs:List AV):ah T 126 (.ip cs) 2=some (.ip (cs.drop 2)):=rfl
@[simp] theorem FH126_2(l k:Nat):ah T 126 (.hp l k) 2=some (.hp l (k+2)):=rfl
@[simp] theorem FA133_0(cs:List AV):ah T 133 (.ip cs) 0=some (.ip (cs.drop 0)):=rfl
@[simp] theorem FH133_0(l k:Nat):ah T 133 (.hp l k) 0=some (.hp l (k+0)):=rfl
@[simp] theorem FA133_1(cs:List AV):ah T 133 (.ip cs) 1=some (.ip (cs.drop 1)):=rfl
@[simp] theorem FH133_1(l k:Nat):ah T 133 (.hp l k) 1=some (.hp l (k+1)):=rfl
@[simp] theorem FA133_2(cs:List AV):ah T 133 (.ip cs) 2=some (.ip (cs.drop 2)):=rfl
@[simp] theorem FH133_2(l k:Nat):ah T 133 (.hp l k) 2=some (.hp l (k+2)):=rfl
@[simp] theorem FA133_3(cs:List AV):ah T 133 (.ip cs) 3=some (.ip (cs.drop 3)):=rfl
@[simp] theorem FH133_3(l k:Nat):ah T 133 (.hp l k) 3=some (.hp l (k+3)):=rfl
@[simp] theorem FA133_4(cs:List AV):ah T 133 (.ip cs) 4=some (.ip (cs.drop 4)):=rfl
@[simp] theorem FH133_4(l k:Nat):ah T 133 (.hp l k) 4=some (.hp l (k+4)):=rfl
@[simp] theorem FA141_0(cs:List AV):ah T 141 (.ip cs) 0=some (.ip (cs.drop 0)):=rfl
@[simp] theorem FH141_0(l k:Nat):ah T 141 (.hp l k) 0=some (.hp l (k+0)):=rfl
@[simp] theorem FA141_1(cs:List AV):ah T 141 (.ip cs) 1=some (.ip (cs.drop 1)):=rfl
@[simp] theorem FH141_1(l k:Nat):ah T 141 (.hp l k) 1=some (.hp l (k+1)):=rfl
@[simp] theorem FA141_2(cs:List AV):ah T 141 (.ip cs) 2=some (.ip (cs.drop 2)):=rfl
@[simp] theorem FH141_2(l k:Nat):ah T 141 (.hp l k) 2=some (.hp l (k+2)):=rfl
@[simp] theorem FA154_0(cs:List AV):ah T 154 (.ip cs) 0=some (.ip (cs.drop 0)):=rfl
@[simp] theorem FH154_0(l k:Nat):ah T 154 (.hp l k) 0=some (.hp l (k+0)):=rfl
@[simp] theorem FA154_1(cs:List AV):ah T 154 (.ip cs) 1=some (.ip (cs.drop 1)):=rfl
@[simp] theorem FH154_1(l k:Nat):ah T 154 (.hp l k) 1=some (.hp l (k+1)):=rfl
@[simp] theorem FA166_0(cs:List AV):ah T 166 (.ip cs) 0=some (.ip (cs.drop 0)):=rfl
@[simp] theorem FH166_0(l k:Nat):ah T 166 (.hp l k) 0=some (.hp l (k+0)):=rfl
@[simp] theorem FA166_1(cs:List AV):ah T 166 (.ip cs) 1=some (.ip (cs.drop 1)):=rfl
@[simp] theorem FH166_1(l k:Nat):ah T 166 (.hp l k) 1=some (.hp l (k+1)):=rfl
@[simp] theorem FA166_2(cs:List AV):ah T 166 (.ip cs) 2=some (.ip (cs.drop 2)):=rfl
@[simp] theorem FH166_2(l k:Nat):ah T 166 (.hp l k) 2=some (.hp l (k+2)):=rfl
@[simp] theorem FA166_3(cs:List AV):ah T 166 (.ip cs) 3=some (.ip (cs.drop 3)):=rfl
@[simp] theorem FH166_3(l k:Nat):ah T 166 (.hp l k) 3=some (.hp l (k+3)):=rfl
@[simp] theorem FA166_4(cs:List AV):ah T 166 (.ip cs) 4=some (.ip (cs.drop 4)):=rfl
@[simp] theorem FH166_4(l k:Nat):ah T 166 (.hp l k) 4=some (.hp l (k+4)):=rfl
@[simp] theorem FA179_0(cs:List AV):ah T 179 (.ip cs) 0=some (.ip (cs.drop 0)):=rfl
@[simp] theorem FH179_0(l k:Nat):ah T 179 (.hp l k) 0=some (.hp l (k+0)):=rfl
@[simp] theorem FA179_1(cs:List AV):ah T 179 (.ip cs) 1=some (.ip (cs.drop 1)):=rfl
@[simp] theorem FH179_1(l k:Nat):ah T 179 (.hp l k) 1=some (.hp l (k+1)):=rfl
@[simp] theorem FA179_2(cs:List AV):ah T 179 (.ip cs) 2=some (.ip (cs.drop 2)):=rfl
@[simp] theorem FH179_2(l k:Nat):ah T 179 (.hp l k) 2=some (.hp l (k+2)):=rfl
@[simp] theorem FA189_0(cs:List AV):ah T 189 (.ip cs) 0=some (.ip (cs.drop 0)):=rfl
@[simp] theorem FH189_0(l k:Nat):ah T 189 (.hp l k) 0=some (.hp l (k+0)):=rfl
@[simp] theorem FA189_1(cs:List AV):ah T 189 (.ip cs) 1=some (.ip (cs.drop 1)):=rfl
@[simp] theorem FH189_1(l k:Nat):ah T 189 (.hp l k) 1=some (.hp l (k+1)):=rfl
@[simp] theorem FA189_2(cs:List AV):ah T 189 (.ip cs) 2=some (.ip (cs.drop 2)):=rfl
@[simp] theorem FH189_2(l k:Nat):ah T 189 (.hp l k) 2=some (.hp l (k+2)):=rfl
@[simp] theorem FA230_0(cs:List AV):ah T 230 (.ip cs) 0=some (.ip (cs.drop 0)):=rfl
@[simp] theorem FH230_0(l k:Nat):ah T 230 (.hp l k) 0=some (.hp l (k+0)):=rfl
@[simp] theorem LD3(x:AV)(l:List AV):ax T 3 (.ip (x:: l))=some x:=rfl
@[simp] theorem LD4(x:AV)(l:List AV):ax T 4 (.ip (x:: l))=some x:=rfl
@[simp] theorem LD9(x:AV)(l:List AV):ax T 9 (.ip (x:: l))=some x:=rfl
@[simp] theorem LD22(x:AV)(l:List AV):ax T 22 (.ip (x:: l))=some x:=rfl
@[simp] theorem LD23(x:AV)(l:List AV):ax T 23 (.ip (x:: l))=some x:=rfl
@[simp] theorem LD24(x:AV)(l:List AV):ax T 24 (.ip (x:: l))=some x:=rfl
@[simp] theorem LD28(x:AV)(l:List AV):ax T 28 (.ip (x:: l))=some x:=rfl
@[simp] theorem LD29(x:AV)(l:List AV):ax T 29 (.ip (x:: l))=some x:=rfl
@[simp] theorem LD30(x:AV)(l:List AV):ax T 30 (.ip (x:: l))=some x:=rfl
@[simp] theorem LD31(x:AV)(l:List AV):ax T 31 (.ip (x:: l))=some x:=rfl
@[simp] theorem LD33(cs:List AV):ax T 33 (.ip cs)=if 4<=cs.length then some (.agg (cs.take 4))else none:=rfl
@[simp] theorem LD34(x:AV)(l:List AV):ax T 34 (.ip (x:: l))=some x:=rfl
@[simp] theorem LD35(x:AV)(l:List AV):ax T 35 (.ip (x:: l))=some x:=rfl
@[simp] theorem LD37(cs:List AV):ax T 37 (.ip cs)=if 8<=cs.length then some (.agg (cs.take 8))else none:=rfl
@[simp] theorem LD39(cs:List AV):ax T 39 (.ip cs)=if 13<=cs.length then some (.agg (cs.take 13))else none:=rfl
@[simp] theorem LD46(cs:List AV):ax T 46 (.ip cs)=if 5<=cs.length then some (.agg (cs.take 5))else none:=rfl
@[simp] theorem LD49(x:AV)(l:List AV):ax T 49 (.ip (x:: l))=some x:=rfl
@[simp] theorem LD50(x:AV)(l:List AV):ax T 50 (.ip (x:: l))=some x:=rfl
@[simp] theorem LD51(x:AV)(l:List AV):ax T 51 (.ip (x:: l))=some x:=rfl
@[simp] theorem LD55(cs:List AV):ax T 55 (.ip cs)=if 9<=cs.length then some (.agg (cs.take 9))else none:=rfl
@[simp] theorem LD61(cs:List AV):ax T 61 (.ip cs)=if 2<=cs.length then some (.agg (cs.take 2))else none:=rfl
@[simp] theorem LD73(x:AV)(l:List AV):ax T 73 (.ip (x:: l))=some x:=rfl
@[simp] theorem LD75(cs:List AV):ax T 75 (.ip cs)=if 4<=cs.length then some (.agg (cs.take 4))else none:=rfl
@[simp] theorem LD77(cs:List AV):ax T 77 (.ip cs)=if 7<=cs.length then some (.agg (cs.take 7))else none:=rfl
@[simp] theorem LD79(x:AV)(l:List AV):ax T 79 (.ip (x:: l))=some x:=rfl
@[simp] theorem LD80(x:AV)(l:List AV):ax T 80 (.ip (x:: l))=some x:=rfl
@[simp] theorem LD91(x:AV)(l:List AV):ax T 91 (.ip (x:: l))=some x:=rfl
@[simp] theorem LD94(x:AV)(l:List AV):ax T 94 (.ip (x:: l))=some x:=rfl
@[simp] theorem LD101(cs:List AV):ax T 101 (.ip cs)=if 3<=cs.length then some (.agg (cs.take 3))else none:=rfl
@[simp] theorem LD106(cs:List AV):ax T 106 (.ip cs)=if 2<=cs.length then some (.agg (cs.take 2))else none:=rfl
@[simp] theorem LD108(cs:List AV):ax T 108 (.ip cs)=if 6<=cs.length then some (.agg (cs.take 6))else none:=rfl
@[simp] theorem LD110(cs:List AV):ax T 110 (.ip cs)=if 12<=cs.length then some (.agg (cs.take 12))else none:=rfl
@[simp] theorem LD133(cs:List AV):ax T 133 (.ip cs)=if 5<=cs.length then some (.agg (cs.take 5))else none:=rfl
@[simp] theorem LD141(cs:List AV):ax T 141 (.ip cs)=if 4<=cs.length then some (.agg (cs.take 4))else none:=rfl
@[simp] theorem LD154(cs:List AV):ax T 154 (.ip cs)=if 3<=cs.length then some (.agg (cs.take 3))else none:=rfl
@[simp] theorem LD164(x:AV)(l:List AV):ax T 164 (.ip (x:: l))=some x:=rfl
@[simp] theorem LD189(cs:List AV):ax T 189 (.ip cs)=if 3<=cs.length then some (.agg (cs.take 3))else none:=rfl
@[simp] theorem LD203(cs:List AV):ax T 203 (.ip cs)=if 14<=cs.length then some (.agg (cs.take 14))else none:=rfl
@[simp] theorem LD230(cs:List AV):ax T 230 (.ip cs)=if 3<=cs.length then some (.agg (cs.take 3))else none:=rfl
@[simp] theorem Tt(s:aW):bp T 9 (.str s)=some (.int .i64 s.length):=rfl
@[simp] theorem OT(es:List AV):bp T 22 (.sl es)=some (.int .i64 es.length):=rfl
@[simp] theorem TN:bp T 22 .hn=some (.int .i64 0):=rfl
@[simp] theorem Tx(l k n s:Nat)(a:Bool):bp T 22 (.hs l k n s a)=some (.int .i64 n):=rfl
@[simp] theorem Gf(l:List Mod):bp T 22 (mods l)=some (.int .i64 l.length):=(OT _).trans ZV
@[simp] theorem OU(es:List AV):bp T 23 (.sl es)=some (.int .i64 es.length):=rfl
@[simp] theorem TO:bp T 23 .hn=some (.int .i64 0):=rfl
@[simp] theorem Tz(l k n s:Nat)(a:Bool):bp T 23 (.hs l k n s a)=some (.int .i64 n):=rfl
@[simp] theorem nf(l:List Val):bp T 23 (vals l)=some (.int .i64 l.length):=(OU _).trans (by simp[dT])
@[simp] theorem OV(es:List AV):bp T 24 (.sl es)=some (.int .i64 es.length):=rfl
@[simp] theorem TP:bp T 24 .hn=some (.int .i64 0):=rfl
@[simp] theorem TA(l k n s:Nat)(a:Bool):bp T 24 (.hs l k n s a)=some (.int .i64 n):=rfl
@[simp] theorem nh(l:List Int):bp T 24 (ints l)=some (.int .i64 l.length):=(OV _).trans ZV
@[simp] theorem OW(es:List AV):bp T 28 (.sl es)=some (.int .i64 es.length):=rfl
@[simp] theorem TR:bp T 28 .hn=some (.int .i64 0):=rfl
@[simp] theorem TB(l k n s:Nat)(a:Bool):bp T 28 (.hs l k n s a)=some (.int .i64 n):=rfl
@[simp] theorem Tu(l:List Vars):bp T 28 (aN l)=some (.int .i64 l.length):=(OW _).trans ZV
@[simp] theorem V7(es:List AV):bp T 29 (.sl es)=some (.int .i64 es.length):=rfl
@[simp] theorem TS:bp T 29 .hn=some (.int .i64 0):=rfl
@[simp] theorem TC(l k n s:Nat)(a:Bool):bp T 29 (.hs l k n s a)=some (.int .i64 n):=rfl
@[simp] theorem OX(es:List AV):bp T 31 (.sl es)=some (.int .i64 es.length):=rfl
@[simp] theorem TU:bp T 31 .hn=some (.int .i64 0):=rfl
@[simp] theorem TD(l k n s:Nat)(a:Bool):bp T 31 (.hs l k n s a)=some (.int .i64 n):=rfl
@[simp] theorem iB(l:List aW):bp T 31 (strs l)=some (.int .i64 l.length):=(OX _).trans ZV
@[simp] theorem OY(es:List AV):bp T 34 (.sl es)=some (.int .i64 es.length):=rfl
@[simp] theorem TV:bp T 34 .hn=some (.int .i64 0):=rfl
@[simp] theorem TE(l k n s:Nat)(a:Bool):bp T 34 (.hs l k n s a)=some (.int .i64 n):=rfl
@[simp] theorem Tv(l:List Deed):bp T 34 (deeds l)=some (.int .i64 l.length):=(OY _).trans ZV
@[simp] theorem OZ(es:List AV):bp T 35 (.sl es)=some (.int .i64 es.length):=rfl
@[simp] theorem TW:bp T 35 .hn=some (.int .i64 0):=rfl
@[simp] theorem TF(l k n s:Nat)(a:Bool):bp T 35 (.hs l k n s a)=some (.int .i64 n):=rfl
@[simp] theorem Tw(l:List Ap.Call):bp T 35 (Ap.calls l)=some (.int .i64 l.length):=(OZ _).trans ZV
@[simp] theorem O0(es:List AV):bp T 49 (.sl es)=some (.int .i64 es.length):=rfl
@[simp] theorem TX:bp T 49 .hn=some (.int .i64 0):=rfl
@[simp] theorem TG(l k n s:Nat)(a:Bool):bp T 49 (.hs l k n s a)=some (.int .i64 n):=rfl
@[simp] theorem ni(l:List fF):bp T 49 (ck l)=some (.int .i64 l.length):=(O0 _).trans (by simp[kL])
@[simp] theorem O1(es:List AV):bp T 50 (.sl es)=some (.int .i64 es.length):=rfl
@[simp] theorem TY:bp T 50 .hn=some (.int .i64 0):=rfl
@[simp] theorem TH(l k n s:Nat)(a:Bool):bp T 50 (.hs l k n s a)=some (.int .i64 n):=rfl
@[simp] theorem qH(l:List Exp):bp T 50 (dF l)=some (.int .i64 l.length):=(O1 _).trans (by simp[kJ])
@[simp] theorem O2(es:List AV):bp T 51 (.sl es)=some (.int .i64 es.length):=rfl
@[simp] theorem TZ:bp T 51 .hn=some (.int .i64 0):=rfl
@[simp] theorem TJ(l k n s:Nat)(a:Bool):bp T 51 (.hs l k n s a)=some (.int .i64 n):=rfl
@[simp] theorem Gg(l:List Fun):bp T 51 (iP l)=some (.int .i64 l.length):=(O2 _).trans ZV
@[simp] theorem V8(es:List AV):bp T 73 (.sl es)=some (.int .i64 es.length):=rfl
@[simp] theorem T0:bp T 73 .hn=some (.int .i64 0):=rfl
@[simp] theorem TL(l k n s:Nat)(a:Bool):bp T 73 (.hs l k n s a)=some (.int .i64 n):=rfl
@[simp] theorem V9(es:List AV):bp T 91 (.sl es)=some (.int .i64 es.length):=rfl
@[simp] theorem T4:bp T 91 .hn=some (.int .i64 0):=rfl
@[simp] theorem TM(l k n s:Nat)(a:Bool):bp T 91 (.hs l k n s a)=some (.int .i64 n):=rfl
@[simp] theorem Tr(es:List AV):bp T 115 (.sl es)=some (.int .i64 es.length):=rfl
@[simp] theorem SY:bp T 115 .hn=some (.int .i64 0):=rfl
@[simp] theorem SU(l k n s:Nat)(a:Bool):bp T 115 (.hs l k n s a)=some (.int .i64 n):=rfl
@[simp] theorem Ts(es:List AV):bp T 231 (.sl es)=some (.int .i64 es.length):=rfl
@[simp] theorem SZ:bp T 231 .hn=some (.int .i64 0):=rfl
@[simp] theorem SX(l k n s:Nat)(a:Bool):bp T 231 (.hs l k n s a)=some (.int .i64 n):=rfl
def Et{l:List Mod}{n:Int}(h0:0<=n)(h:n<(l.length:Int)):aA T 22 (mods l) (.int .i64 n)=some (.ip (aa (Mod.av l[n.toNat]!))):=br (T:=T) (t:=22) (e:=55) rfl rfl rfl (fun _=>by first|rfl|(simp;done)|(simp;rfl)) h0 h
def qG{l:List Val}{n:Int}(h0:0<=n)(h:n<(l.length:Int)):aA T 23 (vals l) (.int .i64 n)=some (.ip (aa (Val.av l[n.toNat]!))):=by rw[vals,dT];exact br (T:=T) (t:=23) (e:=33) rfl rfl rfl (fun _=>by first|rfl|(simp;done)|(simp;rfl)) h0 h
def I9{l:List Int}{n:Int}(h0:0<=n)(h:n<(l.length:Int)):aA T 24 (ints l) (.int .i64 n)=some (.ip (aa (AV.int .i64 l[n.toNat]!))):=br (T:=T) (t:=24) (e:=3) rfl rfl rfl (fun _=>by first|rfl|(simp;done)|(simp;rfl)) h0 h
def pI{l:List aW}{n:Int}(h0:0<=n)(h:n<(l.length:Int)):aA T 31 (strs l) (.int .i64 n)=some (.ip (aa (AV.str l[n.toNat]!))):=br (T:=T) (t:=31) (e:=9) rfl rfl rfl (fun _=>by first|rfl|(simp;done)|(simp;rfl)) h0 h
def To{l:List Deed}{n:Int}(h0:0<=n)(h:n<(l.length:Int)):aA T 34 (deeds l) (.int .i64 n)=some (.ip (aa (Deed.av l[n.toNat]!))):=br (T:=T) (t:=34) (e:=101) rfl rfl rfl (fun _=>by first|rfl|(simp;done)|(simp;rfl)) h0 h
def Tq{l:List Ap.Call}{n:Int}(h0:0<=n)(h:n<(l.length:Int)):aA T 35 (Ap.calls l) (.int .i64 n)=some (.ip (aa (Ap.Call.av l[n.toNat]!))):=br (T:=T) (t:=35) (e:=126) rfl rfl rfl (fun _=>by first|rfl|(simp;done)|(simp;rfl)) h0 h
def xR{l:List fF}{n:Int}(h0:0<=n)(h:n<(l.length:Int)):aA T 49 (ck l) (.int .i64 n)=some (.ip (aa (dV l[n.toNat]!))):=by rw[ck,kL];exact br (T:=T) (t:=49) (e:=154) rfl rfl rfl (fun _=>by first|rfl|(simp;done)|(simp;rfl)) h0 h
theorem oB{l:List Exp}{n:Int}(h0:0<=n)(h:n<(l.length:Int)):aA T 50 (dF l) (.int .i64 n)=some (.ip (aa (Exp.av l[n.toNat]!))):=by rw[dF,kJ];exact br (T:=T) (t:=50) (e:=108) rfl rfl rfl (fun _=>by first|rfl|(simp;done)|(simp;rfl)) h0 h
theorem Eu{l:List Fun}{n:Int}(h0:0<=n)(h:n<(l.length:Int)):aA T 51 (iP l) (.int .i64 n)=some (.ip (aa (Fun.av l[n.toNat]!))):=br (T:=T) (t:=51) (e:=110) rfl rfl rfl (fun _=>by first|rfl|(simp;done)|(simp;rfl)) h0 h
def I7{a b:List Val}(h:(a.length+b.length)*64<=140737488355328):dJ T 23 (vals a) (vals b)=some (vals (a++b)):=by
 have:=lL (T:=T) (t:=23) (e:=33) rfl rfl rfl (f:=Val.av) (fun _=>by first|rfl|(simp;done)|(simp;rfl)) (a:=a) (b:=b) h ZT
 simpa [vals,dT]using this
def OO{a b:List Int}(h:(a.length+b.length)*8<=140737488355328):dJ T 24 (ints a) (ints b)=some (ints (a++b)):=by
 have:=lL (T:=T) (t:=24) (e:=3) rfl rfl rfl (f:=AV.int .i64) (fun _=>by first|rfl|(simp;done)|(simp;rfl)) (a:=a) (b:=b) h ZT
 simpa [ints]using this
def Tl{a b:List Vars}(h:(a.length+b.length)*40<=140737488355328):dJ T 28 (aN a) (aN b)=some (aN (a++b)):=by
 have:=lL (T:=T) (t:=28) (e:=61) rfl rfl rfl (f:=Vars.av) (fun _=>by first|rfl|(simp;done)|(simp;rfl)) (a:=a) (b:=b) h ZT
 simpa [aN]using this
def I8{a b:List aW}(h:(a.length+b.length)*16<=140737488355328):dJ T 31 (strs a) (strs b)=some (strs (a++b)):=by
 have:=lL (T:=T) (t:=31) (e:=9) rfl rfl rfl (f:=AV.str) (fun _=>by first|rfl|(simp;done)|(simp;rfl)) (a:=a) (b:=b) h ZT
 simpa [strs]using this
@[simp] theorem QF(t:Nat)(a b:Int):cF T .geq t (.int .u8 a) (.int .u8 b)=some (.bool (decide (b<=a))):=rfl
@[simp] theorem QG(t:Nat)(a b:Int):cF T .leq t (.int .u8 a) (.int .u8 b)=some (.bool (decide (a<=b))):=rfl
@[simp] theorem Tj(t:Nat)(a b:aW):cF T .leq t (.str a) (.str b)=some (.bool (bU a b||a== b)):=rfl
def J3(f:AV)(F:fF->Bool)(l:List fF)(hb:l.length<=4611686018427387904)(hf:∀x∈l,cU (af pg) f [dV x]=ao (.bool (F x))):∀(n:Nat)(i:Int),l.length-i.toNat=n->0<=i->i<=l.length->
  ak (L175_0 (af pg) ak) [ck l,f,.int .i64 l.length,.int .i64 i]=ao (.int .i64 (aY F (l.drop i.toNat) i)):=by
 intro n
 induction n with
 |zero=>
  intro i hn hi hl;rw[FL175_0];simp only[L175_0];have h1:¬(i<(l.length:Int)):=ZS
  have h2:l.drop i.toNat=[]:=List.drop_eq_nil_of_le ZS;simp[h1,h2,aY]
 |succ n ih=>
  intro i hn hi hl;have h1:i<(l.length:Int):=ZS
  have hlt:i.toNat<l.length:=ZS
  have h2:aY F (l.drop i.toNat) i=if F l[i.toNat]=true then i else aY F (l.drop (i.toNat+1)) (i+1):=by rw[List.drop_eq_getElem_cons hlt];rfl
  have h3:=hf l[i.toNat] (XG hlt);have h4:=ih (i+1) ZS ZS ZS;rw[show (i+1).toNat=i.toNat+1 by omega]at h4;rw[FL175_0];simp only[L175_0];simp (disch:=omega) [h1,aM,xR,h3,h2];simp_all
def t175(f:AV)(F:fF->Bool)(l:List fF)(hb:l.length<=4611686018427387904)(hc:∀g,cl g f=f)(hf:∀x∈l,cU (af pg) f [dV x]=ao (.bool (F x))):af pg 175 [ck l,f]=ao (.int .i64 (aY F l 0)):=by
 rw[C175];simp[S175,hc,J3 f F l hb hf l.length 0 rfl ZS ZS]
def t119(b:UInt8):af pg 119 [.int .u8 b.toNat]=ao (.bool (s7 b)):=by
 rw[C119];have e:decide ((b.toNat:Int)<=122)=decide (b.toNat<=122):=Yr.2 ZS;have e2:decide (97<=(b.toNat:Int))=decide (97<=b.toNat):=Yr.2 ZS;simp[S119,s7,e,e2]
def t121(b:UInt8):af pg 121 [.int .u8 b.toNat]=ao (.bool (B7 b)):=by
 rw[C121];have e:decide ((b.toNat:Int)<=57)=decide (b.toNat<=57):=Yr.2 ZS;have e2:decide (48<=(b.toNat:Int))=decide (48<=b.toNat):=Yr.2 ZS;simp[S121,B7,e,e2]
def t164(b:UInt8):af pg 164 [.int .u8 b.toNat]=ao (.bool (tw b)):=by
 simp_all[C164,S164,t119,t121,tw]
theorem KV{s:aW}{i:Nat}(h:i<s.length):jb T 9 (.str s) (.int .i64 (i:Int))=some (.int .u8 (s[i].toNat:Int)):=by
 have e1:jb T 9 (.str s) (.int .i64 (i:Int))=(if(i:Int)<0 then none else s[(i:Int).toNat]?.map fun b=>.int .u8 b.toNat):=rfl
 grind
def NI(F:UInt8->Bool)(f:AV)(s:aW)(hb:s.length<=4611686018427387904)(hf:∀b:UInt8,cU (af pg) f [.int .u8 b.toNat]=ao (.bool (F b))):∀(n i:Nat),s.length-i=n->i<=s.length->
  ak (L58_0 (af pg) ak) [.str s,f,.int .i64 i]=ao (.int .i64 ((i+((s.drop i).takeWhile F).length:Nat):Int)):=by
 intro n
 induction n with
 |zero=>
  intro i hn hi;rw[FL58_0];simp only[L58_0];have h1:¬((i:Int)<(s.length:Int)):=ZS
  have h2:s.drop i=[]:=List.drop_eq_nil_of_le ZS;simp[h1,h2]
 | succ n ih=>
  intro i hn hi;have hlt:i<s.length:=ZS
  have h1:(i:Int)<(s.length:Int):=ZS
  have h2:s.drop i=s[i]:: s.drop (i+1):=List.drop_eq_getElem_cons hlt;have h4:=ih (i+1) ZS ZS;have hw:IntKind.i64.wrap ((i:Int)+1)=((i+1:Nat):Int):=aZ ZS;rw[FL58_0];simp only[L58_0,am,ar,Tt,ae,aB,h1,XY,bv,KV hlt,hf,aj,cz,ai,bm,hw,h4,h2,List.takeWhile_cons];cases F s[i]
  ·simp
  ·rw[Xv rfl,Xv rfl];congr 3
   grind
def t122(s:aW):af pg 122 [.str s]=ao (.bool (sL s)):=by
 rw[C122];by_cases hs:s=[]
 ·subst hs;simp[S122,sL]
 ·have hs':(s== [])=false:=YW.2 hs;have hpos:0<s.length:=Yp.2 hs;have h0:=KV (s:=s) (i:=0) hpos;have hd:s[0]=s.headD 0:=by cases s with|nil=>grind|cons c s=>rfl
  rw[hd]at h0;simp at h0;by_cases hl:s.length<=20
  ·have h1:=NI tw (.fn (.func 164) [] []) s ZS (fun b=>t164 b) s.length 0 ZV ZV;have hsp:af pg 58 [.str s,.fn (.func 164) [] []]=ao (.int .i64 (((s.takeWhile tw).length:Nat):Int)):=by
    rw[C58];simp only[S58,cl,fp];rw[show (AV.int .i64 0)=AV.int .i64 ((0:Nat):Int)from rfl,h1];simp
   have e1:decide (20<(s.length:Int))=false:=by rw[X2];omega
   have e3:decide (20<s.length)=false:=by rw[X2];omega
   have e4:decide (s.length<=20)=true:=by simpa using hl
   simp[S122,hs',h0,t119,hsp,e1,e3,e4,sL]
  ·have e1:decide (20<(s.length:Int))=true:=by rw[Xt];omega
   have e3:decide (20<s.length)=true:=by rw[Xt];omega
   have e4:decide (s.length<=20)=false:=by simpa using hl
   simp[S122,hs',h0,t119,e1,e3,e4,sL]
def t143(s:aW):af pg 143 [.str ot,.str s]=ao (.bool (Lib.contains ot s)):=by
 rw[d9 g8 (E:=lN) rfl];rfl
theorem Eo(t:Nat)(a b:aW):cF T .add t (.str a) (.str b)=if a.length+b.length<=4611686018427387904 then some (.str (a++b))else none:=rfl
def t88(s:aW):af pg 88 [.str s]=ao (.bool (cq s)):=by
 rw[C88];have h1:=t122 s;unfold cq;cases hw:sL s with
 |false=>
  rw[hw]at h1;simp[S88,h1]
 |true=>
  have hl:=F0 hw;rw[hw]at h1;have h2:=t143 ([32]++s++[32]);unfold ot at h2;have e1:cF T .add 9 (.str [32]) (.str s)=some (.str ([32]++s)):=by rw[Eo,Xv ZX]
  have e2:cF T .add 9 (.str ([32]++s)) (.str [32])=some (.str ([32]++s++[32])):=by rw[Eo,Xv ZX]
  simp only[S88,MY,h1,aj,bv,e1,ae,e2,h2,bi,am,cz,fA,Yw];rfl
def JX{t:Ty}(h:t.Lim)(k:Nat)(hk:k<t.fields.length):(t.fields[k]!).2.Lim:=by
 rw[Xx t.fields k hk];exact h.kid (XG hk)
theorem t144:∀(d:Nat),d<=4->∀(t:Ty),t.Lim->af pg 144 [t.av,.int .i64 d]=ao (.bool (gQ d t))
 |0,_,t,_=>by
  rw[C144];simp[S144,gQ]
 | d + 1,hd,t,ht=>by
  have ih:=t144 d ZS;have hlen:=ht.len;have hd1:IntKind.i64.wrap ((((d+1:Nat)):Int)-1)=(d:Int):=xN ZS;have hloop:=pW (F:=L144_0 (af pg) ak) (FL144_0 (af pg)) (fun k=>[.int .i64 ((d+1:Nat):Int),.ip (aa t.av),ck t.fields,.int .i64 t.fields.length,.int .i64 k]) t.fields.length
   (fun k=>(cq (t.fields[k]!).1&&gQ d (t.fields[k]!).2)&&(decide (k=0)||eE (t.fields[k-1]!).1 (t.fields[k]!).1))
   (by simp[L144_0]) (fun k hk=>by
    have h1:(k:Int)<(t.fields.length:Int):=ZS
    have hix:=xR (l:=t.fields) (n:=(k:Int)) ZS h1;rw[XC]at hix;have hm:t.fields[k]! ∈t.fields:=by rw[Xx t.fields k hk];exact XG hk
    have h2:=t88 (t.fields[k]!).1;have h3:=ih (t.fields[k]!).2 (JX ht k hk);have hw:IntKind.i64.wrap ((k:Int)+1)=(k:Int)+1:=by rw[aZ ZS];simp
    have hd0:IntKind.i64.wrap (d:Int)=(d:Int):=IX ZS;generalize t.fields[k]! = f at hix h2 h3 hm |-;rcases Yc k with hk0|hk0
    ·subst hk0;have hix0:aA T 49 (ck t.fields) (.int .i64 0)=some (.ip (aa (dV f))):=hix;have hw0:IntKind.i64.wrap 1=1:=rfl;simp[L144_0,hix0,h2,h3,hw0,hd0,hk];cases cq f.1<;>cases gQ d f.2<;>simp
    ·have hp:IntKind.i64.wrap ((k:Int)-1)=((k-1:Nat):Int):=by
      rw[aM ZS ZS];omega
     have h4:((k-1:Nat):Int)<(t.fields.length:Int):=ZS
     have hix2:=xR (l:=t.fields) (n:=((k-1:Nat):Int)) ZS h4;rw[XC]at hix2;generalize t.fields[k-1]! = g at hix2 |-;have hk1:¬k=0:=ZS
     simp[L144_0,h1,hix,h2,h3,hw,hd0,hp,hix2,hk0,hk1,hk];cases cq f.1<;>simp
     grind [eE]) 0 (XN _)
  have hall:((List.range' 0 t.fields.length).all fun k=>(cq (t.fields[k]!).1&&gQ d (t.fields[k]!).2)&&(decide (k=0)||eE (t.fields[k-1]!).1 (t.fields[k]!).1))=(t.fields.all (fun f=>cq f.1&&gQ d f.2)&&oY (fun a b=>eE a.1 b.1) t.fields):=
   xY (fun f:fF=>cq f.1&&gQ d f.2) (fun a b=>eE a.1 b.1) t.fields
  rw[Y5,hall]at hloop;rw[C144];have h0:¬((d:Int)+1=0):=ZS
  have hl2:ak (L144_0 (af pg) ak) [.int .i64 ((d:Int)+1),.ip [.int .i64 t.kind,ck t.fields],ck t.fields,.int .i64 t.fields.length,.int .i64 0]=ao (.bool (t.fields.all (fun f=>cq f.1&&gQ d f.2)&&oY (fun a b=>eE a.1 b.1) t.fields)):=by
   simpa using hloop
  have hR:gQ (d+1) t=if((t.kind<0\/3<=t.kind)\/8<(t.fields.length:Int))\/¬t.kind=2/\0<t.fields.length then false else(t.fields.all (fun f=>cq f.1&&gQ d f.2)&&oY (fun a b=>eE a.1 b.1) t.fields):=by
   rw[A5];generalize (t.fields.all (fun f=>cq f.1&&gQ d f.2)&&oY (fun a b=>eE a.1 b.1) t.fields)=q;generalize t.fields.length=n;generalize t.kind=k;split
   ·grind
   ·grind
  rw[hR];simp[S144,h0,hl2]
def t90(t:Ty)(ht:t.Lim):af pg 90 [t.av]=ao (.bool (jV t)):=by
 rw[C90];have:af pg 144 [t.av,.int .i64 4]=ao (.bool (gQ 4 t)):=t144 4 ZS t ht;simp[S90,this]
@[simp] theorem ML(t:Nat)(a b:Int):cF T .andNot t (.int .i64 a) (.int .i64 b)=some (.int .i64 (mD a b)):=rfl
end
end Go.Proofs.YtbndmpiddinalabGreatDoor
