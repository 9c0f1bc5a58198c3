/- What the functions compute, part 4. Conditions: bounds. -/
import Derived.Test.YtighgcgmocboaaaGreatDoorTc
import Derived.Shelf.SlSortCmp.NoneTotal
import Derived.Test.YtighgcgmocboaaaGreatDoorRows
import Derived.Lib.LaidTab
import Derived.Stop.LaidErr
import Derived.Shelf.Vars
import Derived.ProofKit
import Derived.Deep.DeepHandedRow
import Derived.Deep.DeepWitnessRowRef
import Derived.Deep.DeepLaidRun
set_option linter.defProp false
set_option linter.unusedSimpArgs false
set_option linter.unusedVariables false
namespace Go.Proofs.YtighgcgmocboaaaGreatDoor
open Go Go.Av Go.Av.Ap
set_option maxRecDepth 100000
noncomputable section
def L5_0(call:CC)(fx:bi AV)(a:RR)(b:List AV):M AV:=bB 29 (aa b 0) 4 25 fun c=>df 25 c fun d=>bq .lss 3 (aa b 1) d fun e=>dD e (bX .lss 3 (aa b 1) (qi 7) fun f=>am [f]) fun g=>aD g (bB 29 (aa b 0) 4 25 fun h=>rZ 25 h (aa b 1) fun i=>bB 58 i 2 23 fun j=>ap (call 24 [j]) fun k=>ib UnOp.not k fun l=>dz l (bU 29 (aa b 0) 4 25 fun m=>Ft 25 m (aa b 1) fun n=>bU 58 n 3 35 fun o=>ap (call 25 [o]) fun p=>kI UnOp.not p fun q=>am [q]) fun r=>dz r (bU 29 (aa b 0) 4 25 fun s=>Ft 25 s (aa b 1) fun u=>bU 58 u 5 56 fun v=>ap (call 26 [v]) fun w=>kI UnOp.not w fun x=>am [x]) fun y=>aD y (am (.bool false)) (bq .add 3 (aa b 1) (qi 1) fun z=>a [aa b 0,z])) (bB 29 (aa b 0) 4 25 fun A=>df 25 A fun B=>bq .leq 3 B (qi 6) fun C=>dD C (bU 29 (aa b 0) 1 22 fun D=>jz 22 D fun E=>bX .leq 3 E (qi 6) fun F=>am [F]) fun G=>dD G (bU 29 (aa b 0) 2 23 fun H=>ap (call 24 [H]) fun I=>am [I]) fun J=>dD J (bU 29 (aa b 0) 3 24 fun K=>ap (call 27 [K]) fun L=>am [L]) fun N=>dD N (AK 29 (aa b 0) 6 fun O=>bU 27 O 0 23 fun P=>ap (call 24 [P]) fun Q=>am [Q]) fun R=>dD R (AK 29 (aa b 0) 6 fun S=>bU 27 S 1 24 fun U=>ap (call 27 [U]) fun V=>am [V]) fun W=>dD W (AK 29 (aa b 0) 6 fun X=>bU 27 X 2 24 fun Y=>ap (call 27 [Y]) fun Z=>am [Z]) fun u0=>am u0)
def FL5_0(call:CC):FW (L5_0 call ak):=fZ
def S5(call:CC)(fx:bi AV)(a0:AV):M AV:=fx (L5_0 call fx) [qc a0,qi 0]
def C5(a0:AV):ab pg 5 [a0]=aP (S5 (ab pg) ak (cl aA a0)):=cY
def L7_0(call:CC)(fx:bi AV)(a:RR)(b:List AV):M AV:=bB 37 (aa b 0) 1 33 fun c=>df 33 c fun d=>bq .lss 3 (aa b 1) d fun e=>dD e (bX .lss 3 (aa b 1) (qi 9) fun f=>am [f]) fun g=>aD g (bB 37 (aa b 0) 1 33 fun h=>ji 33 h (aa b 1) 35 fun i=>ap (call 25 [i]) fun j=>ib UnOp.not j fun k=>aD k (am (.bool false)) (bq .add 3 (aa b 1) (qi 1) fun l=>a [aa b 0,l])) (bB 37 (aa b 0) 1 33 fun m=>df 33 m fun n=>bq .leq 3 n (qi 8) fun o=>dD o (bU 37 (aa b 0) 2 35 fun p=>ap (call 25 [p]) fun q=>am [q]) fun r=>am r)
def FL7_0(call:CC):FW (L7_0 call ak):=fZ
def S7(call:CC)(fx:bi AV)(a0:AV):M AV:=fx (L7_0 call fx) [qc a0,qi 0]
def C7(a0:AV):ab pg 7 [a0]=aP (S7 (ab pg) ak (cl aA a0)):=cY
def L9_0(call:CC)(fx:bi AV)(a:RR)(b:RR)(c:List AV):M AV:=bB 37 (aa c 3) 1 33 fun d=>df 33 d fun e=>dU .lss 3 (aa c 4) e (bB 37 (aa c 3) 1 33 fun f=>ji 33 f (aa c 4) 35 fun g=>ap (call 35 [g]) fun h=>bq .add 9 (aa c 1) h fun i=>bq .add 3 (aa c 4) (qi 1) fun j=>b [aa c 0,i,aa c 2,aa c 3,j]) (bB 37 (aa c 3) 2 35 fun k=>ap (bH (call 35 [k])) fun l=>bq .add 9 (aa c 1) l fun m=>bB 37 (aa c 3) 3 3 fun n=>ap (bH (call 34 [n])) fun o=>bq .add 9 m o fun p=>bq .add 3 (aa c 2) (qi 1) fun q=>a [aa c 0,p,q])
def L9_1(call:CC)(fx:bi AV)(a:RR)(b:List AV):M AV:=bB 32 (aa b 0) 1 30 fun c=>df 30 c fun d=>dU .lss 3 (aa b 2) d (bB 32 (aa b 0) 1 30 fun e=>ji 30 e (aa b 2) 37 fun f=>mP 5 f fun g=>bB 37 (qc g) 0 9 fun h=>ap (bH (call 33 [h])) fun i=>bq .add 9 (aa b 1) i fun j=>bB 37 (qc g) 1 33 fun k=>df 33 k fun l=>ap (bH (call 34 [l])) fun m=>bq .add 9 j m fun n=>fx (L9_0 call fx a) [aa b 0,n,aa b 2,qc g,qi 0]) (am (.tup [aa b 1,qi 0]))
def FL9_0(call:CC)(a:RR):FW (L9_0 call ak a):=fZ
def FL9_1(call:CC):FW (L9_1 call ak):=fZ
def S9(call:CC)(fx:bi AV)(a0:AV):M AV:=jf 32 (qc a0) fun a=>ap (call 17 [a]) fun b=>ib UnOp.not b fun c=>aD c (am (.tup [.str [],qi 1])) (bB 32 (qc a0) 0 9 fun d=>ap (bH (call 33 [d])) fun e=>bB 32 (qc a0) 1 30 fun f=>df 30 f fun g=>ap (bH (call 34 [g])) fun h=>bq .add 9 e h fun i=>fx (L9_1 call fx) [qc a0,i,qi 0])
def C9(a0:AV):ab pg 9 [a0]=aP (S9 (ab pg) ak (cl aA a0)):=cY
def L14_0(call:CC)(fx:bi AV)(a:RR)(b:List AV):M AV:=bB 32 (aa b 0) 1 30 fun c=>df 30 c fun d=>dU .lss 3 (aa b 2) d (bB 32 (aa b 0) 1 30 fun e=>ji 30 e (aa b 2) 37 fun f=>bB 32 (aa b 1) 1 30 fun g=>ji 30 g (aa b 2) 37 fun h=>ap (bH (call 15 [f,h])) fun i=>ib UnOp.not i fun j=>aD j (am (.bool false)) (bq .add 3 (aa b 2) (qi 1) fun k=>a [aa b 0,aa b 1,k])) (am (.bool true))
def FL14_0(call:CC):FW (L14_0 call ak):=fZ
def S14(call:CC)(fx:bi AV)(a0 a1:AV):M AV:=bB 32 (qc a0) 0 9 fun a=>bB 32 (qc a1) 0 9 fun b=>bq .neq 9 a b fun c=>dz c (bU 32 (qc a0) 1 30 fun d=>jz 30 d fun e=>bU 32 (qc a1) 1 30 fun f=>jz 30 f fun g=>bX .neq 3 e g fun h=>am [h]) fun i=>aD i (am (.bool false)) (fx (L14_0 call fx) [qc a0,qc a1,qi 0])
def C14(a0 a1:AV):ab pg 14 [a0,a1]=aP (S14 (ab pg) ak (cl aA a0) (cl aA a1)):=cY
def L16_0(call:CC)(fx:bi AV)(a:RR)(b:List AV):M AV:=dU .lss 3 (aa b 3) (aa b 2) (ji 30 (aa b 1) (aa b 3) 37 fun c=>mP 5 c fun d=>jf 37 (qc d) fun e=>ap (bH (call 52 [e])) fun f=>ib UnOp.not f fun g=>ap (bc g false 1 (bX .gtr 3 (aa b 3) (qi 0) fun h=>am [h])) fun i=>ap (bc (aa i 0) true 1 (bU 32 (aa b 0) 1 30 fun j=>bX .sub 3 (aa b 3) (qi 1) fun k=>Ft 30 j k fun l=>bU 37 l 0 9 fun m=>bU 37 (qc d) 0 9 fun n=>bX .geq 9 m n fun o=>am [o])) fun p=>dz g (yn (aa i 0) (aa p 0) (.bool false) fun q=>am [q]) fun r=>aD r (am (.bool false)) (bq .add 3 (aa b 3) (qi 1) fun s=>a (kO b [s]))) (am (.bool true))
def FL16_0(call:CC):FW (L16_0 call ak):=fZ
def S16(call:CC)(fx:bi AV)(a0:AV):M AV:=bB 32 (qc a0) 0 9 fun a=>ap (call 51 [a]) fun b=>ib UnOp.not b fun c=>dz c (bU 32 (qc a0) 1 30 fun d=>jz 30 d fun e=>bX .gtr 3 e (qi 30) fun f=>am [f]) fun g=>aD g (am (.bool false)) (bB 32 (qc a0) 1 30 fun h=>df 30 h fun i=>fx (L16_0 call fx) [qc a0,h,i,qi 0])
def C16(a0:AV):ab pg 16 [a0]=aP (S16 (ab pg) ak (cl aA a0)):=cY
def K19_0(call:CC)(fx:bi AV)(a:RR)(b:List AV):M AV:=bq .add 3 (aa b 1) (qi 1) fun c=>a [aa b 0,c,aa b 2,aa b 3,aa b 4,aa b 5]
def L19_0(call:CC)(fx:bi AV)(a:RR)(b:RR)(c:List AV):M AV:=bq .gtr 3 (aa c 2) (qi 0) fun d=>dD d (bX .sub 3 (aa c 2) (qi 1) fun e=>Ft 30 (aa c 6) e fun f=>AK 37 f 0 fun g=>LR 9 g fun h=>bX .gtr 9 h (aa c 7) fun i=>am [i]) fun j=>aD j (bq .sub 3 (aa c 2) (qi 1) fun k=>rZ 30 (aa c 6) k fun l=>pF 37 l fun m=>rZ 30 (aa c 6) (aa c 2) fun n=>zq 37 n m fun o=>bq .sub 3 (aa c 2) (qi 1) fun p=>b [aa c 0,aa c 1,p,aa c 3,aa c 4,aa c 5,aa c 6,aa c 7,aa c 8,aa c 9,aa c 10,aa c 11]) (rZ 30 (aa c 6) (aa c 2) fun q=>zq 37 q (.agg [aa c 7,aa c 8,aa c 9,aa c 10,aa c 11]) fun r=>a [aa c 0,aa c 1,aa c 3,aa c 4,aa c 5,aa c 6])
def L19_1(call:CC)(fx:bi AV)(a:RR)(b:RR)(c:List AV):M AV:=bB 58 (aa c 2) 2 23 fun d=>df 23 d fun e=>dU .lss 3 (aa c 3) e (bB 58 (aa c 2) 2 23 fun f=>rZ 23 f (aa c 3) fun g=>bB 54 g 1 35 fun h=>AQ 33 1 [(0,h)] fun i=>ap (bF (fB T 33 (aa c 9) i)) fun j=>r7 j fun k=>bq .add 3 (aa c 3) (qi 1) fun l=>b (kO c [l,aa c 4,aa c 5,aa c 6,aa c 7,aa c 8,j,aa c 10,aa c 11,aa c 12])) (df 30 (aa c 7) fun m=>AQ 30 1 [(0,.agg [aa c 8,aa c 9,aa c 10,aa c 11,aa c 12])] fun n=>ap (appH T 30 false (aa c 7) n) fun o=>r7 o fun p=>fx (L19_0 call fx a) [aa c 0,aa c 1,m,aa c 4,aa c 5,aa c 6,o,aa c 8,aa c 9,aa c 10,aa c 11,aa c 12])
def L19_2(call:CC)(fx:bi AV)(a:RR)(b:List AV):M AV:=bB 29 (aa b 0) 4 25 fun c=>df 25 c fun d=>dU .lss 3 (aa b 1) d (jn (K19_0 call fx a) fun e=>bB 29 (aa b 0) 4 25 fun f=>ji 25 f (aa b 1) 58 fun g=>mP 12 g fun h=>bB 58 (qc h) 1 4 fun i=>ib UnOp.not i fun j=>aD j (e (q8 b)) (bB 58 (qc h) 0 9 fun k=>bB 58 (qc h) 3 35 fun l=>bB 58 (qc h) 4 3 fun m=>rJ true 37 [(0,k),(2,l),(3,m)] fun n=>jj 5 [1] n fun o=>fx (L19_1 call fx e) [aa b 0,aa b 1,qc h,qi 0,aa b 2,aa b 3,aa b 4,aa b 5,aa (af o) 0,.sl [],aa (af o) 2,aa (af o) 3,aa (af o) 4])) (jj 2 [] (.agg [aa b 4,aa b 5]) fun p=>am (.agg [aa (af p) 0,aa (af p) 1]))
def FL19_0(call:CC)(a:RR):FW (L19_0 call ak a):=fZ
def FL19_1(call:CC)(a:RR):FW (L19_1 call ak a):=fZ
def FL19_2(call:CC):FW (L19_2 call ak):=fZ
def S19(call:CC)(fx:bi AV)(a0:AV):M AV:=jf 29 (qc a0) fun a=>ap (call 59 [a]) fun b=>ib UnOp.not b fun c=>aD c (rJ false 32 [] fun d=>jj 2 [] d fun e=>am (.agg [aa (af e) 0,aa (af e) 1])) (bB 29 (qc a0) 0 9 fun f=>rJ true 32 [(0,f)] fun g=>jj 2 [] g fun h=>fx (L19_2 call fx) [qc a0,qi 0,.str [],.sl [],aa (af h) 0,aa (af h) 1])
def C19(a0:AV):ab pg 19 [a0]=aP (S19 (ab pg) ak (cl aA a0)):=cY
def S20(call:CC)(fx:bi AV)(a0 a1:AV):M AV:=bB 37 (qc a1) 1 33 fun a=>bB 37 (qc a0) 1 33 fun b=>ap (call 60 [a,b,.fn (Fn.func 61) [] []]) fun c=>dD c (bU 37 (qc a0) 2 35 fun d=>bU 37 (qc a1) 2 35 fun e=>ap (call 61 [d,e]) fun f=>am [f]) fun g=>dD g (bU 37 (qc a0) 3 3 fun h=>bU 37 (qc a1) 3 3 fun i=>bX .andNot 3 h i fun j=>bX .eql 3 j (qi 0) fun k=>am [k]) fun l=>am l
def C20(a0 a1:AV):ab pg 20 [a0,a1]=aP (S20 (ab pg) ak (cl aA a0) (cl aA a1)):=cY
def S22(call:CC)(fx:bi AV)(a0 a1:AV):M AV:=bB 32 (qc a0) 0 9 fun a=>bB 32 (qc a1) 0 9 fun b=>bq .eql 9 a b fun c=>dD c (bU 32 (qc a0) 1 30 fun d=>bU 32 (qc a1) 1 30 fun e=>ap (call 63 [d,e,.fn (Fn.func 64) [] []]) fun f=>am [f]) fun g=>am g
def C22(a0 a1:AV):ab pg 22 [a0,a1]=aP (S22 (ab pg) ak (cl aA a0) (cl aA a1)):=cY
def S30(call:CC)(fx:bi AV)(a0:AV):M AV:=dU .lss 3 a0 (qi 0) (am (.str [])) (ap (call 70 [a0]) fun a=>am a)
def C30(a0:AV):ab pg 30 [a0]=aP (S30 (ab pg) ak (cl aA a0)):=cY
def L31_0(call:CC)(fx:bi AV)(a:RR)(b:List AV):M AV:=dU .lss 3 (aa b 3) (aa b 2) (ji 23 (aa b 1) (aa b 3) 54 fun c=>mP 3 c fun d=>bB 54 (qc d) 0 9 fun e=>ap (call 29 [e]) fun f=>ap (call 28 [aa b 0,f]) fun g=>bB 54 (qc d) 1 35 fun h=>ap (call 31 [aa b 0,h]) fun i=>bq .add 3 (aa b 3) (qi 1) fun j=>a (kO b [j])) (am (.tup []))
def FL31_0(call:CC):FW (L31_0 call ak):=fZ
def S31(call:CC)(fx:bi AV)(a0 a1:AV):M AV:=bB 35 (qc a1) 0 3 fun a=>ap (call 30 [a]) fun b=>ap (call 28 [a0,b]) fun c=>bB 35 (qc a1) 0 3 fun d=>dU .neq 3 d (qi 2) (am (.tup [])) (bB 35 (qc a1) 1 23 fun e=>df 23 e fun f=>ap (call 30 [f]) fun g=>ap (call 28 [a0,g]) fun h=>bB 35 (qc a1) 1 23 fun i=>df 23 i fun j=>fx (L31_0 call fx) [a0,i,j,qi 0])
def C31(a0 a1:AV):ab pg 31 [a0,a1]=S31 (ab pg) ak a0 a1:=cZ
def S44(call:CC)(fx:bi AV)(a0:AV):M AV:=mb a0 fun a=>kA 102 a 0 fun b=>pF 9 b fun c=>df 9 c fun d=>am d
def C44(a0:AV):ab pg 44 [a0]=S44 (ab pg) ak a0:=cZ
def S47(call:CC)(fx:bi AV)(a0 a1:AV):M AV:=bB 37 (qc a0) 0 9 fun a=>jf 9 a1 fun b=>bq .eql 9 a b fun c=>am c
def C47(a0 a1:AV):ab pg 47 [a0,a1]=aP (S47 (ab pg) ak (cl aA a0) (cl aA a1)):=cY
def L50_0(call:CC)(fx:bi AV)(a:RR)(b:List AV):M AV:=bB 35 (aa b 0) 1 23 fun c=>df 23 c fun d=>dU .lss 3 (aa b 2) d (bB 35 (aa b 0) 1 23 fun e=>rZ 23 e (aa b 2) fun f=>bB 54 f 0 9 fun g=>bB 35 (aa b 1) 1 23 fun h=>rZ 23 h (aa b 2) fun i=>bB 54 i 0 9 fun j=>bq .neq 9 g j fun k=>dz k (bU 35 (aa b 0) 1 23 fun l=>Ft 23 l (aa b 2) fun m=>bU 54 m 1 35 fun n=>bU 35 (aa b 1) 1 23 fun o=>Ft 23 o (aa b 2) fun p=>bU 54 p 1 35 fun q=>ap (bH (call 50 [n,q])) fun r=>kI UnOp.not r fun s=>am [s]) fun u=>aD u (am (.bool false)) (bq .add 3 (aa b 2) (qi 1) fun v=>a [aa b 0,aa b 1,v])) (am (.bool true))
def FL50_0(call:CC):FW (L50_0 call ak):=fZ
def S50(call:CC)(fx:bi AV)(a0 a1:AV):M AV:=bB 35 (qc a0) 0 3 fun a=>bB 35 (qc a1) 0 3 fun b=>bq .neq 3 a b fun c=>dz c (bU 35 (qc a0) 1 23 fun d=>jz 23 d fun e=>bU 35 (qc a1) 1 23 fun f=>jz 23 f fun g=>bX .neq 3 e g fun h=>am [h]) fun i=>aD i (am (.bool false)) (fx (L50_0 call fx) [qc a0,qc a1,qi 0])
def C50(a0 a1:AV):ab pg 50 [a0,a1]=aP (S50 (ab pg) ak (cl aA a0) (cl aA a1)):=cY
def S53(call:CC)(fx:bi AV)(a0:AV):M AV:=ap (call 85 [a0]) fun a=>dD a (ap (call 87 []) fun b=>ap (call 86 [b,a0]) fun c=>bX .lss 3 c (qi 0) fun d=>am [d]) fun e=>am e
def C53(a0:AV):ab pg 53 [a0]=aP (S53 (ab pg) ak (cl aA a0)):=cY
def S65(call:CC)(fx:bi AV)(a0 a1:AV):M AV:=bB 35 (qc a0) 0 3 fun a=>bB 35 (qc a1) 0 3 fun b=>bq .eql 3 a b fun c=>dD c (bU 35 (qc a0) 1 23 fun d=>bU 35 (qc a1) 1 23 fun e=>ap (call 104 [d,e,.fn (Fn.func 105) [] []]) fun f=>am [f]) fun g=>am g
def C65(a0 a1:AV):ab pg 65 [a0,a1]=aP (S65 (ab pg) ak (cl aA a0) (cl aA a1)):=cY
def S73(call:CC)(fx:bi AV)(a0 a1 a2:AV):M AV:=mb a0 fun a=>kA 98 a 0 fun b=>pF 9 b fun c=>mb a0 fun d=>kA 98 d 0 fun e=>pF 9 e fun f=>df 9 f fun g=>ap (bF (iz false [g,qi 21])) fun h=>ap (bF (dl T 9 c none (some h) none)) fun i=>ap (call 108 [i,a1]) fun j=>dU .lss 3 j (qi 0) (ap (call 74 [a0]) fun k=>am (qi 0)) (ap (bF (dl T 9 i none (some j) none)) fun l=>ap (call 109 [l]) fun m=>mQ m 0 fun n=>mQ m 1 fun o=>bq .neq 69 o AV.nili fun p=>dz p (ap (bF (dl T 9 i none (some j) none)) fun q=>ap (call 69 [n]) fun r=>bX .neq 9 r q fun s=>am [s]) fun u=>dz u (bX .lss 3 n a2 fun v=>am [v]) fun w=>aD w (ap (call 74 [a0]) fun x=>am (qi 0)) (mb a0 fun y=>kA 98 y 0 fun z=>pF 9 z fun A=>bq .add 3 j (qi 1) fun B=>ap (bF (dl T 9 A (some B) none none)) fun C=>mb a0 fun D=>kA 98 D 0 fun E=>zq 9 E C fun F=>am n))
def C73(a0 a1 a2:AV):ab pg 73 [a0,a1,a2]=S73 (ab pg) ak a0 a1 a2:=cZ
def S75(call:CC)(fx:bi AV)(a0 a1:AV):M AV:=mb a0 fun a=>kA 98 a 0 fun b=>pF 9 b fun c=>ap (call 110 [c,a1]) fun d=>mQ d 0 fun e=>mQ d 1 fun f=>mb a0 fun g=>kA 98 g 0 fun h=>zq 9 h e fun i=>ib UnOp.not f fun j=>aD j (ap (call 74 [a0]) fun k=>am (.tup [])) (am (.tup []))
def C75(a0 a1:AV):ab pg 75 [a0,a1]=S75 (ab pg) ak a0 a1:=cZ
def S78(call:CC)(fx:bi AV)(a0 a1:AV):M AV:=mb a0 fun a=>kA 102 a 0 fun b=>pF 9 b fun c=>df 9 c fun d=>dU .eql 3 d (qi 0) (ap (call 77 [a0]) fun e=>am (.bool false)) (mb a0 fun f=>kA 102 f 0 fun g=>pF 9 g fun h=>ap (bF (bN T 9 h (qi 0))) fun i=>dU .neq 5 i a1 (ap (call 77 [a0]) fun j=>am (.bool false)) (mb a0 fun k=>kA 102 k 0 fun l=>pF 9 l fun m=>ap (bF (dl T 9 m (some (qi 1)) none none)) fun n=>mb a0 fun o=>kA 102 o 0 fun p=>zq 9 p n fun q=>am (.bool true)))
def C78(a0 a1:AV):ab pg 78 [a0,a1]=S78 (ab pg) ak a0 a1:=cZ
def S90(call:CC)(fx:bi AV)(a0:AV):M AV:=jf 56 (qc a0) fun a=>ap (call 123 [a,qi 12]) fun b=>am b
def C90(a0:AV):ab pg 90 [a0]=aP (S90 (ab pg) ak (cl aA a0)):=cY
def S102(call:CC)(fx:bi AV)(a0:AV):M AV:=jf 35 (qc a0) fun a=>ap (call 54 [a]) fun b=>am b
def C102(a0:AV):ab pg 102 [a0]=aP (S102 (ab pg) ak (cl aA a0)):=cY
def S112(call:CC)(fx:bi AV)(a0:AV):M AV:=bq .geq 5 a0 (.int .u8 97) fun a=>dD a (bX .leq 5 a0 (.int .u8 122) fun b=>am [b]) fun c=>am c
def C112(a0:AV):ab pg 112 [a0]=aP (S112 (ab pg) ak (cl aA a0)):=cY
def S120(call:CC)(fx:bi AV)(a0:AV):M AV:=bq .geq 5 a0 (.int .u8 48) fun a=>dD a (bX .leq 5 a0 (.int .u8 57) fun b=>am [b]) fun c=>am c
def C120(a0:AV):ab pg 120 [a0]=aP (S120 (ab pg) ak (cl aA a0)):=cY
def L122_0(call:CC)(fx:bi AV)(a:RR)(b:List AV):M AV:=df 23 (aa b 0) fun c=>dU .lss 3 (aa b 2) c (rZ 23 (aa b 0) (aa b 2) fun d=>bB 54 d 0 9 fun e=>AQ 22 1 [(0,e)] fun f=>ap (bF (fB T 22 (aa b 1) f)) fun g=>bq .add 3 (aa b 2) (qi 1) fun h=>a [aa b 0,g,h]) (am (aa b 1))
def FL122_0(call:CC):FW (L122_0 call ak):=fZ
def S122(call:CC)(fx:bi AV)(a0:AV):M AV:=fx (L122_0 call fx) [a0,.sl [],qi 0]
def C122(a0:AV):ab pg 122 [a0]=aP (S122 (ab pg) ak (cl aA a0)):=cY
def L134_0(call:CC)(fx:bi AV)(a:RR)(b:List AV):M AV:=bB 56 (aa b 1) 5 24 fun c=>df 24 c fun d=>dU .lss 3 (aa b 2) d (bB 56 (aa b 1) 5 24 fun e=>ji 24 e (aa b 2) 56 fun f=>bq .sub 3 (aa b 0) (qi 1) fun g=>ap (call 134 [f,g]) fun h=>ib UnOp.not h fun i=>aD i (am (.bool false)) (bq .add 3 (aa b 2) (qi 1) fun j=>a [aa b 0,aa b 1,j])) (am (.bool true))
def FL134_0(call:CC):FW (L134_0 call ak):=fZ
def S134(call:CC)(fx:bi AV)(a0 a1:AV):M AV:=bq .eql 3 a1 (qi 0) fun a=>dz a (mO 56 (qc a0) fun b=>ap (call 153 [b]) fun c=>kI UnOp.not c fun d=>am [d]) fun e=>aD e (am (.bool false)) (fx (L134_0 call fx) [a1,qc a0,qi 0])
def C134(a0 a1:AV):ab pg 134 [a0,a1]=aP (S134 (ab pg) ak (cl aA a0) (cl aA a1)):=cY
def S135(call:CC)(fx:bi AV)(a0 a1:AV):M AV:=ap (call 154 [a0,a1]) fun a=>bq .geq 3 a (qi 0) fun b=>am b
def C135(a0 a1:AV):ab pg 135 [a0,a1]=aP (S135 (ab pg) ak (cl aA a0) (cl aA a1)):=cY
def K153_0(call:CC)(fx:bi AV)(a:List AV):M AV:=aD (aa a 2) (jf 56 (aa a 0) fun b=>ap (call 171 [b,.bool false,.bool false,.bool false,.bool false]) fun c=>dD c (bX .eql 3 (aa a 1) (qi 2) fun d=>am [d]) fun e=>am e) (am (.bool false))
def K153_1(call:CC)(fx:bi AV)(a:List AV):M AV:=aD (aa a 3) (jf 56 (aa a 0) fun b=>ap (call 171 [b,.bool false,.bool true,.bool false,.bool false]) fun c=>dD c (bX .eql 3 (aa a 1) (qi 1) fun d=>am [d]) fun e=>dD e (bU 56 (aa a 0) 2 9 fun f=>ap (call 53 [f]) fun g=>am [g]) fun h=>am h) (dU .eql 3 (aa a 2) (qi 12) (jf 56 (aa a 0) fun i=>ap (call 171 [i,.bool false,.bool true,.bool false,.bool false]) fun j=>dD j (bX .eql 3 (aa a 1) (qi 2) fun k=>am [k]) fun l=>dD l (bU 56 (aa a 0) 2 9 fun m=>ap (call 53 [m]) fun n=>am [n]) fun o=>am o) (dU .eql 3 (aa a 2) (qi 10) (jf 56 (aa a 0) fun p=>ap (call 171 [p,.bool false,.bool false,.bool false,.bool false]) fun q=>dD q (bX .eql 3 (aa a 1) (qi 1) fun r=>am [r]) fun s=>am s) (dU .eql 3 (aa a 2) (qi 11) (jf 56 (aa a 0) fun u=>ap (call 171 [u,.bool false,.bool false,.bool false,.bool false]) fun v=>dD v (bX .eql 3 (aa a 1) (qi 3) fun w=>am [w]) fun x=>am x) (dU .eql 3 (aa a 2) (qi 13) (jf 56 (aa a 0) fun y=>ap (call 171 [y,.bool false,.bool false,.bool false,.bool true]) fun z=>dD z (bU 56 (aa a 0) 4 22 fun A=>jz 22 A fun B=>bX .eql 3 (aa a 1) B fun C=>am [C]) fun D=>dD D (bX .leq 3 (aa a 1) (qi 8) fun E=>am [E]) fun F=>dD F (bU 56 (aa a 0) 4 22 fun G=>ap (call 121 [G]) fun H=>am [H]) fun I=>am I) (dU .eql 3 (aa a 2) (qi 15) (jf 56 (aa a 0) fun J=>ap (call 171 [J,.bool false,.bool true,.bool true,.bool false]) fun K=>dD K (bX .leq 3 (aa a 1) (qi 6) fun L=>am [L]) fun N=>dD N (bU 56 (aa a 0) 2 9 fun O=>ap (call 53 [O]) fun P=>am [P]) fun Q=>ap (bc Q true 1 (bU 56 (aa a 0) 3 9 fun R=>bX .eql 9 R (.str []) fun S=>am [S])) fun U=>ap (bc (aa U 0) false 1 (bU 56 (aa a 0) 3 9 fun V=>ap (call 53 [V]) fun W=>am [W])) fun X=>dD Q (yn (aa U 0) (.bool true) (aa X 0) fun Y=>am [Y]) fun Z=>am Z) (dU .eql 3 (aa a 2) (qi 16) (jf 56 (aa a 0) fun u0=>ap (call 171 [u0,.bool true,.bool false,.bool false,.bool false]) fun u1=>dD u1 (bX .eql 3 (aa a 1) (qi 1) fun u2=>am [u2]) fun u3=>ap (bc u3 true 1 (bU 56 (aa a 0) 1 3 fun u4=>bX .eql 3 u4 (qi 1) fun u5=>am [u5])) fun u6=>ap (bc (aa u6 0) false 1 (bU 56 (aa a 0) 1 3 fun u7=>bX .eql 3 u7 (qi 2) fun u8=>am [u8])) fun u9=>ap (bc u3 true 1 (yn (aa u6 0) (.bool true) (aa u9 0) fun v0=>am [v0])) fun v1=>ap (bc (aa v1 0) false 1 (bU 56 (aa a 0) 1 3 fun v2=>bX .eql 3 v2 (qi 4) fun v3=>am [v3])) fun v4=>ap (bc u3 true 1 (yn (aa v1 0) (.bool true) (aa v4 0) fun v5=>am [v5])) fun v6=>ap (bc (aa v6 0) false 1 (bU 56 (aa a 0) 1 3 fun v7=>bX .eql 3 v7 (qi 8) fun v8=>am [v8])) fun v9=>dD u3 (yn (aa v6 0) (.bool true) (aa v9 0) fun w0=>am [w0]) fun w1=>am w1) (jn (K153_0 call fx) fun w2=>bq .eql 3 (aa a 2) (qi 3) fun w3=>aD w3 (w2 [aa a 0,aa a 1,w3]) (bq .eql 3 (aa a 2) (qi 4) fun w4=>aD w4 (w2 [aa a 0,aa a 1,w4]) (bq .eql 3 (aa a 2) (qi 5) fun w5=>aD w5 (w2 [aa a 0,aa a 1,w5]) (bq .eql 3 (aa a 2) (qi 6) fun w6=>aD w6 (w2 [aa a 0,aa a 1,w6]) (bq .eql 3 (aa a 2) (qi 7) fun w7=>aD w7 (w2 [aa a 0,aa a 1,w7]) (bq .eql 3 (aa a 2) (qi 8) fun w8=>aD w8 (w2 [aa a 0,aa a 1,w8]) (bq .eql 3 (aa a 2) (qi 9) fun w9=>w2 [aa a 0,aa a 1,w9])))))))))))))
def K153_2(call:CC)(fx:bi AV)(a:List AV):M AV:=aD (aa a 3) (jf 56 (aa a 0) fun b=>ap (call 171 [b,.bool false,.bool true,.bool false,.bool false]) fun c=>dD c (bX .eql 3 (aa a 1) (qi 0) fun d=>am [d]) fun e=>dD e (bU 56 (aa a 0) 2 9 fun f=>ap (call 53 [f]) fun g=>am [g]) fun h=>am h) (jn (K153_1 call fx) fun i=>bq .eql 3 (aa a 2) (qi 14) fun j=>aD j (i (kO a [j])) (bq .eql 3 (aa a 2) (qi 18) fun k=>i (kO a [k])))
def S153(call:CC)(fx:bi AV)(a0:AV):M AV:=bB 56 (qc a0) 5 24 fun a=>df 24 a fun b=>bB 56 (qc a0) 0 3 fun c=>dU .eql 3 c (qi 0) (jf 56 (qc a0) fun d=>ap (call 171 [d,.bool true,.bool false,.bool false,.bool false]) fun e=>dD e (bX .eql 3 b (qi 0) fun f=>am [f]) fun g=>dD g (bU 56 (qc a0) 1 3 fun h=>ap (call 98 [h,qi 0,qi 1099511627776]) fun i=>am [i]) fun j=>am j) (dU .eql 3 c (qi 1) (jf 56 (qc a0) fun k=>ap (call 171 [k,.bool true,.bool false,.bool false,.bool false]) fun l=>dD l (bX .eql 3 b (qi 0) fun m=>am [m]) fun n=>dD n (bU 56 (qc a0) 1 3 fun o=>ap (call 98 [o,qi 0,qi 1]) fun p=>am [p]) fun q=>am q) (jn (K153_2 call fx) fun r=>bq .eql 3 c (qi 2) fun s=>aD s (r [qc a0,b,c,s]) (bq .eql 3 c (qi 17) fun u=>r [qc a0,b,c,u])))
def C153(a0:AV):ab pg 153 [a0]=aP (S153 (ab pg) ak (cl aA a0)):=cY
def L154_0(call:CC)(fx:bi AV)(a:RR)(b:List AV):M AV:=dU .lss 3 (aa b 3) (aa b 2) (ji 23 (aa b 0) (aa b 3) 54 fun c=>ap (dO call (aa b 1) [c]) fun d=>aD d (am (aa b 3)) (bq .add 3 (aa b 3) (qi 1) fun e=>a (kO b [e]))) (am (qi (-1)))
def FL154_0(call:CC):FW (L154_0 call ak):=fZ
def S154(call:CC)(fx:bi AV)(a0 a1:AV):M AV:=df 23 a0 fun a=>fx (L154_0 call fx) [a0,a1,a,qi 0]
def C154(a0 a1:AV):ab pg 154 [a0,a1]=aP (S154 (ab pg) ak (cl aA a0) (cl aA a1)):=cY
end
end Go.Proofs.YtighgcgmocboaaaGreatDoor
namespace Go.Proofs.YtighgcgmocboaaaGreatDoor.F
open Go Go.Av Go.Av.Ap
set_option maxRecDepth 100000
def Bi:Ann:={ kinds:=[(1,.L),(4,.S)],hl:=[16],nl:=[16,21],lw:=[2,4,8],loops:=[(0,{ vals:=[(10,none),(11,none),(12,none),(2000,none),(2001,none),(3000,none),(3001,none)],locs:=[(1,2000,0),(2,3000,0)],lbs:=[(2000,2),(3000,2)] })] }
def yL:Ann:={ iso:=false,ha:=[7] }
noncomputable def nK:List (Nat×(Func×Ann)):=[(49,(Tryz.f49,Bi))]
def own:FuncId->Option Nat:=fun _=>none
noncomputable def other:FuncId->Option ((FuncId->List AV->M AV)->List AV->M AV):=fun f=>bif Nat.beq f 79 then some (dX T 23)else none
noncomputable def pg:Pg:={ T:=T,funcs:=sR nK,own:=own,other:=other,nw:=fun f=>bif Nat.beq f 79 then true else false }
def hOther:dK pg:=by
 intro f E hE call calls hc;have h0:other f=some E:=hE;unfold other at h0;rcases dH h0 with rfl|h0
 ·exact qb _ _ _ _
 cases h0
noncomputable def L49_0(call:FuncId->RR)(fx:bi AV)(a:RR)(b:List AV):M AV:=ap (bF (bo T BinOp.lss 3 (aa b 2) (aa b 1))) (fun c=>aD c (ap (bF (aL T 23 (aa b 0) (aa b 2))) (fun d=>ap (eI T 54 d) (fun e=>ap (cy 3 e) (fun f=>ap (bF (aB T 54 (.ip (af f)) 1)) (fun g=>ap (bF (aX T 35 g)) (fun h=>ap (bH (call 49 [h])) (fun i=>ap (bF (aL T 23 (aa b 4) (aa b 2))) (fun j=>ap (bF (aB T 54 j 1)) (fun k=>ap (da T 35 k i) (fun l=>ap (bF (bo T BinOp.add 3 (aa b 2) (.int IntKind.i64 1))) (fun m=>a [aa b 0,aa b 1,m,aa b 3,aa b 4,aa b 5,aa b 6]))))))))))) (ap (aI 2 [] (.agg [aa b 3,aa b 4])) (fun n=>am (.agg [aa (af n) 0,aa (af n) 1]))))
def XL49_0{call:FuncId->RR}:r9 (L49_0 call ak) fun _n=>L49_0 call ak  :=by
 intro a b c d;unfold L49_0;exact (cQ.bnd (eC _) fun _=>(nX (cQ.bnd (eC _) fun _=>(cQ.bnd (eC _) fun _=>(cQ.bnd (eC _) fun _=>(cQ.bnd (eC _) fun _=>(cQ.bnd (eC _) fun _=>(cQ.bnd (eC _) fun _=>(cQ.bnd (eC _) fun _=>(cQ.bnd (eC _) fun _=>(cQ.bnd (eC _) fun _=>(cQ.bnd (eC _) fun _=>c _)))))))))) (eC _)))
def FL49_0(call:FuncId->RR)(vs:List AV):ak (L49_0 call ak) vs=L49_0 call ak  (ak (L49_0 call ak)) vs:=yW (XL49_0) vs
noncomputable def S49(call:FuncId->RR)(fx:bi AV)(a0:AV):M AV:=ap (cy 2 a0) (fun a=>ap (call 79 [aa (af a) 1]) (fun b=>ap (cw b) (fun c=>ap (bF (kM T 23 b)) (fun d=>fx (L49_0 call fx) [b,d,.int IntKind.i64 0,aa (af a) 0,b,.int IntKind.i64 0,.sl []]))))
def E49(call:FuncId->List AV->M AV)(fx:bi AV)(a0:AV):cB (pg.cx call Tryz.f49.ntmps Bi) fx Tryz.f49 (own 49) [a0]=S49 call fx a0:=by kernel_rfl
def C49(a0:AV):ab pg 49 [a0]=aP (S49 (ab pg) ak (cl aA a0)):=(iJ hOther rfl rfl rfl _).trans (Nq aP (E49 _ _ (cl aA a0)))
end Go.Proofs.YtighgcgmocboaaaGreatDoor.F
namespace Go.Proofs.YtighgcgmocboaaaGreatDoor
open Go Go.Av Go.Av.Ap
set_option maxRecDepth 100000
structure RQ (p:Prop):Type
instance {p:Prop}:CoeSort (RQ p) Prop:=⟨fun _=>p⟩
def eX(t:TypeId)(i j l k:Nat):RQ (aB T t (.hp l k) i=some (.hp l (k+j))):=⟨⟩
def eW(t:TypeId)(i j:Nat)(cs:List AV):RQ (aB T t (.ip cs) i=some (.ip (cs.drop j))):=⟨⟩
def yp(t:TypeId)(i:Nat)(cs:List AV):RQ (aX T t (.ip cs)=if i<=cs.length then some (.agg (cs.take i))else none):=⟨⟩
def r6(t:TypeId)(x:AV)(l:List AV):RQ (aX T t (.ip (x:: l))=some x):=⟨⟩
def AO(t:TypeId):RQ (kM T t .hn=some (.int .i64 0)):=⟨⟩
def AM(t:TypeId)(es:List AV):RQ (kM T t (.sl es)=some (.int .i64 es.length)):=⟨⟩
def AP(t:TypeId)(l k n s:Nat)(a:Bool):RQ (kM T t (.hs l k n s a)=some (.int .i64 n)):=⟨⟩
section
variable (l k:Nat)
@[simp] theorem FH27_0:eX 27 0 0 l k:=rfl
@[simp] theorem FH27_1:eX 27 1 1 l k:=rfl
@[simp] theorem FH27_2:eX 27 2 2 l k:=rfl
@[simp] theorem FH29_0:eX 29 0 0 l k:=rfl
@[simp] theorem FH29_1:eX 29 1 1 l k:=rfl
@[simp] theorem FH29_2:eX 29 2 2 l k:=rfl
@[simp] theorem FH29_3:eX 29 3 3 l k:=rfl
@[simp] theorem FH29_4:eX 29 4 4 l k:=rfl
@[simp] theorem FH29_5:eX 29 5 5 l k:=rfl
@[simp] theorem FH29_6:eX 29 6 6 l k:=rfl
@[simp] theorem FH32_0:eX 32 0 0 l k:=rfl
@[simp] theorem FH32_1:eX 32 1 1 l k:=rfl
@[simp] theorem FH35_0:eX 35 0 0 l k:=rfl
@[simp] theorem FH35_1:eX 35 1 1 l k:=rfl
@[simp] theorem FH37_0:eX 37 0 0 l k:=rfl
@[simp] theorem FH37_1:eX 37 1 1 l k:=rfl
@[simp] theorem FH37_2:eX 37 2 2 l k:=rfl
@[simp] theorem FH37_3:eX 37 3 4 l k:=rfl
@[simp] theorem FH54_0:eX 54 0 0 l k:=rfl
@[simp] theorem FH54_1:eX 54 1 1 l k:=rfl
@[simp] theorem FH56_0:eX 56 0 0 l k:=rfl
@[simp] theorem FH56_1:eX 56 1 1 l k:=rfl
@[simp] theorem FH56_2:eX 56 2 2 l k:=rfl
@[simp] theorem FH56_3:eX 56 3 3 l k:=rfl
@[simp] theorem FH56_4:eX 56 4 4 l k:=rfl
@[simp] theorem FH56_5:eX 56 5 5 l k:=rfl
@[simp] theorem FH58_0:eX 58 0 0 l k:=rfl
@[simp] theorem FH58_1:eX 58 1 1 l k:=rfl
@[simp] theorem FH58_2:eX 58 2 2 l k:=rfl
@[simp] theorem FH58_3:eX 58 3 3 l k:=rfl
@[simp] theorem FH58_4:eX 58 4 5 l k:=rfl
@[simp] theorem FH58_5:eX 58 5 6 l k:=rfl
@[simp] theorem FH67_1:eX 67 1 1 l k:=rfl
@[simp] theorem FH98_0:eX 98 0 0 l k:=rfl
@[simp] theorem FH98_1:eX 98 1 1 l k:=rfl
@[simp] theorem FH102_0:eX 102 0 0 l k:=rfl
@[simp] theorem FH102_1:eX 102 1 1 l k:=rfl
end
section
variable (cs:List AV)
@[simp] theorem FA27_0:eW 27 0 0 cs:=rfl
@[simp] theorem FA27_1:eW 27 1 1 cs:=rfl
@[simp] theorem FA27_2:eW 27 2 2 cs:=rfl
@[simp] theorem FA29_0:eW 29 0 0 cs:=rfl
@[simp] theorem FA29_1:eW 29 1 1 cs:=rfl
@[simp] theorem FA29_2:eW 29 2 2 cs:=rfl
@[simp] theorem FA29_3:eW 29 3 3 cs:=rfl
@[simp] theorem FA29_4:eW 29 4 4 cs:=rfl
@[simp] theorem FA29_5:eW 29 5 5 cs:=rfl
@[simp] theorem FA29_6:eW 29 6 6 cs:=rfl
@[simp] theorem FA32_0:eW 32 0 0 cs:=rfl
@[simp] theorem FA32_1:eW 32 1 1 cs:=rfl
@[simp] theorem FA35_0:eW 35 0 0 cs:=rfl
@[simp] theorem FA35_1:eW 35 1 1 cs:=rfl
@[simp] theorem FA37_0:eW 37 0 0 cs:=rfl
@[simp] theorem FA37_1:eW 37 1 1 cs:=rfl
@[simp] theorem FA37_2:eW 37 2 2 cs:=rfl
@[simp] theorem FA37_3:eW 37 3 4 cs:=rfl
@[simp] theorem FA54_0:eW 54 0 0 cs:=rfl
@[simp] theorem FA54_1:eW 54 1 1 cs:=rfl
@[simp] theorem FA56_0:eW 56 0 0 cs:=rfl
@[simp] theorem FA56_1:eW 56 1 1 cs:=rfl
@[simp] theorem FA56_2:eW 56 2 2 cs:=rfl
@[simp] theorem FA56_3:eW 56 3 3 cs:=rfl
@[simp] theorem FA56_4:eW 56 4 4 cs:=rfl
@[simp] theorem FA56_5:eW 56 5 5 cs:=rfl
@[simp] theorem FA58_0:eW 58 0 0 cs:=rfl
@[simp] theorem FA58_1:eW 58 1 1 cs:=rfl
@[simp] theorem FA58_2:eW 58 2 2 cs:=rfl
@[simp] theorem FA58_3:eW 58 3 3 cs:=rfl
@[simp] theorem FA58_4:eW 58 4 5 cs:=rfl
@[simp] theorem FA58_5:eW 58 5 6 cs:=rfl
@[simp] theorem FA67_1:eW 67 1 1 cs:=rfl
@[simp] theorem FA98_0:eW 98 0 0 cs:=rfl
@[simp] theorem FA98_1:eW 98 1 1 cs:=rfl
@[simp] theorem FA102_0:eW 102 0 0 cs:=rfl
@[simp] theorem FA102_1:eW 102 1 1 cs:=rfl
end
section
variable (cs:List AV)
@[simp] theorem LD29:yp 29 9 cs:=rfl
@[simp] theorem LD32:yp 32 2 cs:=rfl
@[simp] theorem LD35:yp 35 2 cs:=rfl
@[simp] theorem LD37:yp 37 5 cs:=rfl
@[simp] theorem LD54:yp 54 3 cs:=rfl
@[simp] theorem LD56:yp 56 6 cs:=rfl
@[simp] theorem LD58:yp 58 12 cs:=rfl
end
section
variable (x:AV) (l:List AV)
@[simp] theorem LD3:r6 3 x l:=rfl
@[simp] theorem LD4:r6 4 x l:=rfl
@[simp] theorem LD9:r6 9 x l:=rfl
@[simp] theorem LD22:r6 22 x l:=rfl
@[simp] theorem LD23:r6 23 x l:=rfl
@[simp] theorem LD24:r6 24 x l:=rfl
@[simp] theorem LD25:r6 25 x l:=rfl
@[simp] theorem LD30:r6 30 x l:=rfl
@[simp] theorem LD33:r6 33 x l:=rfl
@[simp] theorem LD65:r6 65 x l:=rfl
end
@[simp] theorem Ld:AO 22:=rfl
@[simp] theorem Le:AO 23:=rfl
@[simp] theorem Lf:AO 24:=rfl
@[simp] theorem Lg:AO 25:=rfl
@[simp] theorem Lh:AO 30:=rfl
@[simp] theorem Li:AO 33:=rfl
section
variable (es:List AV)
@[simp] theorem H8:AM 22 es:=rfl
@[simp] theorem E2:AM 23 es:=rfl
@[simp] theorem H9:AM 24 es:=rfl
@[simp] theorem Ia:AM 25 es:=rfl
@[simp] theorem Ib:AM 30 es:=rfl
@[simp] theorem E3:AM 33 es:=rfl
end
section
variable (l k n s:Nat) (a:Bool)
@[simp] theorem K9:AP 22 l k n s a:=rfl
@[simp] theorem Fw:AP 23 l k n s a:=rfl
@[simp] theorem La:AP 24 l k n s a:=rfl
@[simp] theorem Lb:AP 25 l k n s a:=rfl
@[simp] theorem Lc:AP 30 l k n s a:=rfl
@[simp] theorem Fx:AP 33 l k n s a:=rfl
end
@[simp] theorem K8(s:aQ):kM T 9 (.str s)=some (.int .i64 s.length):=rfl
@[simp] theorem gp(l:List aQ):kM T 22 (strs l)=some (.int .i64 l.length):=(H8 _).trans (by simp)
@[simp] theorem cu(l:List cO):kM T 23 (aO l)=some (.int .i64 l.length):=(E2 _).trans (by simp[de])
@[simp] theorem fc(l:List Exp):kM T 24 (dC l)=some (.int .i64 l.length):=(H9 _).trans (by simp[iU])
@[simp] theorem kc(l:List Fun):kM T 25 (iC l)=some (.int .i64 l.length):=(Ia _).trans (by simp)
@[simp] theorem eJ(l:List Sig):kM T 30 (sigs l)=some (.int .i64 l.length):=(Ib _).trans (by simp)
@[simp] theorem ej(l:List Ty):kM T 33 (ig l)=some (.int .i64 l.length):=(E3 _).trans (by simp)
def xd{l:List aQ}{n:Int}(h0:0<=n)(h:n<(l.length:Int)):aL T 22 (strs l) (.int .i64 n)=some (.ip (af (AV.str l[n.toNat]!))):=eq (T:=T) (t:=22) (e:=9) rfl rfl rfl (fun _=>by first|rfl|(simp;done)|(simp;rfl)) h0 h
def kK{l:List cO}{n:Int}(h0:0<=n)(h:n<(l.length:Int)):aL T 23 (aO l) (.int .i64 n)=some (.ip (af (bm l[n.toNat]!))):=by rw[aO,de];exact eq (T:=T) (t:=23) (e:=54) rfl rfl rfl (fun _=>by first|rfl|(simp;done)|(simp;rfl)) h0 h
def zI{l:List Exp}{n:Int}(h0:0<=n)(h:n<(l.length:Int)):aL T 24 (dC l) (.int .i64 n)=some (.ip (af (Exp.av l[n.toNat]!))):=by rw[dC,iU];exact eq (T:=T) (t:=24) (e:=56) rfl rfl rfl (fun _=>by first|rfl|(simp;done)|(simp;rfl)) h0 h
def Bd{l:List Fun}{n:Int}(h0:0<=n)(h:n<(l.length:Int)):aL T 25 (iC l) (.int .i64 n)=some (.ip (af (Fun.av l[n.toNat]!))):=eq (T:=T) (t:=25) (e:=58) rfl rfl rfl (fun _=>by first|rfl|(simp;done)|(simp;rfl)) h0 h
def pM{l:List Sig}{n:Int}(h0:0<=n)(h:n<(l.length:Int)):aL T 30 (sigs l) (.int .i64 n)=some (.ip (af (Sig.av l[n.toNat]!))):=eq (T:=T) (t:=30) (e:=37) rfl rfl rfl (fun _=>by first|rfl|(simp;done)|(simp;rfl)) h0 h
def uN{l:List Ty}{n:Int}(h0:0<=n)(h:n<(l.length:Int)):aL T 33 (ig l) (.int .i64 n)=some (.ip (af (Ty.av l[n.toNat]!))):=eq (T:=T) (t:=33) (e:=35) rfl rfl rfl (fun _=>by first|rfl|(simp;done)|(simp;rfl)) h0 h
def HZ{a b:List aQ}(h:(a.length+b.length)*16<=140737488355328):fB T 22 (strs a) (strs b)=some (strs (a++b)):=by
 have:=mV (T:=T) (t:=22) (e:=9) rfl rfl rfl (f:=AV.str) (fun _=>by first|rfl|(simp;done)|(simp;rfl)) (a:=a) (b:=b) h (by decide)
 simpa [strs]using this
def H4{a b:List cO}(h:(a.length+b.length)*48<=140737488355328):fB T 23 (aO a) (aO b)=some (aO (a++b)):=by
 have:=mV (T:=T) (t:=23) (e:=54) rfl rfl rfl (f:=bm) (fun _=>by first|rfl|(simp;done)|(simp;rfl)) (a:=a) (b:=b) h (by decide)
 simpa [aO,de]using this
def H5{a b:List Sig}(h:(a.length+b.length)*80<=140737488355328):fB T 30 (sigs a) (sigs b)=some (sigs (a++b)):=by
 have:=mV (T:=T) (t:=30) (e:=37) rfl rfl rfl (f:=Sig.av) (fun _=>by first|rfl|(simp;done)|(simp;rfl)) (a:=a) (b:=b) h (by decide)
 simpa [sigs]using this
def Dw{a b:List Ty}(h:(a.length+b.length)*32<=140737488355328):fB T 33 (ig a) (ig b)=some (ig (a++b)):=by
 have:=mV (T:=T) (t:=33) (e:=35) rfl rfl rfl (f:=Ty.av) (fun _=>by first|rfl|(simp;done)|(simp;rfl)) (a:=a) (b:=b) h (by decide)
 simpa [ig]using this
end Go.Proofs.YtighgcgmocboaaaGreatDoor
namespace Go.Proofs.YtighgcgmocboaaaGreatDoor.F
open Go Go.Av Go.Av.Ap
set_option maxRecDepth 100000
def LB(e:AV)(es:List AV):cB (z7 Tryz.f79.ntmps yL) (dx 0) Tryz.f79 none [.sl (e:: es)]=ap (appH T 23 true (.sl []) (.sl (e:: es))) fun v=>ap (bF (some v)) am:=by kernel_rfl
def LC:cB (z7 Tryz.f79.ntmps yL) (dx 0) Tryz.f79 none [.hn]=ap (bF (some (.sl []))) am:=by kernel_rfl
def LD(l off:Nat):cB (z7 Tryz.f79.ntmps yL) (dx 0) Tryz.f79 none [.hs l off 0 1 false]=ap (appH T 23 true (.sl []) (.hs l off 0 1 false)) fun v=>ap (bF (some v)) am:=by kernel_rfl
def Fq(call:FuncId->List AV->M AV)(args:List AV)(h:Hp)(S:ay)(β:List bI)(w:World)(vs:List Value)(hr:dX T 23 call args h≠.fail)(hg:pt S β h w)(hw:Wf S w)(hh:cS S β w h)(hv:aV S β args vs):
  Calls Tryz.prog 79 vs.toArray w (eh none S β h w (dX T 23 call args h)):=by
 have key:∀es,args=[.sl es]->Calls Tryz.prog 79 vs.toArray w (eh none S β h w (dX T 23 call args h)):=by
  rintro es rfl;exact (oO (cx:=z7 Tryz.f79.ntmps yL) (E:=fun es h=>dX T 23 call [.sl es] h) tok (sL _ _) (yS _ _) Tryz.func79 rfl (fun h=>by rfl) (fun e es h=>by rw[LB];exact congrFun (Br _) h) (fun h=>by rw[LC];rfl) (fun l off h=>by rw[LD];rfl) hr hg hw hh hv).1
 unfold dX at hr;split at hr
 ·exact key _ rfl
 ·exact absurd rfl hr
def uG:(nK.map fun x=>Tryz.prog.funcs[x.1]?)=nK.map fun x=>some x.2.1:=by kernel_rfl
def mJ:(nK.map fun x=>x.2.1.name== "runtime.NumGoroutine")=nK.map fun _=>false:=by kernel_rfl
def Lp{f k:Nat}{α:Type}{x y:α}{o:Option α}(h:(bif Nat.beq f k then some x else o)=some y):(f=k/\x=y)\/o=some y:=by
 cases hb:Nat.beq f k with
 |true=>rw[hb]at h;exact .inl ⟨Nat.eq_of_beq_eq_true hb,by simpa using h⟩
 |false=>rw[hb]at h;exact .inr h
def good:GoodPg Tryz.prog pg where
 tok:=tok
 funcs:=fun f fn a h=>by
  have:=od nK f (fn,a) h
  exact⟨gK uG _ this,gK mJ _ this⟩
 other:=by
  intro f E hE call hC args h S β w vs hr hg hw hh hv;have h0:other f=some E:=hE;unfold other at h0;rcases Lp h0 with⟨rfl,rfl⟩|h0
  ·exact⟨Fq call args h S β w vs hr hg hw hh hv,by kernel_rfl⟩
  cases h0
 nw:=by
  intro f hf;have h0:(bif Nat.beq f 79 then true else false)=true:=hf;cases hb:Nat.beq f 79 with
  |true=>
   have:=Nat.eq_of_beq_eq_true hb
   subst this;exact⟨_,rfl,fun call args=>sK _ _ _ _⟩
  |false=>rw[hb]at h0;cases h0
theorem dc{α β:Type}{m:M α}{a:α}{h h':Hp}(e:m h= .ok a h')(f:α->M β):ap m f h=f a h':=by simp only[ap,e]
def Hu(x:cO):(af (bm x)).length=3:=by simp
def qv(l:List cO):aO l= .sl (l.map bm):=by rw[aO,de]
def Cp{q:Nat}{l:List cO}{i:Nat}{h:Hp}(hi:i<l.length)(hq:h[q]? = some (rowOf bm l)):eI T 54 (.hp q (0+i*3)) h= .ok (bm l[i]) h:=by
 have hlen:=dI (f:=bm) Hu l;rw[ov (T:=T) (t:=54) rfl rfl hq (show 0+i*3+3<=_ by omega)];show R.ok (AV.agg (((rowOf bm l).drop (0+i*3)).take 3)) h=_;rw[NB,dV Hu l i hi,ck,lk]
def De{q:Nat}{l:List cO}{i:Nat}{h:Hp}(hi:i<l.length)(hq:h[q]? = some (rowOf bm l)):da T 35 (.hp q (0+i*3+1)) l[i].2.av h= .ok (.tup []) h:=by
 have hlen:=dI (f:=bm) Hu l;refine pm (T:=T) (t:=35) rfl hq (Ap.ny _) (show 0+i*3+1+2<=_ by omega) (by decide) ?_
 have:=dV Hu l i hi
 have h2:((rowOf bm l).drop (0+i*3+1)).take 2=(((rowOf bm l).drop (i*3)).take 3).drop 1:=by
  rw[List.drop_take,List.drop_drop];congr 2;omega
 rw[bd];show ((rowOf bm l).drop (0+i*3+1)).take 2=_;rw[h2,this,ck];rfl
theorem MD{q n i:Nat}(h:i<n):aL T 23 (.hs q 0 n 3 true) (.int .i64 (i:Int))=some (.hp q (0+i*3)):=by
 have e:aL T 23 (.hs q 0 n 3 true) (.int .i64 (i:Int))=if 0<=(i:Int)/\(i:Int)<(n:Int)then some (.hp q (0+(i:Int).toNat*3))else none:=rfl;rw[e,Nn (by omega),Nb]
def GX(t:Ty)(hb:t.fields.length<=4611686018427387904)(hk:∀f∈t.fields,ab pg 49 [f.2.av]=am f.2.av)(q:Nat)(h:Hp)(hq:h[q]? = some (rowOf bm t.fields))(x5 x6:AV):∀(n i:Nat),t.fields.length-i=n->i<=t.fields.length->
  ak (L49_0 (ab pg) ak) [.hs q 0 t.fields.length 3 true,.int .i64 t.fields.length,.int .i64 i,.int .i64 t.kind,.hs q 0 t.fields.length 3 true,x5,x6] h= .ok (.agg [.int .i64 t.kind,.hs q 0 t.fields.length 3 true]) h:=by
 intro n
 induction n with
 |zero=>
  intro i hn hi;rw[FL49_0];have h1:¬((i:Int)<(t.fields.length:Int)):=by omega
  have h2:aI 2 [] (.agg [.int .i64 t.kind,.hs q 0 t.fields.length 3 true])=am (.agg [.int .i64 t.kind,.hs q 0 t.fields.length 3 true]):=fW rfl;simp[L49_0,h1,h2,am]
 |succ n ih=>
  intro i hn hi;have hlt:i<t.fields.length:=by omega
  have h1:(i:Int)<(t.fields.length:Int):=by omega
  have ih':=ih (i+1) (by omega) (by omega);have hw:IntKind.i64.wrap ((i:Int)+1)=((i+1:Nat):Int):=aE (by omega);have hc:=hk t.fields[i] (Ni hlt);rw[<- ih'];generalize hcode:ak (L49_0 (ab pg) ak) [.hs q 0 t.fields.length 3 true,.int .i64 t.fields.length,.int .i64 i,.int .i64 t.kind,.hs q 0 t.fields.length 3 true,x5,x6] h=code;rw[FL49_0]at hcode;simp -implicitDefEqProofs only[L49_0,aj,ao,ax,ae,ah,h1,Nf,Nj,MD hlt]at hcode;rw[dc (Cp hlt hq)]at hcode;simp -implicitDefEqProofs only[mn,ai,ck,FA54_1,ae,NH,Nk,LD35,Nr,Nu,NB,Nat.reduceAdd,M7,Nj,NI,NM,cq,hc,bQ,FH54_1]at hcode;rw[show (i*3+1)=0+i*3+1 by omega]at hcode;rw[dc (De hlt hq)]at hcode;simp -implicitDefEqProofs only[ba,ae,hw]at hcode;rw[<- hcode]
theorem t49:∀(d:Nat)(t:Ty),kN d t->ab pg 49 [t.av]=am t.av
 |0,t,h=>h.elim
 | d+1,t,h=>by
  have hlen:t.fields.length<=100:=h.1;have ih:∀f∈t.fields,ab pg 49 [f.2.av]=am f.2.av:=fun f hf=>t49 d f.2 (h.2 f hf);have e0:ab pg 79 [aO t.fields]=dX T 23 (ab pg) [aO t.fields]:=cE hOther rfl _;have e1:=qd (T:=T) (t:=23) (f:=bm) (sz:=3) rfl rfl rfl rfl rfl (by decide) (by decide) (fun x=>qU x) (ab pg) t.fields (show t.fields.length*48<=140737488355328 by omega) [];rw[<- qv,<- e0]at e1;rw[C49];funext hp;show aP _ hp=R.ok t.av hp;by_cases hf:t.fields=[]
  ·rw[Nn hf]at e1;have e2:aI 2 [] (.agg [.int .i64 t.kind,.sl []])=am (.agg [.int .i64 t.kind,.sl []]):=fW rfl;have key:S49 (ab pg) ak (cl aA t.av) []= .ok (.agg [.int .i64 t.kind,.sl []]) []:=by
    simp only[S49,jI,gB,ai,bd,aj,ao];rw[dc e1];simp only[cw,bh,M6,ae,E2];rw[FL49_0];simp[L49_0,e2,am]
   unfold aP;rw[key];have:(AV.agg [.int .i64 t.kind,.sl []])=t.av:=by rw[<- cq,hf];rfl
   rw[this];simp only[R.ok.injEq,PN];exact (Clean.frz (fun g=>jI g t) 6 [])
  ·rw[M9 hf]at e1;have hq:([]++[rowOf bm t.fields]:Hp)[0]? = some (rowOf bm t.fields):=rfl;have key:S49 (ab pg) ak (cl aA t.av) []= .ok (.agg [.int .i64 t.kind,.hs 0 0 t.fields.length 3 true]) ([]++[rowOf bm t.fields]):=by
    simp only[S49,jI,gB,ai,bd,aj,ao];rw[dc e1];simp only[cw,bh,M6,ae,Fw,Nu];exact GX t (by omega) ih 0 _ hq _ _ t.fields.length 0 rfl (by omega)
   unfold aP;rw[key];have hfr:=lL (f:=bm) Hu (fun x=>by rw[ck,lk]) (fun x g=>xv g x) (by decide) hq 5;have:gG 6 ([]++[rowOf bm t.fields]) (.agg [.int .i64 t.kind,.hs 0 0 t.fields.length 3 true])=t.av:=by
    rw[<- cq,qv,<- hfr];rfl
   show R.ok (gG 6 _ _) hp=_;rw[this]
end Go.Proofs.YtighgcgmocboaaaGreatDoor.F
namespace Go.Proofs.YtighgcgmocboaaaGreatDoor
open Go Go.Av Go.Av.Ap
def Kv(call:FuncId->List AV->M AV)(args:List AV)(h:Hp)(S:ay)(β:List bI)(w:World)(vs:List Value)(hr:lI call args h≠.fail)(hg:pt S β h w)(hw:Wf S w)(hh:cS S β w h)(hv:aV S β args vs):
  Calls Tryz.prog 49 vs.toArray w (eh none S β h w (lI call args h)):=by
 unfold lI at hr |-;split at hr
 ·rename_i v;cases hc:E0 6 v with
  |false=>rw[hc]at hr;exact absurd rfl hr
  |true=>
   obtain⟨t,rfl,ht⟩:=xb 6 v hc;have e:=congrFun (F.t49 6 t ht) h
   have:=(kX F.good F.hOther 49 [t.av] h S β w vs (by rw[e];simp[am]) hg hw hh hv).1
   rw[e]at this;exact this
 ·exact absurd rfl hr
theorem tb:∀(d:Nat)(t:Ty),bw d t=true->kN d t
 |0,t,h=>by cases h
 |d+1,t,h=>by
  rw[cG]at h;simp only[M5,M8,Nl]at h;exact⟨by have:=h.1.1.2;omega,fun f hf=>tb d f.2 (h.2.1 f hf).2⟩
end Go.Proofs.YtighgcgmocboaaaGreatDoor
namespace Go.Proofs.YtighgcgmocboaaaGreatDoor.D
open Go Go.Av Go.Av.Ap
set_option maxRecDepth 100000
noncomputable def pg:Pg:={ T:=T,funcs:=sR nK,own:=own,other:=fun _=>none }
def hOther:dK pg:=fun f E h=>by cases h
def E94(call:FuncId->List AV->M AV)(fx:bi AV)(a0:AV):cB (pg.cx call Tryz.f94.ntmps Fa) fx Tryz.f94 (own 94) [a0]=S94 call fx a0:=by kernel_rfl
def C94(a0:AV):ab pg 94 [a0]=aP (S94 (ab pg) ak (cl aA a0)):=(iJ hOther rfl rfl rfl _).trans (Nq aP (E94 _ _ (cl aA a0)))
def E58(call:FuncId->List AV->M AV)(fx:bi AV)(a0 a1:AV):cB (pg.cx call Tryz.f58.ntmps E9) fx Tryz.f58 (own 58) [a0,a1]=S58 call fx a0 a1:=by kernel_rfl
def C58(a0 a1:AV):ab pg 58 [a0,a1]=aP (S58 (ab pg) ak (cl aA a0) (cl aA a1)):=(iJ hOther rfl rfl rfl _).trans (Nq aP (E58 _ _ (cl aA a0) (cl aA a1)))
def E57(call:FuncId->List AV->M AV)(fx:bi AV)(a0 a1:AV):cB (pg.cx call Tryz.f57.ntmps E8) fx Tryz.f57 (own 57) [a0,a1]=S57 call fx a0 a1:=by kernel_rfl
def C57(a0 a1:AV):ab pg 57 [a0,a1]=aP (S57 (ab pg) ak (cl aA a0) (cl aA a1)):=(iJ hOther rfl rfl rfl _).trans (Nq aP (E57 _ _ (cl aA a0) (cl aA a1)))
@[simp] theorem K4(t:Nat)(a b:aQ):bo T .gtr t (.str a) (.str b)=some (.bool !(aG a b||a== b)):=rfl
theorem t94(s:aQ):ab pg 94 [.str s]=am (.bool false):=by
 rw[C94];have e:bo T .neq 9 (.str s) (.str s)=some (.bool !(s== s)):=rfl;simp[S94,e]
def t58(a b:aQ):ab pg 58 [.str a,.str b]=am (.int .i64 (xy a b)):=by
 rw[C58];unfold xy;cases h1:aG a b with
 |true=>simp[S58,t94,h1]
 |false=>
  by_cases h2:a=b
  all_goals simp_all[S58,t94,eb]
def t57(a b:aQ)(x1 x2 x3 x4 y1 y2 y3 y4:AV):ab pg 57 [.agg [.str a,x1,x2,x3,x4],.agg [.str b,y1,y2,y3,y4]]=am (.int .i64 (xy a b)):=by
 rw[C57];have f0:∀cs,aB T 37 (.ip cs) 0=some (.ip (cs.drop 0)):=fun cs=>rfl;have l0:∀(s:aQ)(cs:List AV),aX T 9 (.ip (.str s:: cs))=some (.str s):=fun s cs=>rfl;simp_all[S57,cl,fo,t58]
def good:@GoodPg ⟨True⟩ Tryz.prog pg:=by
 letI:Dr:=⟨True⟩
 exact⟨tok,vM,(fun f E h=>by cases h),(fun f h=>by cases h)⟩
end Go.Proofs.YtighgcgmocboaaaGreatDoor.D
namespace Go.Proofs.YtighgcgmocboaaaGreatDoor
open Go Go.Av Go.Av.Ap Go.RowKit Go.Sort
set_option maxRecDepth 1000000
def LY(keys:List aQ)(n:Nat):SWO (ltOf (Du keys n)):=by
 have h:∀i j,ltOf (Du keys n) i j=aG keys[i % n]! keys[j % n]!:=fun i j=>by
  unfold ltOf Du xy
  grind
 refine⟨fun x=>?_,fun x y z=>?_,fun x y z=>?_⟩
 ·rw[h,eA]
 ·grind [dn]
 ·rw[h,h,h];intro h1 h2;cases h3:aG keys[x % n]! keys[z % n]! with
  |false=>rfl
  |true=>
   grind [dn,eb]
def Am{ev:Nat->List Value}{k:Nat}{w:World}(hg:GOKw w){blk off n:Nat}{d:Array Nat}{os:Array Obj}(hb:gN<=blk):GOKw (sortWorldK ev k w blk off n d os):=
 hg.mono fun b hlt=>rq ev k off n d os (Nat.lt_of_lt_of_le hlt hg.lt) (by omega)
def BL:∀args w,(callFunc 57 args).run Tryz.prog w= .ok (.enter 57 args) w:=enters_of Tryz.func57 (by kernel_rfl) rfl
def JS(a b:aQ)(u v:List Value)(hu:∃(x:ByteArray)(r:List Value),u= .string x:: r/\x.data.toList=a)(hv:∃(x:ByteArray)(r:List Value),v= .string x:: r/\x.data.toList=b)(lu:u.length=5)(lv:v.length=5)(W:World)(hg:GOKw W):
  Calls Tryz.prog 57 #[.agg u.toArray,.agg v.toArray] W fun e w'=>e= .returned (.int .i64 (xy a b))/\∃q os',w'=grow (W.drewN q) os':=by
 letI:Dr:=⟨True⟩
 have hs:∀(s:aQ)(u:List Value),(∃(x:ByteArray)(r:List Value),u= .string x:: r/\x.data.toList=s)->u.length=5->VR (kf W) [] (.agg [.str s,.any,.any,.any,.any]) (.agg u.toArray):=by
  rintro s u ⟨x,r,rfl,hx⟩ hl;obtain⟨r1,r2,r3,r4,rfl⟩:∃r1 r2 r3 r4,r=[r1,r2,r3,r4]:=by
   match r,hl with
   |[r1,r2,r3,r4],_=>grind
  simp only[VR];refine⟨_,rfl,?_⟩;simp only[aV,VR];exact⟨_,_,rfl,⟨x,rfl,hx⟩,_,_,rfl,trivial,_,_,rfl,trivial,_,_,rfl,trivial,_,_,rfl,trivial,rfl⟩
 have hv2:aV (kf W) [] [.agg [.str a,.any,.any,.any,.any],.agg [.str b,.any,.any,.any,.any]] [.agg u.toArray,.agg v.toArray]:=by
  simp only[aV];exact⟨_,_,rfl,hs a u hu lu,_,_,rfl,hs b v hv lv,rfl⟩
 have h:=(kX D.good D.hOther 57 [.agg [.str a,.any,.any,.any,.any],.agg [.str b,.any,.any,.any,.any]] [] (kf W) [] W _ (by rw[D.t57];simp[am]) ⟨hg,fun b _ ho=>by obtain⟨l,_,_,h1,_⟩:=ho;simp at h1,zG hg⟩ (fun _ _ _ h=>h) ⟨rfl,fun _=>.no,fun l cs hl=>by simp at hl⟩ hv2).1;rw[D.t57]at h;refine h.mono fun e w' hp=>?_;obtain⟨S',β',v,rfl,hv,L,_⟩:=hp;simp only[VR]at hv;subst hv;exact⟨rfl,L.grew trivial⟩
def Ig:∀w,(isAgg 37).run Tryz.prog w= .ok true w:=fun w=>by kernel_rfl
def Ho:∀w,(Go.sizeOf 37).run Tryz.prog w= .ok 5 w:=fun w=>by kernel_rfl
theorem wU(w:World)(blk off cap:Nat)(keys:List aQ)(ev:Nat->List Value)(_h0:0<keys.length)(hl:∀i,(ev i).length=5)(h1:∀i,∀v∈ev i,v.oneCell'=true)(hk:∀i,∃(x:ByteArray)(r:List Value),ev i= .string x:: r/\x.data.toList=keys[i % keys.length]!)(hg:GOKw w)(hb:gN<=blk)(hH:HoldsK ev 5 w blk off (Array.range keys.length))(hlt:blk<w.heap.size)(hsz:keys.length<4611686018427387904):
  Calls Tryz.prog 56 #[.slice (some ⟨blk,off,none⟩) keys.length cap,.func (.func 57) #[] #[]] w fun e w'=>e= .returned (.tuple #[])/\∃n os,w'=sortWorldK ev 5 w blk off n (gn keys).toArray os:=by
 have:=AnyQ.slices_SortFunc_eq MM 5 Ig Ho ev hl h1 (Du keys keys.length) (LY keys keys.length) 57 #[] blk off cap (Array.range keys.length) w BL
  (fun m os dk _ x y=>JS _ _ _ _ (hk x) (hk y) (hl x) (hl y) _ (Am hg hb)) hH hlt (by simpa using hsz)
 rw[Array.size_range]at this;refine this.mono ?_;simp_all[gn]
def Kw(call:FuncId->List AV->M AV)(args:List AV)(h:Hp)(S:ay)(β:List bI)(w:World)(vs:List Value)(hr:gH 5 57 call args h≠.fail)(hg:pt S β h w)(hw:Wf S w)(hh:cS S β w h)(hv:aV S β args vs):
  Calls Tryz.prog 56 vs.toArray w (eh none S β h w (gH 5 57 call args h)):=by
 have h0:=hr;unfold gH at hr;split at hr
 ·rename_i g';cases hb:Nat.beq g' 57 with
  |false=>grind
  |true=>
   have e:gH 5 57 call [.sl [],.fn (.func g') [] []] h= .ok (.tup []) h:=by simp only[gH,hb,M6]
   rw[e];simp only[aV,VR,Nu]at hv;obtain⟨_,_,rfl,⟨a,cap,rfl,_⟩,v,_,rfl,_,rfl⟩:=hv;refine (AnyF.slices_SortFunc_none MM a cap v w).mono ?_;rintro e' w' ⟨rfl,rfl⟩;exact cF hw hh (Below.refl _ _) pr (by simp only[VR,aV];grind)
 ·rename_i g';cases hb:Nat.beq g' 57 with
  |false=>grind
  |true=>
   have e:gH 5 57 call [.hn,.fn (.func g') [] []] h= .ok (.tup []) h:=by simp only[gH,hb,M6]
   rw[e];simp only[aV,VR]at hv;obtain⟨_,_,rfl,rfl,v,_,rfl,_,rfl⟩:=hv;refine (AnyF.slices_SortFunc_none MM none 0 v w).mono ?_;rintro e' w' ⟨rfl,rfl⟩;exact cF hw hh (Below.refl _ _) pr (by simp only[VR,aV];grind)
 ·grind [B8,wU]
 grind
end Go.Proofs.YtighgcgmocboaaaGreatDoor
namespace Go.Proofs.YtighgcgmocboaaaGreatDoor
open Go Go.Av Go.RowKit
set_option maxRecDepth 100000
def Lq{α:Type}{f k:Nat}{x:α}{o:Option α}{y:α}(h:(bif Nat.beq f k then some x else o)=some y):(f=k/\x=y)\/o=some y:=by
 cases hb:Nat.beq f k with
 |true=>rw[hb]at h;exact .inl ⟨Nat.eq_of_beq_eq_true hb,by simpa using h⟩
 |false=>rw[hb]at h;exact .inr h
def Bo{α:Type}{f k:Nat}{x y:α}{o:Option α}{P:Prop}(h1:f=k->x=y->P)(h2:o=some y->P)(h:(bif Nat.beq f k then some x else o)=some y):P:=(Lq h).elim (fun h=>h1 h.1 h.2) h2
def good:GoodPg Tryz.prog pg where
 tok:=tok
 funcs:=vM
 other:=by
  intro f E hE call hC args h S β w vs hr hg hw hh hv;have h0:other f=some E:=hE;unfold other at h0;revert h0
  repeat' refine Bo ?_ ?_
  all_goals first
   |(intro h0;cases h0;done)
   |(rintro rfl rfl;exact absurd rfl hr)
   |(rintro rfl rfl;exact⟨Kt call args h S β w vs hr hg hw hh hv,by kernel_rfl⟩)
   |(rintro rfl rfl;exact⟨Ku call args h S β w vs hr hg hw hh hv,by kernel_rfl⟩)
   |(rintro rfl rfl;exact⟨Kw call args h S β w vs hr hg hw hh hv,by kernel_rfl⟩)
   |(rintro rfl rfl;exact⟨KA call args h S β w vs hr hg hw hh hv,by kernel_rfl⟩)
   |(rintro rfl rfl;exact⟨Kx call args h S β w vs hr hg hw hh hv,by kernel_rfl⟩)
   |(rintro rfl rfl;exact⟨Ky call args h S β w vs hr hg hw hh hv,by kernel_rfl⟩)
   |(rintro rfl rfl;exact⟨Fq call args h S β w vs hr hg hw hh hv,by kernel_rfl⟩)
   |(rintro rfl rfl;exact⟨Kv call args h S β w vs hr hg hw hh hv,by kernel_rfl⟩)
   |(rintro rfl rfl;exact⟨Hi call args h S β w vs hr hg hw hh hv,by kernel_rfl⟩)
   |(rintro rfl rfl;exact⟨Hg call args h S β w vs hr hg hw hh hv,by kernel_rfl⟩)
   |(rintro rfl rfl;exact⟨Kz call args h S β w vs hr hg hw hh hv,by kernel_rfl⟩)
   |(rintro rfl rfl;exact⟨Hh call args h S β w vs hr hg hw hh hv,by kernel_rfl⟩)
 nw:=by
  intro f hf;have h0:(bif Nat.beq f 48 then true else false)=true:=hf;cases hb:Nat.beq f 48 with
  |true=>
   have:=Nat.eq_of_beq_eq_true hb
   subst this;exact⟨_,rfl,sK T 33⟩
  |false=>rw[hb]at h0;cases h0
end Go.Proofs.YtighgcgmocboaaaGreatDoor
namespace Go.Proofs.YtighgcgmocboaaaGreatDoor
open Go Go.Av Go.ChangeShapes Go.WideShapes Go.ChangeAt Go.RowKit
set_option maxRecDepth 1000000
def LQ:ownKnob Tryz.prog.godebug=none:=by kernel_rfl
def star: "*" ++ "errors.errorString" = "*errors.errorString" :=by decide
def rf(u:TypeId)(h:Tryz.prog.typeName? 3 u=some "*errors.errorString"):u=189:=
 typeName_ptr_named (nm:= "errors.errorString") (by rw[star];kernel_rfl) (by kernel_rfl) (by decide) u (by rw[star];exact h)
def GE{W:World}(hL:laidMetH Tryz.prog Rows.faceTellsRow.laid W)(hS:W.ShapedOpen Tryz.prog):GOKw W:=by
 have h0:laidMet Tryz.prog Rows.faceTellsRow.laid W:=hL;have h1:=h0.tail;have h2:=h1.tail;have h3:=h2.tail;have h4:=h3.tail;have hp:=Lib.tabIs_of_head (k:=.u64) (zs:=Lib.pow10Tab) (g:=1) (t:=178) (e:=141) (n:=20) (by kernel_rfl) (by kernel_rfl) (by kernel_rfl) (by kernel_rfl) (by kernel_rfl) (by kernel_rfl) h2;obtain⟨a0,s0,v0,_⟩:=laid_sentinel (g:=3) (ti:=69) (tp:=189) (te:=191) (ts:=9) h3 (by kernel_rfl) (by kernel_rfl) Tryz.underlying69 rf Tryz.underlying189 Tryz.underlying191 rfl rfl Tryz.underlying9 (by kernel_rfl) (by kernel_rfl);obtain⟨a1,s1,v1,_⟩:=laid_sentinel (g:=2) (ti:=69) (tp:=189) (te:=191) (ts:=9) h4 (by kernel_rfl) (by kernel_rfl) Tryz.underlying69 rf Tryz.underlying189 Tryz.underlying191 rfl rfl Tryz.underlying9 (by kernel_rfl) (by kernel_rfl);have hvar:∀ {name:String} {g:Nat} {cs:Array Value},Tryz.prog.globalNamed name=some g->W.var? Tryz.prog name=some cs->∃t fr,W.heap[g]? = some (.cells cs t fr):=by
  intro name g cs hn hv;unfold World.var? at hv;rw[hn]at hv;simp only[OV]at hv;split at hv
  ·rename_i c t fr hh;simp only[M4]at hv;subst hv;exact⟨t,fr,hh⟩
  ·cases hv
 have hcell:∀ {g:Nat} {v:Value},(∃t fr,W.heap[g]? = some (.cells #[v] t fr))->W.cell? ⟨g,0,none⟩=some v:=by
  rintro g v ⟨t,fr,hh⟩;simp[World.cell?,hh]
 refine⟨?_,hvar (by kernel_rfl) hp,⟨_,_,hcell (hvar (by kernel_rfl) v1)⟩,⟨_,_,hcell (hvar (by kernel_rfl) v0)⟩⟩;exact cell_of_shapedOpen_int (zero:=#[.int .i64 0]) (t:=3) hS (Pm (by kernel_rfl)) (by kernel_rfl) rfl (by kernel_rfl) (by kernel_rfl) Tryz.underlying3
mutual
def mW:DataW Unit->List Value
 |.lit (.bool b)=>[.bool b]
 |.lit (.int k n)=>[.int k n]
 |.lit (.string s)=>[.string ⟨s.toArray⟩]
 |.agg ps=>BG ps
 |_=>[]
def BG:List (DataW Unit)->List Value
 |[]=>[]
 |d:: ds=>mW d++BG ds
end
abbrev LZ:ByteArray:={ data:=#[105,110,118,97,108,105,100,32,115,121,110,116,97,120] }
abbrev LX:ByteArray:={ data:=#[118,97,108,117,101,32,111,117,116,32,111,102,32,114,97,110,103,101] }
noncomputable def low:Nat:=(World.holding Tryz.prog default ⟨#[],#[],[]⟩).heap.size
noncomputable def Dm:List (Option (Array Value)):=[none,some (mW Rows.laid_internal_strconv_uint64pow10).toArray,some #[.iface 189 (.pointer (some ⟨low,0,none⟩))],some #[.iface 189 (.pointer (some ⟨low+1,0,none⟩))],
 some (mW Rows.laid_math_bits_deBruijn32tab).toArray,some (mW Rows.laid_math_bits_deBruijn64tab).toArray]
def un:List Obj->List (Option (Array Value))->List Obj
 |.cells _ t fr:: os,some c:: cs=>.cells c t fr:: un os cs
 |o:: os,_:: cs=>o:: un os cs
 |os,[]=>os
 |[],_=>[]
noncomputable def oq(os:Os):World:=
 let w0:=World.holding Tryz.prog os ⟨#[.cells #[.string LZ] 191,.cells #[.string LX] 191],#[],[]⟩
 { w0 with heap:=(un w0.heap.toList Dm).toArray }
def Cj(os:Os)(args:Array Value):laidMet Tryz.prog Rows.faceTellsRow.laid ((oq os).forCall (fun _ _=>0) ⟨#[],args,[]⟩).memory:=
 laidMet_of_run3 8 (by kernel_rfl) (by kernel_rfl) (by kernel_rfl)
end Go.Proofs.YtighgcgmocboaaaGreatDoor
namespace Go.Proofs.YtighgcgmocboaaaGreatDoor
open Go Go.Av Go.Av.Ap Go.RowKit
set_option maxRecDepth 1000000
section
variable {H:Type} {enc:TypeId×Value->H} {W:World}
theorem jY:reachBytes=140737488351232:=rfl
theorem Ty.lim_mk{k:Int}{fs:List cO}(h2:fs.length<=140737488355328)(h3:∀v∈fs,v.2.Lim):(Ty.mk k fs).Lim:=fun j=>match j with
 |0=>trivial
 |j+1=>⟨h2,fun x hx=>h3 x hx j⟩
theorem ra{N:Nat}(h:Rd enc Tryz.prog W N 35 (fun v:Ty=>v.cells) Ty.Lim):Rd enc Tryz.prog W (N+1) 23 (fun l:List cO=>[aO l]) (fun l=>l.length<=140737488355328/\∀v∈l,v.2.Lim):=
 (jX ((fX Tryz.underlying54 (by kernel_rfl) (aZ (jy Tryz.underlying9) rfl (by kernel_rfl:_=1) (aZ h rfl (by kernel_rfl:_=2) ic))).map (fun x=>((x.1,x.2.1):cO)) (cells':=fun f=>af (bm f)) (Ok':=fun f=>f.2.Lim) (fun x=>by simp[Ty.cells_eq]) (fun x h=>h.2.1))
  Tryz.underlying23 (by kernel_rfl:_=3) (by decide) (by kernel_rfl:_=48) (ev:=bm) (jM fun v=>by rw[fg];rfl)).map id (fun l=>by simp[aO,de]) (fun l h=>⟨by have:=h.1;rw[jY]at this;simp only[id];omega,h.2⟩)
theorem wE:∀N,Rd enc Tryz.prog W N 35 (fun v:Ty=>v.cells) Ty.Lim
 |0=>.zero
 | N+1=>(fX Tryz.underlying35 (by kernel_rfl) (aZ (rb Tryz.underlying3) rfl (by kernel_rfl:_=1) (aZ ((ra (wE N)).le (OT N)) rfl (by kernel_rfl:_=1) ic))).map (fun x=>Ty.mk x.1 x.2.1)
   (fun x=>by simp[Ty.cells_eq,Ty.kind,Ty.fields]) (fun x h=>Ty.lim_mk h.2.1.1 h.2.1.2)
theorem Hm(N:Nat):Rd enc Tryz.prog W N 33 (fun l:List Ty=>[ig l]) (fun l=>l.length<=140737488355328/\∀v∈l,v.Lim):=
 (jX (wE N) Tryz.underlying33 (by kernel_rfl:_=2) (by decide) (by kernel_rfl:_=32) (ev:=Ty.av) (jM fun v=>rfl)).map id (fun l=>by simp[ig]) (fun l h=>⟨by have:=h.1;rw[jY]at this;simp only[id];omega,h.2⟩)
end
section
variable {H:Type} {enc:TypeId×Value->H} {W:World}
theorem uv(N:Nat):Rd enc Tryz.prog W (N+1) 37 (fun s:Sig=>af s.av) (fun s=>s.Lim/\-9223372036854775808<=s.effects/\s.effects<=9223372036854775807):=
 (fX Tryz.underlying37 (by kernel_rfl) (aZ (jy Tryz.underlying9) rfl (by kernel_rfl:_=1) (aZ (Hm N) rfl (by kernel_rfl:_=1) (aZ (wE N) rfl (by kernel_rfl:_=2) (aZ (rb Tryz.underlying3) rfl (by kernel_rfl:_=1) ic))))).map
  (fun x=>(⟨x.1,x.2.1,x.2.2.1,x.2.2.2.1⟩:Sig)) (fun x=>by simp[Ty.cells_eq]) (fun x h=>⟨⟨h.2.1.1,h.2.1.2,h.2.2.1⟩,(bounds_i64 h.2.2.2.1).1,(bounds_i64 h.2.2.2.1).2⟩)
theorem CP(N:Nat):Rd enc Tryz.prog W N 30 (fun l:List Sig=>[sigs l]) (fun l=>l.length<=140737488355328/\∀v∈l,v.Lim/\-9223372036854775808<=v.effects/\v.effects<=9223372036854775807):=
 ((jX (uv N) Tryz.underlying30 (by kernel_rfl:_=5) (by decide) (by kernel_rfl:_=80) (ev:=Sig.av) (jM fun v=>rfl)).map id (fun l=>by simp[sigs]) (fun l h=>⟨by have:=h.1;rw[jY]at this;simp only[id];omega,h.2⟩)).le (OT N)
theorem CN(N:Nat):Rd enc Tryz.prog W (N+1) 32 (fun f:Face=>af f.av) (fun f=>f.Lim/\∀s∈f.funcs,-9223372036854775808<=s.effects/\s.effects<=9223372036854775807):=
 (fX Tryz.underlying32 (by kernel_rfl) (aZ (jy Tryz.underlying9) rfl (by kernel_rfl:_=1) (aZ (CP N) rfl (by kernel_rfl:_=1) ic))).map
  (fun x=>(⟨x.1,x.2.1⟩:Face)) (fun x=>by simp) (fun x h=>⟨⟨h.2.1.1,fun s hs=>(h.2.1.2 s hs).1⟩,fun s hs=>(h.2.1.2 s hs).2⟩)
end
section
variable {H:Type} {enc:TypeId×Value->H} {W:World}
theorem zt(N:Nat):Rd enc Tryz.prog W N 22 (fun l:List aQ=>[strs l]) (fun l=>l.length<=8796093022208):=
 (jX (jy Tryz.underlying9) Tryz.underlying22 (by kernel_rfl:_=1) (by decide) (by kernel_rfl:_=16) (BH fun _=>rfl)).map id (fun _=>rfl) (fun l h=>by have:=h.1;rw[jY]at this;simp only[id];omega)
theorem Exp.lim_mk{o n:Int}{s m:aQ}{ns:List aQ}{es:List Exp}(h1:ns.length<=8796093022208)(h2:es.length<=140737488355328)(h3:∀v∈es,v.Lim):(Exp.mk o n s m ns es).Lim:=fun j=>match j with
 |0=>trivial
 |j+1=>⟨h1,h2,fun x hx=>h3 x hx j⟩
theorem q9{N:Nat}(h:Rd enc Tryz.prog W N 56 (fun v:Exp=>v.cells) Exp.Lim):Rd enc Tryz.prog W N 24 (fun l:List Exp=>[dC l]) (fun l=>l.length<=140737488355328/\∀v∈l,v.Lim):=
 (jX h Tryz.underlying24 (by kernel_rfl:_=6) (by decide) (by kernel_rfl:_=96) (ev:=Exp.av) (jM fun v=>rfl)).map id (fun l=>by simp[dC,iU]) (fun l h=>⟨by have:=h.1;rw[jY]at this;simp only[id];omega,h.2⟩)
theorem yq:∀N,Rd enc Tryz.prog W N 56 (fun v:Exp=>v.cells) Exp.Lim
 |0=>.zero
 | N+1=>(fX Tryz.underlying56 (by kernel_rfl) (aZ (rb Tryz.underlying3) rfl (by kernel_rfl:_=1) (aZ (rb Tryz.underlying3) rfl (by kernel_rfl:_=1) (aZ (jy Tryz.underlying9) rfl (by kernel_rfl:_=1) (aZ (jy Tryz.underlying9) rfl (by kernel_rfl:_=1)
   (aZ (zt N) rfl (by kernel_rfl:_=1) (aZ (q9 (yq N)) rfl (by kernel_rfl:_=1) ic))))))).map (fun x=>Exp.mk x.1 x.2.1 x.2.2.1 x.2.2.2.1 x.2.2.2.2.1 x.2.2.2.2.2.1) (fun x=>by simp[Exp.cells_eq,Exp.op,Exp.n,Exp.s,Exp.m,Exp.names,Exp.args]) (fun x h=>Exp.lim_mk h.2.2.2.2.1 h.2.2.2.2.2.1.1 h.2.2.2.2.2.1.2)
theorem ut(N:Nat):Rd enc Tryz.prog W N 24 (fun l:List Exp=>[dC l]) (fun l=>l.length<=140737488355328/\∀v∈l,v.Lim):=q9 (yq N)
theorem uu(N:Nat):Rd enc Tryz.prog W N 23 (fun l:List cO=>[aO l]) (fun l=>l.length<=140737488355328/\∀v∈l,v.2.Lim):=(ra (wE N)).le (OT N)
end
section
variable {H:Type} {enc:TypeId×Value->H} {W:World}
theorem ER(N:Nat):Rd enc Tryz.prog W (N+1) 58 (fun f:Fun=>af f.av) (fun f=>f.Lim/\-9223372036854775808<=f.effects/\f.effects<=9223372036854775807):=
 (fX Tryz.underlying58 (by kernel_rfl) (aZ (jy Tryz.underlying9) rfl (by kernel_rfl:_=1) (aZ (zr Tryz.underlying4) rfl (by kernel_rfl:_=1) (aZ (uu N) rfl (by kernel_rfl:_=1) (aZ (wE N) rfl (by kernel_rfl:_=2)
  (aZ (rb Tryz.underlying3) rfl (by kernel_rfl:_=1) (aZ (yq N) rfl (by kernel_rfl:_=6) ic))))))).map (fun x=>(⟨x.1,x.2.1,x.2.2.1,x.2.2.2.1,x.2.2.2.2.1,x.2.2.2.2.2.1⟩:Fun))
  (fun x=>by simp[Ty.cells_eq,Exp.cells_eq]) (fun x h=>⟨⟨h.2.2.1.1,h.2.2.1.2,h.2.2.2.1,h.2.2.2.2.2.1⟩,(bounds_i64 h.2.2.2.2.1).1,(bounds_i64 h.2.2.2.2.1).2⟩)
theorem CO(N:Nat):Rd enc Tryz.prog W N 25 (fun l:List Fun=>[iC l]) (fun l=>l.length<=140737488355328/\∀v∈l,v.Lim/\-9223372036854775808<=v.effects/\v.effects<=9223372036854775807):=
 ((jX (ER N) Tryz.underlying25 (by kernel_rfl:_=12) (by decide) (by kernel_rfl:_=184) (ev:=Fun.av) (jM fun v=>rfl)).map id (fun l=>by simp[iC]) (fun l h=>⟨by have:=h.1;rw[jY]at this;simp only[id];omega,h.2⟩)).le (OT N)
theorem ES(N:Nat):Rd enc Tryz.prog W (N+1) 29 (fun m:Mod=>af m.av) (fun m=>m.Lim/\∀f∈m.funcs,-9223372036854775808<=f.effects/\f.effects<=9223372036854775807):=
 (fX Tryz.underlying29 (by kernel_rfl) (aZ (jy Tryz.underlying9) rfl (by kernel_rfl:_=1) (aZ (zt N) rfl (by kernel_rfl:_=1) (aZ (uu N) rfl (by kernel_rfl:_=1) (aZ (ut N) rfl (by kernel_rfl:_=1)
  (aZ (CO N) rfl (by kernel_rfl:_=1) (aZ (zr Tryz.underlying4) rfl (by kernel_rfl:_=1)
  (aZ ((fX Tryz.underlying27 (by kernel_rfl) (aZ (uu N) rfl (by kernel_rfl:_=1) (aZ (ut N) rfl (by kernel_rfl:_=1) (aZ (ut N) rfl (by kernel_rfl:_=1) ic)))).le (OT N)) rfl (by kernel_rfl:_=3) ic)))))))).map
  (fun x=>(⟨x.1,x.2.1,x.2.2.1,x.2.2.2.1,x.2.2.2.2.1,x.2.2.2.2.2.1,x.2.2.2.2.2.2.1.1,x.2.2.2.2.2.2.1.2.1,x.2.2.2.2.2.2.1.2.2.1⟩:Mod))
  (fun x=>by simp) (fun x h=>⟨⟨by have:=h.2.1;simp only;omega,h.2.2.1.1,h.2.2.1.2,h.2.2.2.1.1,h.2.2.2.1.2,h.2.2.2.2.1.1,fun f hf=>(h.2.2.2.2.1.2 f hf).1,h.2.2.2.2.2.2.1.1.1,h.2.2.2.2.2.2.1.1.2,h.2.2.2.2.2.2.1.2.1.1,h.2.2.2.2.2.2.1.2.1.2,h.2.2.2.2.2.2.1.2.2.1.1,h.2.2.2.2.2.2.1.2.2.1.2⟩,fun f hf=>(h.2.2.2.2.1.2 f hf).2⟩)
end
end Go.Proofs.YtighgcgmocboaaaGreatDoor
