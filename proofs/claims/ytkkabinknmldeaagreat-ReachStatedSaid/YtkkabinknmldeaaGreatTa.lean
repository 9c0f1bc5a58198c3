/- What the functions of the seat compute, part 1: the texts of the claim, one behind the other. Conditions: bounds, as each theorem names them. -/
import Derived.RangeFuncNested
import Derived.RangeFuncBound
import Derived.RangeFuncCalls
import Derived.RangeFuncLeaves
import Derived.RangeFuncBox
import Derived.Shelf.Abstract
import Derived.Shelf.RegionOpen
import Derived.WalkKit
import Derived.OwnWalkIn
import Derived.TacticsInMore
import Derived.LoopNIn
import Derived.LoopIn
import Derived.Test.YtkkabinknmldeaaGreatLb
import Derived.Test.YtkkabinknmldeaaGreatProg
import Derived.Test.YtkkabinknmldeaaGreatLc
import Derived.Test.YtkkabinknmldeaaGreatLd
set_option linter.unusedSimpArgs false
set_option linter.unusedVariables false
namespace Go.Proofs.YtkkabinknmldeaaGreat
open Go Go.Av Go.RowKit Go.Shelf
attribute [local go_sem] Oper.semAt_some
structure F12 where
 n:ByteArray
 a1:Value
 a2:Value
 a3:Value
 a4:Value
 a5:Value
 a6:Value
 a7:Value
 a8:Value
 a9:Value
 a10:Value
 a11:Value
instance:Inhabited F12:=⟨⟨⟨#[]⟩,undef,undef,undef,undef,undef,undef,undef,undef,undef,undef,undef⟩⟩
def F12.arr(x:F12):Array Value:=#[.string x.n,x.a1,x.a2,x.a3,x.a4,x.a5,x.a6,x.a7,x.a8,x.a9,x.a10,x.a11]
def F12.v(x:F12):Value:=.agg #[.string x.n,x.a1,x.a2,x.a3,x.a4,x.a5,x.a6,x.a7,x.a8,x.a9,x.a10,x.a11]
def mz(W:World)(b off:Nat)(zs:List F12):Prop:=∀ j,j < zs.length→W.cell? ⟨b,off + j * 12,none⟩=some (.string (zs[j]?.getD default).n)∧W.cell? ⟨b,off + j * 12 + 1,none⟩=some (zs[j]?.getD default).a1∧W.cell? ⟨b,off + j * 12 + 2,none⟩=some (zs[j]?.getD default).a2∧W.cell? ⟨b,off + j * 12 + 3,none⟩=some (zs[j]?.getD default).a3∧W.cell? ⟨b,off + j * 12 + 4,none⟩=some (zs[j]?.getD default).a4∧W.cell? ⟨b,off + j * 12 + 5,none⟩=some (zs[j]?.getD default).a5∧W.cell? ⟨b,off + j * 12 + 6,none⟩=some (zs[j]?.getD default).a6∧W.cell? ⟨b,off + j * 12 + 7,none⟩=some (zs[j]?.getD default).a7∧W.cell? ⟨b,off + j * 12 + 8,none⟩=some (zs[j]?.getD default).a8∧W.cell? ⟨b,off + j * 12 + 9,none⟩=some (zs[j]?.getD default).a9∧W.cell? ⟨b,off + j * 12 + 10,none⟩=some (zs[j]?.getD default).a10∧W.cell? ⟨b,off + j * 12 + 11,none⟩=some (zs[j]?.getD default).a11
def dZ(n₀ bo:Nat)(A B:World):Prop:=∀ k,k < n₀→k≠bo→B.heap[k]? = A.heap[k]?
theorem dZ.refl(n₀ bo:Nat)(A:World):dZ n₀ bo A A:=fun _ _ _=>rfl
theorem dZ.trans{n₀ bo:Nat}{A B C:World}(h:dZ n₀ bo A B)(k:dZ n₀ bo B C):dZ n₀ bo A C:=fun i hi hn=>(k i hi hn).trans (h i hi hn)
theorem dZ.cell{n₀ bo:Nat}{A B:World}(h:dZ n₀ bo A B){b o:Nat}(hb:b < n₀)(hn:b≠bo):B.cell? ⟨b,o,none⟩=A.cell? ⟨b,o,none⟩:=cell_of_heap (h b hb hn) o
theorem dZ.of_below{n₀ bo:Nat}{A B:World}(h:Below n₀ A B):dZ n₀ bo A B:=fun k hk _=>h.block k hk
theorem mz.keep{n₀ bo:Nat}{A B:World}(h:dZ n₀ bo A B){b off:Nat}(hb:b < n₀)(hn:b≠bo){zs:List F12}(c:mz A b off zs):mz B b off zs:=fun j hj=>by
 have:=c j hj
 simpa only[h.cell hb hn] using this
theorem GT{n₀ bo:Nat}{A B C:World}(h:dZ n₀ bo A B)(k:dZ n₀ bo B C):dZ n₀ bo A C:=h.trans k
theorem GR{n₀ bo:Nat}{w:World}(hn:n₀≤w.heap.size)(W:World)(l:Nat)(o o':Obj)(hl:w.heap.size≤l)(_h:W.heap[l]? = some o)(_:o.isCells=false)(_:o.isWalk=false):dZ n₀ bo W (W.putObj l o'):=
 fun k hk _=>World.putObj_heap_other (by omega)
set_option maxRecDepth 100000 in
set_option maxHeartbeats 4000000 in
theorem DG(F:Fence)(n:Nat)(h7:F.fn 262)(hro:F.round=none)(hn:1≤n)(l Bs n₀ bo b off cap:Nat)(zs:List F12)(hreach:zs.length≤1000000000)(hb:b < n₀)(hbo:b≠bo)(hBn:Bs < n₀)(hBo:Bs≠bo)(J:Nat→World→Prop) (Jx:World→Prop)
  (hY:∀ k W,J k W→k < zs.length→YieldAt F (n - 1) Tryz.prog l #[.int .i64 ((zs.length - 1 - k:Nat):Int),(zs[zs.length - 1 - k]?.getD default).v] W fun e W'=>
   (e= .returned (.bool true)∧J (k + 1) W'∧dZ n₀ bo W W')∨(e= .returned (.bool false)∧Jx W'))
  (W:World) (hBs:W.cell? ⟨Bs,0,none⟩=some (.slice (some ⟨b,off,none⟩) zs.length cap)) (hc:mz W b off zs) (h0:J 0 W):
  CallsIn F n Tryz.prog 262 #[.func (.yield l) #[] #[],.pointer (some ⟨Bs,0,none⟩)] W fun e W'=>(∃ v,e= .returned v)∧(J zs.length W'∨Jx W'):=by
 refine callsIn_of_wp Tryz.func262 rfl h7 ?_ hro
 simp only[Tryz.ntmps262,List.size_toArray,List.length_cons,List.length_nil,Nat.reduceAdd,Nat.reduceSub,Array.replicate_succ,Array.replicate_zero,List.push_toArray,List.append_toArray,List.nil_append,List.cons_append]
 gi_wp2
 gi_loopw [3] (fun i wr=>∃ k:Nat,k≤zs.length∧i= .int .i64 ((zs.length:Int) - 1 - k)∧J k wr∧dZ n₀ bo W wr)
  (fun i _=>(intOf i + 1).toNat)
 case atStart=>exact⟨0,Nat.zero_le _,by simp,h0,dZ.refl _ _ _⟩
 case round=>
  obtain⟨k,hk,rfl,hJs,hnx⟩:=hrel
  have hbs:wr.cell? ⟨Bs,0,none⟩=some (.slice (some ⟨b,off,none⟩) zs.length cap):=(hnx.cell hBn hBo).trans hBs
  by_cases hlt:k < zs.length
  ·obtain⟨fn,tmps,assign,body,hy,hR⟩:=hY k wr hJs hlt
   obtain⟨m,hm⟩:∃ m:Nat,(zs.length:Int) - 1 - k=m:=⟨zs.length - 1 - k,by omega⟩
   have hm':zs.length - 1 - k=m:=by omega
   rw[hm'] at hy
   rw[hm]
   obtain⟨c0,c1,c2,c3,c4,c5,c6,c7,c8,c9,c10,c11⟩:=(hc.keep hnx hb hbo) m (by omega)
   generalize hz:zs[m]?.getD default=z at hy c0 c1 c2 c3 c4 c5 c6 c7 c8 c9 c10 c11
   obtain⟨z0,z1,z2,z3,z4,z5,z6,z7,z8,z9,z10,z11⟩:=z
   have hml:m < zs.length:=by omega
   simp only[F12.v] at hy
   simp only at c0 c1 c2 c3 c4 c5 c6 c7 c8 c9 c10 c11
   gi_wp2
   refine hR.mono ?_
   rintro e W3 (⟨rfl,hJ3,hk3⟩ | ⟨rfl,hJx3⟩)
   ·gi_wp2
    go_roundw
    case rel=>exact⟨k + 1,by omega,by congr 1;omega,hJ3,hnx.trans hk3⟩
    case measure=>simp[intOf] <;> omega
   ·gi_wp2
    refine bodyPost_ret (results_none rfl _ _ _) rfl ?_
    exact⟨⟨_,rfl⟩,.inr hJx3⟩
  ·obtain rfl:k=zs.length:=by omega
   gi_wp2
   go_end0
   exact⟨⟨_,rfl⟩,.inl hJs⟩
set_option maxRecDepth 100000 in
set_option maxHeartbeats 1000000 in
theorem ud(F:Fence)(n:Nat)(h7:F.fn 262)(hro:F.round=none)(l Bs:Nat)(p:Option Addr)(cap:Nat)(J:World→Prop)(W:World)(hBs:W.cell? ⟨Bs,0,none⟩=some (.slice p 0 cap))(h0:J W):
  CallsIn F n Tryz.prog 262 #[.func (.yield l) #[] #[],.pointer (some ⟨Bs,0,none⟩)] W fun e W'=>(∃ v,e= .returned v)∧J W':=by
 refine callsIn_of_wp Tryz.func262 rfl h7 ?_ hro
 simp only[Tryz.ntmps262,List.size_toArray,List.length_cons,List.length_nil,Nat.reduceAdd,Nat.reduceSub,Array.replicate_succ,Array.replicate_zero,List.push_toArray,List.append_toArray,List.nil_append,List.cons_append]
 gi_wp2
 gi_loopw [3] (fun i wr=>i= .int .i64 (-1)∧J wr) (fun _ _=>0)
 case atStart=>exact⟨rfl,h0⟩
 case round=>
  obtain⟨rfl,hJs⟩:=hrel
  gi_wp2
  go_end0
  exact⟨⟨_,rfl⟩,hJs⟩
set_option maxHeartbeats 1000000 in
theorem Gb(F:Fence)(n:Nat)(h5:F.fn 187)(hro:F.round=none)(a:Option Addr)(len cap:Nat)(w:World):
  CallsIn F n Tryz.prog 187 #[.slice a len cap] w fun e w'=>e= .returned (.func (.func 262) #[] #[.pointer (some ⟨w.heap.size,0,none⟩)])∧w'=w.alloc (.cells #[.slice a len cap] 25):=by
 refine callsIn_of_wp Tryz.func187 rfl h5 ?_ hro
 simp only[Tryz.ntmps187,List.size_toArray,List.length_cons,List.length_nil,Nat.reduceAdd,Nat.reduceSub,Array.replicate_succ,Array.replicate_zero,List.push_toArray,List.append_toArray,List.nil_append,List.cons_append]
 gi_wp2
 go_ret
 exact⟨rfl,rfl⟩
def i9(n₀ bo:Nat)(W:World)(sv:Value)(zs:List F12):Prop:=
 (zs=[]∧∃ p cap,sv= .slice p 0 cap)∨∃ b off cap,sv= .slice (some ⟨b,off,none⟩) zs.length cap∧b < n₀∧b≠bo∧mz W b off zs
theorem i9.keep{n₀ bo:Nat}{A B:World}(h:dZ n₀ bo A B){sv:Value}{zs:List F12}:i9 n₀ bo A sv zs→i9 n₀ bo B sv zs
 | .inl e=>.inl e
 | .inr ⟨b,off,cap,e,hb,hn,hc⟩=>.inr ⟨b,off,cap,e,hb,hn,hc.keep h hb hn⟩
theorem i9.mono{n n' bo:Nat}(h:n≤n'){W:World}{sv:Value}{zs:List F12}:i9 n bo W sv zs→i9 n' bo W sv zs
 | .inl e=>.inl e
 | .inr ⟨b,off,cap,e,hb,hn,hc⟩=>.inr ⟨b,off,cap,e,Nat.lt_of_lt_of_le hb h,hn,hc⟩
theorem yx(F:Fence)(n:Nat)(h8:F.fn 262)(hro:F.round=none)(hn:1≤n)(Bs bo:Nat)(sv:Value)(zs:List F12)(hreach:zs.length≤1000000000){α:Type}(encs:α→Array Value)(yl:List α) (hl:yl.length=zs.length)
  (he:∀ k (h:k < yl.length),encs (yl[k])= #[.int .i64 ((zs.length - 1 - k:Nat):Int),(zs[zs.length - 1 - k]?.getD default).v]) (w:World) (hBs:Bs < w.heap.size) (hBo:Bs≠bo)
  (hc:w.cell? ⟨Bs,0,none⟩=some sv) (hI:i9 w.heap.size bo w sv zs):
  SeqStopsK F n Tryz.prog 262 #[.pointer (some ⟨Bs,0,none⟩)] encs (dZ w.heap.size bo) (fun ys=>ys=yl) (fun _=>True) zs.length w:=fun l J Jx W hW _ _ hY h0=>by
 have hc':=(hW.cell (p:=⟨Bs,0,none⟩) hBs).trans hc
 rcases hI.keep (dZ.of_below hW) with ⟨rfl,p,cap,rfl⟩ | ⟨b,off,cap,rfl,hb,hb2,hcs⟩
 ·have:yl=[]:=List.length_eq_zero_iff.1 (by simpa using hl)
  subst this
  exact (ud F n h8 hro l Bs p cap (J []) W hc' h0).mono fun e W' ⟨he,hj⟩=>⟨he,.inl ⟨_,rfl,hj⟩⟩
 ·refine (DG F n h8 hro hn l Bs w.heap.size bo b off cap zs hreach hb hb2 hBs hBo (fun k W=>J (yl.take k) W) (fun W=>∃ pre,True∧Jx pre W) (fun k W hJ hk=>?_) W hc' hcs (by simpa using h0)).mono fun e W' ⟨he,hj⟩=>⟨he,?_⟩
  ·have hka:k < yl.length:=by omega
   have h1:=hY (yl.take k) (yl[k]) W hJ (by rw[List.length_take];omega)
   rw[he k hka] at h1
   obtain⟨fn,tmps,assign,body,hy,hR⟩:=h1
   refine⟨fn,tmps,assign,body,hy,hR.mono fun e W' h=>?_⟩
   rcases h with ⟨h2,h3,h4⟩ | ⟨h2,h3⟩
   ·exact .inl ⟨h2,by rw[List.take_add_one,List.getElem?_eq_getElem hka];exact h3,h4⟩
   ·exact .inr ⟨h2,_,trivial,h3⟩
  ·rcases hj with hj | hj
   ·exact .inl ⟨yl,rfl,by rwa [← hl,List.take_length] at hj⟩
   ·exact .inr hj
end Go.Proofs.YtkkabinknmldeaaGreat
namespace Go.Proofs.YtkkabinknmldeaaGreat
open Go Go.Av Go.Av.Ap
abbrev CC:=FuncId→List AV→M AV
abbrev RR:=List AV→M AV
theorem lb{α β:Type}{m:M α}{f:α→M β}{fs:Nat→α→M β}(hf:ba f fs):aE (ae m f) fun n=>ae m (fs n):=aE.bnd (aE.const _) hf
abbrev tF:TI:=TI.mk false 1 8 .func [] [.nilf] false
noncomputable def tab:List (Nat×TI):=[
(0,(TI.mk false 1 0 .other [] [.any] false)),
(1,tF),
(2,(TI.mk false 1 8 (.int .i64) [] [.int .i64 0] false)),
(3,(TI.mk false 1 8 (.int .i64) [] [.int .i64 0] false)),
(4,(TI.mk false 1 1 .bool [] [.bool false] false)),
(5,(TI.mk false 1 1 (.int .u8) [] [.int .u8 0] false)),
(6,(TI.mk false 1 1 (.int .u8) [] [.int .u8 0] false)),
(7,(TI.mk true 4 24 .struct [(0,((2,true))),(1,((3,true))),(2,((4,true))),(3,((6,true)))] [.int .i64 0,.int .i64 0,.bool false,.int .u8 0] true)),
(8,(TI.mk true 4 24 .struct [(0,((2,true))),(1,((3,true))),(2,((4,true))),(3,((6,true)))] [.int .i64 0,.int .i64 0,.bool false,.int .u8 0] true)),
(9,(TI.mk false 1 16 .str [] [.str []] false)),
(10,(TI.mk false 1 16 .str [] [.str []] false)),
(11,(TI.mk false 1 16 .str [] [.str []] false)),
(12,(TI.mk false 1 8 (.int .u64) [] [.int .u64 0] false)),
(13,(TI.mk true 2 24 .struct [(0,((9,true))),(1,((12,true)))] [.str [],.int .u64 0] false)),
(14,(TI.mk true 2 24 .struct [(0,((9,true))),(1,((12,true)))] [.str [],.int .u64 0] false)),
(15,(TI.mk false 1 8 .ptr [] [.nilp] false)),
(16,(TI.mk false 1 8 .ptr [] [.nilp] false)),
(17,(TI.mk false 1 8 .ptr [] [.nilp] false)),
(18,(TI.mk true 1 8 .struct [(0,((17,true)))] [.nilp] false)),
(19,(TI.mk true 1 8 .struct [(0,((17,true)))] [.nilp] false)),
(20,(TI.mk false 1 16 .iface [] [.nili] false)),
(21,(TI.mk false 1 4 (.int .i32) [] [.int .i32 0] false)),
(22,(TI.mk false 1 24 (.slice 9) [] [.sl []] false)),
(23,(TI.mk false 1 24 (.slice 87) [] [.sl []] false)),
(24,(TI.mk false 1 24 (.slice 74) [] [.sl []] false)),
(25,(TI.mk false 1 24 (.slice 76) [] [.sl []] false)),
(26,(TI.mk true 3 72 .struct [(0,((23,true))),(1,((24,true))),(2,((24,true)))] [.sl [],.sl [],.sl []] true)),
(27,(TI.mk true 3 72 .struct [(0,((23,true))),(1,((24,true))),(2,((24,true)))] [.sl [],.sl [],.sl []] true)),
(28,(TI.mk true 9 192 .struct [(0,((9,true))),(1,((22,true))),(2,((23,true))),(3,((24,true))),(4,((25,true))),(5,((4,true))),(6,((27,true)))] [.str [],.sl [],.sl [],.sl [],.sl [],.bool false,.sl [],.sl [],.sl []] true)),
(29,(TI.mk true 9 192 .struct [(0,((9,true))),(1,((22,true))),(2,((23,true))),(3,((24,true))),(4,((25,true))),(5,((4,true))),(6,((27,true)))] [.str [],.sl [],.sl [],.sl [],.sl [],.bool false,.sl [],.sl [],.sl []] true)),
(30,(TI.mk false 1 24 (.slice 69) [] [.sl []] false)),
(31,tF),
(32,tF),
(33,(TI.mk false 1 8 (.int .i64) [] [.int .i64 0] false)),
(34,(TI.mk false 1 0 .other [] [.any] false)),
(35,tF),
(36,(TI.mk false 1 0 .other [] [.any] false)),
(37,tF),
(38,tF),
(39,tF),
(40,tF),
(41,tF),
(42,(TI.mk false 1 24 (.slice 29) [] [.sl []] false)),
(43,(TI.mk false 1 24 (.slice 49) [] [.sl []] false)),
(44,(TI.mk false 1 24 (.slice 3) [] [.sl []] false)),
(45,(TI.mk false 1 24 (.slice 55) [] [.sl []] false)),
(46,tF),
(47,(TI.mk false 1 24 (.slice 51) [] [.sl []] false)),
(48,(TI.mk true 3 56 .struct [(0,((9,true))),(1,((9,true))),(2,((47,true)))] [.str [],.str [],.sl []] true)),
(49,(TI.mk true 3 56 .struct [(0,((9,true))),(1,((9,true))),(2,((47,true)))] [.str [],.str [],.sl []] true)),
(50,(TI.mk true 4 64 .struct [(0,((3,true))),(1,((3,true))),(2,((22,true))),(3,((47,true)))] [.int .i64 0,.int .i64 0,.sl [],.sl []] true)),
(51,(TI.mk true 4 64 .struct [(0,((3,true))),(1,((3,true))),(2,((22,true))),(3,((47,true)))] [.int .i64 0,.int .i64 0,.sl [],.sl []] true)),
(52,(TI.mk false 1 24 (.slice 60) [] [.sl []] false)),
(53,(TI.mk false 1 24 (.slice 62) [] [.sl []] false)),
(54,(TI.mk true 8 144 .struct [(0,((33,true))),(1,((51,true))),(5,((52,true))),(6,((43,true))),(7,((53,true)))] [.int .i64 0,.int .i64 0,.int .i64 0,.sl [],.sl [],.sl [],.sl [],.sl []] true)),
(55,(TI.mk true 8 144 .struct [(0,((33,true))),(1,((51,true))),(5,((52,true))),(6,((43,true))),(7,((53,true)))] [.int .i64 0,.int .i64 0,.int .i64 0,.sl [],.sl [],.sl [],.sl [],.sl []] true)),
(56,tF),
(57,(TI.mk false 1 0 .other [] [.any] false)),
(58,tF),
(59,(TI.mk true 3 24 .struct [(0,((3,true))),(1,((3,true))),(2,((3,true)))] [.int .i64 0,.int .i64 0,.int .i64 0] true)),
(60,(TI.mk true 3 24 .struct [(0,((3,true))),(1,((3,true))),(2,((3,true)))] [.int .i64 0,.int .i64 0,.int .i64 0] true)),
(61,(TI.mk true 2 40 .struct [(0,((9,true))),(1,((47,true)))] [.str [],.sl []] true)),
(62,(TI.mk true 2 40 .struct [(0,((9,true))),(1,((47,true)))] [.str [],.sl []] true)),
(63,tF),
(64,(TI.mk true 2 32 .struct [(0,((9,true))),(1,((9,true)))] [.str [],.str []] true)),
(65,(TI.mk true 2 32 .struct [(0,((9,true))),(1,((9,true)))] [.str [],.str []] true)),
(66,tF),
(67,(TI.mk false 1 24 (.slice 150) [] [.sl []] false)),
(68,(TI.mk true 2 40 .struct [(0,((9,true))),(1,((67,true)))] [.str [],.sl []] true)),
(69,(TI.mk true 2 40 .struct [(0,((9,true))),(1,((67,true)))] [.str [],.sl []] true)),
(70,tF),
(71,(TI.mk true 2 32 .struct [(0,((3,true))),(1,((23,true)))] [.int .i64 0,.sl []] true)),
(72,(TI.mk true 2 32 .struct [(0,((3,true))),(1,((23,true)))] [.int .i64 0,.sl []] true)),
(73,(TI.mk true 6 96 .struct [(0,((3,true))),(1,((3,true))),(2,((9,true))),(3,((9,true))),(4,((22,true))),(5,((24,true)))] [.int .i64 0,.int .i64 0,.str [],.str [],.sl [],.sl []] true)),
(74,(TI.mk true 6 96 .struct [(0,((3,true))),(1,((3,true))),(2,((9,true))),(3,((9,true))),(4,((22,true))),(5,((24,true)))] [.int .i64 0,.int .i64 0,.str [],.str [],.sl [],.sl []] true)),
(75,(TI.mk true 12 184 .struct [(0,((9,true))),(1,((4,true))),(2,((23,true))),(3,((72,true))),(5,((3,true))),(6,((74,true)))] [.str [],.bool false,.sl [],.int .i64 0,.sl [],.int .i64 0,.int .i64 0,.int .i64 0,.str [],.str [],.sl [],.sl []] true)),
(76,(TI.mk true 12 184 .struct [(0,((9,true))),(1,((4,true))),(2,((23,true))),(3,((72,true))),(5,((3,true))),(6,((74,true)))] [.str [],.bool false,.sl [],.int .i64 0,.sl [],.int .i64 0,.int .i64 0,.int .i64 0,.str [],.str [],.sl [],.sl []] true)),
(77,(TI.mk false 1 0 .other [] [.any] false)),
(78,tF),
(79,(TI.mk false 1 24 (.slice 65) [] [.sl []] false)),
(80,tF),
(81,tF),
(82,tF),
(83,tF),
(84,tF),
(85,tF),
(86,(TI.mk true 3 48 .struct [(0,((9,true))),(1,((72,true)))] [.str [],.int .i64 0,.sl []] true)),
(87,(TI.mk true 3 48 .struct [(0,((9,true))),(1,((72,true)))] [.str [],.int .i64 0,.sl []] true)),
(88,tF),
(89,(TI.mk false 1 24 (.slice 177) [] [.sl []] false)),
(90,(TI.mk true 4 80 .struct [(0,((42,true))),(1,((89,true))),(2,((43,true))),(3,((4,true)))] [.sl [],.sl [],.sl [],.bool false] true)),
(91,(TI.mk true 4 80 .struct [(0,((42,true))),(1,((89,true))),(2,((43,true))),(3,((4,true)))] [.sl [],.sl [],.sl [],.bool false] true)),
(92,(TI.mk false 1 24 (.slice 272) [] [.sl []] false)),
(93,(TI.mk true 10 160 .struct [(0,((3,true))),(1,((9,true))),(2,((92,true))),(3,((9,true))),(4,((74,true)))] [.int .i64 0,.str [],.sl [],.str [],.int .i64 0,.int .i64 0,.str [],.str [],.sl [],.sl []] true)),
(94,(TI.mk true 10 160 .struct [(0,((3,true))),(1,((9,true))),(2,((92,true))),(3,((9,true))),(4,((74,true)))] [.int .i64 0,.str [],.sl [],.str [],.int .i64 0,.int .i64 0,.str [],.str [],.sl [],.sl []] true)),
(95,tF),
(96,tF),
(97,(TI.mk false 1 0 .other [] [.any] false)),
(98,tF),
(99,tF),
(100,tF),
(101,tF),
(102,tF),
(103,tF),
(104,tF),
(105,tF),
(106,tF),
(107,tF),
(108,tF),
(109,tF),
(110,tF),
(111,tF),
(112,(TI.mk false 1 0 .other [] [.any] false)),
(113,tF),
(114,(TI.mk false 1 8 .ptr [] [.nilp] false)),
(115,(TI.mk false 1 0 .other [] [.any] false)),
(116,tF),
(117,(TI.mk false 1 0 .other [] [.any] false)),
(118,(TI.mk false 1 8 (.map 9 69) [] [.nilm] false)),
(119,(TI.mk true 11 208 .struct [(0,((29,true))),(9,((118,true))),(10,((3,true)))] [.str [],.sl [],.sl [],.sl [],.sl [],.bool false,.sl [],.sl [],.sl [],.nilm,.int .i64 0] true)),
(120,(TI.mk true 11 208 .struct [(0,((29,true))),(9,((118,true))),(10,((3,true)))] [.str [],.sl [],.sl [],.sl [],.sl [],.bool false,.sl [],.sl [],.sl [],.nilm,.int .i64 0] true)),
(121,tF),
(122,(TI.mk false 1 0 .other [] [.any] false)),
(123,tF),
(124,tF),
(125,(TI.mk false 1 8 (.map 9 4) [] [.nilm] false)),
(126,tF),
(127,tF),
(128,tF),
(129,tF),
(130,tF),
(131,tF),
(132,tF),
(133,tF),
(134,tF),
(135,tF),
(136,tF),
(137,tF),
(138,tF),
(139,(TI.mk false 1 0 .other [] [.any] false)),
(140,tF),
(141,tF),
(142,tF),
(143,(TI.mk false 1 0 .other [] [.any] false)),
(144,tF),
(145,tF),
(146,tF),
(147,tF),
(148,(TI.mk false 1 24 (.slice 72) [] [.sl []] false)),
(149,(TI.mk true 5 80 .struct [(0,((9,true))),(1,((148,true))),(2,((72,true))),(4,((3,true)))] [.str [],.sl [],.int .i64 0,.sl [],.int .i64 0] true)),
(150,(TI.mk true 5 80 .struct [(0,((9,true))),(1,((148,true))),(2,((72,true))),(4,((3,true)))] [.str [],.sl [],.int .i64 0,.sl [],.int .i64 0] true)),
(151,tF),
(152,tF),
(153,tF),
(154,tF),
(155,tF),
(156,tF),
(157,tF),
(158,(TI.mk false 1 8 (.map 65 65) [] [.nilm] false)),
(159,tF),
(160,(TI.mk false 1 8 (.map 65 76) [] [.nilm] false)),
(161,tF),
(162,tF),
(163,tF),
(164,tF),
(165,tF),
(166,tF),
(167,(TI.mk false 1 0 .other [] [.any] false)),
(168,tF),
(169,tF),
(170,tF),
(171,tF),
(172,tF),
(173,tF),
(174,tF),
(175,tF),
(176,(TI.mk true 3 24 .struct [(0,((3,true))),(1,((3,true))),(2,((3,true)))] [.int .i64 0,.int .i64 0,.int .i64 0] true)),
(177,(TI.mk true 3 24 .struct [(0,((3,true))),(1,((3,true))),(2,((3,true)))] [.int .i64 0,.int .i64 0,.int .i64 0] true)),
(178,tF),
(179,tF),
(180,tF),
(181,(TI.mk false 1 24 (.slice 91) [] [.sl []] false)),
(182,tF),
(183,(TI.mk false 1 0 .other [] [.any] false)),
(184,tF),
(185,tF),
(186,tF),
(187,tF),
(188,tF),
(189,tF),
(190,tF),
(191,tF),
(192,tF),
(193,tF),
(194,tF),
(195,(TI.mk true 2 16 .struct [(0,((193,true))),(1,((194,true)))] [.nilf,.nilf] true)),
(196,(TI.mk true 2 16 .struct [(0,((193,true))),(1,((194,true)))] [.nilf,.nilf] true)),
(197,(TI.mk true 9 144 .struct [(0,((87,true))),(3,((74,true)))] [.str [],.int .i64 0,.sl [],.int .i64 0,.int .i64 0,.str [],.str [],.sl [],.sl []] true)),
(198,(TI.mk true 9 144 .struct [(0,((87,true))),(3,((74,true)))] [.str [],.int .i64 0,.sl [],.int .i64 0,.int .i64 0,.str [],.str [],.sl [],.sl []] true)),
(199,tF),
(200,tF),
(201,(TI.mk true 2 16 .struct [(0,((199,true))),(1,((200,true)))] [.nilf,.nilf] true)),
(202,(TI.mk true 2 16 .struct [(0,((199,true))),(1,((200,true)))] [.nilf,.nilf] true)),
(203,tF),
(204,(TI.mk true 2 16 .struct [(0,((203,true))),(1,((134,true)))] [.nilf,.nilf] true)),
(205,(TI.mk true 2 16 .struct [(0,((203,true))),(1,((134,true)))] [.nilf,.nilf] true)),
(206,tF),
(207,tF),
(208,(TI.mk true 2 16 .struct [(0,((206,true))),(1,((207,true)))] [.nilf,.nilf] true)),
(209,(TI.mk true 2 16 .struct [(0,((206,true))),(1,((207,true)))] [.nilf,.nilf] true)),
(210,(TI.mk false 1 0 .other [] [.any] false)),
(211,tF),
(212,(TI.mk false 1 24 (.slice 198) [] [.sl []] false)),
(213,(TI.mk false 1 0 .other [] [.any] false)),
(214,tF),
(215,tF),
(216,(TI.mk false 1 0 .other [] [.any] false)),
(217,tF),
(218,(TI.mk false 1 24 (.slice 27) [] [.sl []] false)),
(219,(TI.mk false 1 0 .other [] [.any] false)),
(220,tF),
(221,tF),
(222,(TI.mk false 1 0 .other [] [.any] false)),
(223,tF),
(224,tF),
(225,tF),
(226,(TI.mk false 1 0 .other [] [.any] false)),
(227,tF),
(228,tF),
(229,(TI.mk false 1 0 .other [] [.any] false)),
(230,tF),
(231,tF),
(232,tF),
(233,tF),
(234,tF),
(235,tF),
(236,tF),
(237,tF),
(238,(TI.mk false 1 8 .ptr [] [.nilp] false)),
(239,(TI.mk true 12 208 .struct [(0,((42,true))),(1,((44,true))),(2,((3,true))),(3,((3,true))),(4,((55,true)))] [.sl [],.sl [],.int .i64 0,.int .i64 0,.int .i64 0,.int .i64 0,.int .i64 0,.sl [],.sl [],.sl [],.sl [],.sl []] true)),
(240,(TI.mk true 12 208 .struct [(0,((42,true))),(1,((44,true))),(2,((3,true))),(3,((3,true))),(4,((55,true)))] [.sl [],.sl [],.int .i64 0,.int .i64 0,.int .i64 0,.int .i64 0,.int .i64 0,.sl [],.sl [],.sl [],.sl [],.sl []] true)),
(241,tF),
(242,tF),
(243,tF),
(244,tF),
(245,tF),
(246,tF),
(247,tF),
(248,tF),
(249,tF),
(250,tF),
(251,tF),
(252,tF),
(253,tF),
(254,tF),
(255,tF),
(256,tF),
(257,tF),
(258,tF),
(259,tF),
(260,(TI.mk false 1 8 (.int .u64) [] [.int .u64 0] false)),
(261,tF),
(262,tF),
(263,tF),
(264,tF),
(265,tF),
(266,tF),
(267,tF),
(268,(TI.mk true 3 56 .struct [(0,((3,true))),(1,((22,true))),(2,((47,true)))] [.int .i64 0,.sl [],.sl []] true)),
(269,(TI.mk true 3 56 .struct [(0,((3,true))),(1,((22,true))),(2,((47,true)))] [.int .i64 0,.sl [],.sl []] true)),
(270,tF),
(271,(TI.mk true 6 48 .struct [(0,((177,true))),(3,((177,true)))] [.int .i64 0,.int .i64 0,.int .i64 0,.int .i64 0,.int .i64 0,.int .i64 0] true)),
(272,(TI.mk true 6 48 .struct [(0,((177,true))),(3,((177,true)))] [.int .i64 0,.int .i64 0,.int .i64 0,.int .i64 0,.int .i64 0,.int .i64 0] true)),
(273,tF),
(274,tF),
(275,tF),
(276,tF),
(277,tF),
(278,tF),
(279,tF),
(280,tF),
(281,tF),
(282,tF),
(283,tF),
(284,tF),
(285,tF),
(286,tF),
(287,tF),
(288,tF),
(289,tF),
(290,tF),
(291,tF),
(292,tF),
(293,tF),
(294,tF),
(295,tF),
(296,(TI.mk false 1 0 .other [] [.any] false)),
(297,tF),
(298,tF),
(299,tF),
(300,tF),
(301,tF),
(302,tF),
(303,(TI.mk false 1 0 .other [] [.any] false)),
(304,tF),
(305,tF),
(306,tF),
(307,tF),
(308,tF),
(309,tF),
(310,tF),
(311,(TI.mk false 1 8 (.map 65 4) [] [.nilm] false)),
(312,tF),
(313,tF),
(314,tF),
(315,tF),
(316,(TI.mk false 1 8 (.int .i64) [] [.int .i64 0] false)),
(317,(TI.mk false 1 0 .other [] [.any] false)),
(318,tF),
(319,tF),
(320,tF),
(321,tF),
(322,tF),
(323,(TI.mk false 1 4 (.int .u32) [] [.int .u32 0] false)),
(324,tF),
(325,(TI.mk false 1 8 (.int .u64) [] [.int .u64 0] false)),
(326,tF),
(327,tF),
(328,tF),
(329,tF),
(330,tF),
(331,tF),
(332,tF),
(333,tF),
(334,tF),
(335,(TI.mk false 1 24 (.slice 22) [] [.sl []] false)),
(336,tF),
(337,tF),
(338,(TI.mk false 1 24 (.slice 212) [] [.sl []] false)),
(339,tF),
(340,(TI.mk false 1 24 (.slice 25) [] [.sl []] false)),
(341,tF),
(342,(TI.mk false 1 24 (.slice 218) [] [.sl []] false)),
(343,tF),
(344,tF),
(345,tF),
(346,tF),
(347,tF),
(348,tF),
(349,tF),
(350,tF),
(351,tF),
(352,tF),
(353,tF),
(354,(TI.mk false 1 8 (.int .u64) [] [.int .u64 0] false)),
(355,tF),
(356,tF),
(357,tF),
(358,(TI.mk false 1 8 .ptr [] [.nilp] false)),
(359,tF),
(360,tF),
(361,tF),
(362,tF),
(363,tF),
(364,tF),
(365,tF),
(366,(TI.mk false 1 8 .ptr [] [.nilp] false)),
(367,(TI.mk false 1 0 .other [] [.any] false)),
(368,tF),
(369,tF),
(370,(TI.mk false 1 0 .other [] [.any] false)),
(371,tF),
(372,tF),
(373,tF),
(374,(TI.mk true 4 40 .struct [(0,((17,true))),(1,((17,true))),(2,((17,true))),(3,((9,true)))] [.nilp,.nilp,.nilp,.str []] false)),
(375,(TI.mk true 4 40 .struct [(0,((17,true))),(1,((17,true))),(2,((17,true))),(3,((9,true)))] [.nilp,.nilp,.nilp,.str []] false)),
(376,(TI.mk true 0 0 (.array 0 16) [] [] false)),
(377,(TI.mk true 0 0 .struct [(0,((376,false)))] [] false)),
(378,(TI.mk true 0 0 .struct [(0,((376,false)))] [] false)),
(379,tF),
(380,(TI.mk false 1 1 (.int .u8) [] [.int .u8 0] false)),
(381,(TI.mk false 1 1 (.int .u8) [] [.int .u8 0] false)),
(382,tF),
(383,(TI.mk false 1 8 .ptr [] [.nilp] false)),
(384,(TI.mk false 1 4 (.int .i32) [] [.int .i32 0] false)),
(385,(TI.mk false 1 4 (.int .i32) [] [.int .i32 0] false)),
(386,(TI.mk true 11 48 .struct [(0,((12,true))),(1,((12,true))),(2,((323,true))),(3,((380,true))),(4,((5,true))),(5,((5,true))),(6,((381,true))),(7,((382,true))),(8,((383,true))),(9,((384,true))),(10,((385,true)))] [.int .u64 0,.int .u64 0,.int .u32 0,.int .u8 0,.int .u8 0,.int .u8 0,.int .u8 0,.nilf,.nilp,.int .i32 0,.int .i32 0] false)),
(387,(TI.mk true 11 48 .struct [(0,((12,true))),(1,((12,true))),(2,((323,true))),(3,((380,true))),(4,((5,true))),(5,((5,true))),(6,((381,true))),(7,((382,true))),(8,((383,true))),(9,((384,true))),(10,((385,true)))] [.int .u64 0,.int .u64 0,.int .u32 0,.int .u8 0,.int .u8 0,.int .u8 0,.int .u8 0,.nilf,.nilp,.int .i32 0,.int .i32 0] false)),
(388,(TI.mk false 1 8 .other [] [.nilp] false))]
def Ao:List (Nat×TI)→Nat→Option TI
 | [],_=>none
 | (k,x):: r,t=>bif Nat.beq k t then some x else Ao r t
noncomputable def T:TT:=Ao tab
def Mm:Ann:={ kinds:=[(12,.S)],no:=[64],nl:=[33,47,52,62,70,72,77,82,113,118,126,129],lw:=[12],joins:=[(1000001,{ vals:=[(0,none),(3,none),(5,none),(6,some 2),(7,none),(8,none)] })],loops:=[(0,{ vals:=[(0,none),(3,none),(5,none),(6,some 2),(7,none),(8,none)] }),(2,{ vals:=[(0,none),(3,none),(5,none),(6,some 2),(7,none),(8,none),(10,none),(11,none)] }),(4,{ vals:=[(0,none),(3,none),(5,none),(7,none),(12,none),(14,none),(15,none)] }),(6,{ vals:=[(0,none),(3,none),(5,none),(7,none),(12,none),(14,none),(15,none),(16,none),(17,none)] })] }
def O1:Ann:={ kinds:=[(14,.S),(15,.S),(17,.S)],nl:=[46,52,63,66,70,83,90,92,96,103,105,111,115,120,125,130,134,136,143,149,153,155,158,162,166,170,175,186,190,200,206,210,216,220,223,228,232],lw:=[14,15,17],loops:=[(0,{ vals:=[(0,none),(3,none),(4,none),(5,none),(13,none),(14,none),(15,none),(16,none)] }),(2,{ vals:=[(0,none),(13,none),(15,none),(17,none),(18,none)] }),(4,{ vals:=[(0,none),(13,none),(17,none),(19,none)] }),(6,{ vals:=[(0,none),(13,none),(17,none),(19,none),(20,none)] })] }
def O2:Ann:={ kinds:=[(7,.L),(16,.S),(18,.S),(19,.S),(21,.S),(22,.S)],nl:=[34,71,77,97,102,105,108,115,117,126,128,137,142,144,162,172,174,182,186,188,196,199,202,209,213,216,223,227,231,234,237,239],lw:=[16,18,19,21,22,23,32,224,225,229],joins:=[(1000005,{ vals:=[(8,none),(15,none),(16,none),(18,none),(19,none),(21,none),(22,none),(24,none),(25,none),(8000,none),(8001,none),(8002,none),(8003,none),(24000,none),(24001,none),(24002,none),(24003,none),(24004,none),(24005,none),(24006,none),(24007,none),(24008,none),(24009,none),(24010,none),(24011,none)],locs:=[(7,8000,0),(23,24000,0)],lbs:=[(8000,4),(24000,12)] })],loops:=[(0,{ vals:=[(3,none),(4,none),(5,none),(6,none),(8,none),(15,none),(16,none),(17,none),(8000,none),(8001,none),(8002,none),(8003,none)],locs:=[(7,8000,0)],lbs:=[(8000,4)] }),(2,{ vals:=[(8,none),(15,none),(16,none),(18,none),(19,none),(21,none),(22,none),(24,none),(8000,none),(8001,none),(8002,none),(8003,none),(24000,none),(24001,none),(24002,none),(24003,none),(24004,none),(24005,none),(24006,none),(24007,none),(24008,none),(24009,none),(24010,none),(24011,none)],locs:=[(7,8000,0),(23,24000,0)],lbs:=[(8000,4),(24000,12)] }),(4,{ vals:=[(8,none),(15,none),(16,none),(18,none),(19,none),(21,none),(22,none),(24,none),(25,none),(8000,none),(8001,none),(8002,none),(8003,none),(24000,none),(24001,none),(24002,none),(24003,none),(24004,none),(24005,none),(24006,none),(24007,none),(24008,none),(24009,none),(24010,none),(24011,none)],locs:=[(7,8000,0),(23,24000,0)],lbs:=[(8000,4),(24000,12)] }),(6,{ vals:=[(8,none),(15,none),(16,none),(18,none),(21,none),(22,none),(26,none),(27,none),(8000,none),(8001,none),(8002,none),(8003,none),(24000,none),(24001,none),(24002,none),(24003,none),(24004,none),(24005,none),(24006,none),(24007,none),(24008,none),(24009,none),(24010,none),(24011,none)],locs:=[(7,8000,0),(23,24000,0)],lbs:=[(8000,4),(24000,12)] })] }
def HA:Ann:={ kinds:=[(10,.S),(15,.S),(16,.S)],hl:=[42,103],nl:=[19,27,32,37,42,52,58,67,72,79,81,89,92,94,98,103,105,109],lw:=[10,15,16],loops:=[(0,{ vals:=[(2,none),(6,none),(32,none),(33,none),(34,none)] }),(2,{ vals:=[(6,none),(67,none),(68,none),(69,none)] })] }
def HB:Ann:={ kinds:=[(8,.S)],nl:=[13,18,32,37,40,44,50,56,62,68,74,77,82,88,94,100,102,109,112,115,121,126,133],lw:=[8],joins:=[(116,{ vals:=[(1,none),(9,none),(10,none)] })],loops:=[(0,{ vals:=[(1,none),(3,none),(13,none),(14,none),(15,none)] }),(2,{ vals:=[(1,none),(6,none),(32,none),(33,none),(34,none)] })] }
def L5:Ann:={ lw:=[12] }
def HC:Ann:={ kinds:=[(1,.S),(2,.S),(3,.S)],no:=[24,48,57,65],nl:=[14,15,20,22,23,28,34,45,46,47,53,55,56,62,64],lw:=[1,2,3] }
def HD:Ann:={ kinds:=[(4,.S),(6,.S)],no:=[39],nl:=[20,23,33,36,38,44,50,55,60,66,72,79,86,93],lw:=[4,6],loops:=[(0,{ vals:=[(0,none),(3,none)] }),(2,{ vals:=[(0,none),(3,none),(4,none),(5,none)] })] }
def HE:Ann:={ kinds:=[(5,.S),(8,.S)],ha:=[54],hb:=[6,15,33],no:=[46,53],nl:=[9,14,17,22,24,27,29,32,35,40,44],lw:=[2,3,5,6,8,48,55],loops:=[(0,{ vals:=[(17,none),(18,none),(19,none),(3000,none),(3001,none),(4000,none),(4001,none)],locs:=[(2,3000,0),(3,4000,0)],lbs:=[(3000,2),(4000,2)] }),(2,{ vals:=[(17,none),(18,none),(19,none),(35,none),(36,none),(37,none),(3000,none),(3001,none),(4000,none),(4001,none),(7000,none),(7001,some 2),(7002,none),(7003,none),(7004,none)],locs:=[(2,3000,0),(3,4000,0),(6,7000,0)],lbs:=[(3000,2),(4000,2),(7000,5)] })],ords:=[(8,[0,1,2,3,5,6,8,4,7,9])],nils:=[(6,[1])] }
def HF:Ann:={ nl:=[19,21,27,38,40,45],lw:=[4],loops:=[(0,{ vals:=[(0,none),(3,none),(6,none),(5000,none),(5001,none),(5002,none),(5003,none),(5004,none),(5005,none),(5006,none),(5007,none),(5008,none),(5009,none),(5010,none),(5011,none)],locs:=[(4,5000,0)],lbs:=[(5000,12)] }),(2,{ vals:=[(3,none),(7,none),(8,none),(5000,none),(5001,none),(5002,none),(5003,none),(5004,none),(5005,none),(5006,none),(5007,none),(5008,none),(5009,none),(5010,none),(5011,none)],locs:=[(4,5000,0)],lbs:=[(5000,12)] })] }
def HG:Ann:={ nl:=[7],ords:=[(1,[0,2,1,3,4,5,6])] }
def HH:Ann:={ kinds:=[(6,.H),(7,.S)],hl:=[24],hb:=[6],nl:=[11,19,24],lw:=[7],rz:=true,loops:=[(0,{ vals:=[(5,none),(6,none),(13,none)] })] }
def L6:Ann:={ kinds:=[(3,.S),(4,.S),(5,.S),(6,.S),(7,.S),(9,.S),(10,.S),(12,.S)],no:=[15,18,25,28,30,32,36,38,44,48,50,58,60],nl:=[35,47,55,62,65,70,75,84,85,93,98],lw:=[3,4,5,6,7,9,10,12] }
def L8:Ann:={ nl:=[40,48,57,65,74,83,86,94,103,107,115,119,132],loops:=[(0,{ vals:=[(0,none),(1,none),(9,none)] }),(2,{ vals:=[(0,none),(1,none),(9,none),(10,none)] }),(4,{ vals:=[(0,none),(1,none),(9,none),(11,none)] }),(6,{ vals:=[(1,none),(12,none)] })] }
def L9:Ann:={ no:=[30],nl:=[17,28],loops:=[(0,{ vals:=[(0,none),(3,some 2),(4,none)] })] }
def Ma:Ann:={ nl:=[3] }
def Mb:Ann:={ nl:=[11,13,21,28,34,43,46,48,52,56,59,61,65],loops:=[(0,{ vals:=[(2,none),(3,none),(4,none),(7,none)] }),(2,{ vals:=[(2,none),(3,none),(4,none),(7,none),(8,none),(9,none)] })] }
def Mc:Ann:={ kinds:=[(1,.S),(2,.S),(6,.S)],no:=[16,21,26,36,73,102,105],nl:=[29,30,39,42,46,47,53,54,60,66,71,77,83,90,100,103],lw:=[1,2,3,4,5,6,17,22,27] }
def Md:Ann:={ nl:=[12,22,26,31,35,41,45,51,54,60,64,70,74,77,82,86,92,96,100,105,109,113,119,129,133,138,142,148,152,155,159,164,170,176,182],loops:=[(0,{ vals:=[(2,none),(3,none),(5,none)] }),(2,{ vals:=[(2,none),(3,none),(5,none),(6,none)] }),(4,{ vals:=[(2,none),(3,none),(5,none),(7,none)] }),(6,{ vals:=[(2,none),(3,none),(8,none)] }),(8,{ vals:=[(2,none),(3,none),(8,none),(9,none)] })] }
def Me:Ann:={ no:=[30],nl:=[17,28],loops:=[(0,{ vals:=[(0,none),(3,some 2),(4,none)] })] }
def Mf:Ann:={ nl:=[15,27,30],loops:=[(0,{ vals:=[(1,none),(2,none),(3,none),(7,none),(8,none)] })] }
def Mg:Ann:={ kinds:=[(6,.S)],nl:=[9,10,18,20],lw:=[4,6] }
def Mh:Ann:={ no:=[39],nl:=[16,22],lw:=[5,24],loops:=[(0,{ vals:=[(0,none),(3,some 9),(4,none)] }),(2,{ vals:=[(0,none),(3,some 9),(4,none),(6,none),(6000,none),(6001,none),(6002,none),(6003,none),(6004,none),(6005,none),(6006,none),(6007,none),(6008,none)],locs:=[(5,6000,0)],lbs:=[(6000,9)] })] }
def Mi:Ann:={ kinds:=[(9,.S)],no:=[43],nl:=[12,14,18,20,25,42,47,50,58,63],lw:=[9],loops:=[(0,{ vals:=[(1,none),(3,none),(5,none),(7,some 1),(8,none)] })] }
def Mj:Ann:={ kinds:=[(5,.S),(9,.S)],nl:=[13,14,18,19,23,24,34,37,42,44,45,46,53,58,60],lw:=[5,9],loops:=[(0,{ vals:=[(3,none),(5,none),(7,none),(37,none),(38,none),(39,none)] })] }
def Mk:Ann:={ nl:=[15,16],loops:=[(0,{ vals:=[(0,none),(3,none),(5,none)] })] }
def Ml:Ann:={ kinds:=[(5,.S)],nl:=[8,9,16,17],lw:=[5] }
def HI:Ann:={ iso:=false,kinds:=[(8,.S),(10,.S),(11,.S),(16,.H)],hl:=[44,55],hb:=[15],nl:=[13,22,24,29,31,36,44,46,55,57,58],lw:=[8,10,11],loops:=[(0,{ vals:=[(6,none),(17,none),(18,none),(19,none)] }),(2,{ vals:=[(6,none),(8,none),(17,none),(18,none),(19,none),(24,none),(25,none),(26,none)] })] }
def HJ:Ann:={ kinds:=[(5,.S),(8,.S),(11,.S)],nl:=[14,20,22,24,27,29,34,38,41,47,49,52,55,58,60,65,70,76,78,80,83,86,88,93],lw:=[5,8,11],loops:=[(0,{ vals:=[(1,none),(14,none),(15,none),(16,none)] }),(2,{ vals:=[(1,none),(41,none),(42,none),(43,none)] }),(4,{ vals:=[(1,none),(70,none),(71,none),(72,none)] })] }
def HK:Ann:={ iso:=false,kinds:=[(8,.S),(10,.S)],hl:=[95],no:=[51],nl:=[15,21,26,34,36,48,49,54,56,65,73,81,90,95,97,101],lw:=[6,8,10],joins:=[(60,{ vals:=[(0,none),(1,none),(5,none),(15,none),(60,none),(7000,none),(7001,none)],locs:=[(6,7000,0)],lbs:=[(7000,2)] }),(91,{ vals:=[(5,none),(12,none),(7000,none),(7001,none)],locs:=[(6,7000,0)],lbs:=[(7000,2)] })],ords:=[(11,[0,1,3,4,5,6,7,9,10,11,12,2,8,13,14,15,16,17])] }
def HL:Ann:={ nl:=[6,8,12] }
def HM:Ann:={  }
def HN:Ann:={ kinds:=[(7,.S)],nl:=[14,17,21,27,33],lw:=[7],loops:=[(0,{ vals:=[(0,none),(1,none),(5,none),(9,none),(10,none),(11,none)] })] }
def HO:Ann:={ nl:=[3] }
def HP:Ann:={ nl:=[3] }
def HQ:Ann:={ kinds:=[(6,.S)],nl:=[12,13],lw:=[6],loops:=[(0,{ vals:=[(0,none),(1,none),(7,none),(8,none),(9,none)] })] }
def Mn:Ann:={ kinds:=[(7,.S),(10,.S),(11,.S)],hb:=[8,26],no:=[52,58],nl:=[23,25,28,31,35,40,42,51],lw:=[7,8,10,11,54],loops:=[(0,{ vals:=[(5,some 2),(18,none),(19,none),(20,none)] }),(2,{ vals:=[(5,some 2),(18,none),(19,none),(20,none),(35,none),(36,none),(37,none),(9000,none),(9001,some 4)],locs:=[(8,9000,0)],lbs:=[(9000,2)] })],nils:=[(8,[1])] }
def Mo:Ann:={ kinds:=[(16,.S),(17,.S),(18,.S),(21,.S),(45,.H)],hl:=[81,110],ha:=[89],hb:=[44],no:=[88],nl:=[46,50,51,59,62,66,75,76,77,81,83,85,95,96,107,110],lw:=[14,16,17,18,21],loops:=[(0,{ vals:=[(11,none),(16,none),(17,none),(18,none),(70,none),(71,none),(72,none),(15000,none),(15001,none),(15002,none),(15003,none),(15004,none),(15005,none),(15006,none),(15007,none)],locs:=[(14,15000,0)],lbs:=[(15000,8)] })] }
def HR:Ann:={ kinds:=[(3,.S),(4,.S)],no:=[6,13,16,19,22,24],nl:=[12,18],lw:=[3,4] }
def HS:Ann:={ kinds:=[(5,.L),(9,.S)],ha:=[25,35],no:=[25,34],nl:=[14,27],lw:=[5,9],loops:=[(0,{ vals:=[(4,none),(8,none),(11,none),(6000,none),(6001,none)],locs:=[(5,6000,0)],lbs:=[(6000,2)] })],ords:=[(1,[0,2,1,3,4])] }
def HT:Ann:={ nl:=[20,24],loops:=[(0,{ vals:=[(0,none),(1,none),(5,none)] })] }
def HU:Ann:={ kinds:=[(6,.S)],nl:=[12,19],lw:=[6] }
def HV:Ann:={ kinds:=[(7,.S),(8,.S),(9,.S)],ha:=[36],hb:=[6],no:=[35],nl:=[22,24,31,34],lw:=[7,8,9],rz:=true,loops:=[(0,{ vals:=[(3,none),(5,none),(6,none),(14,none)] })],ords:=[(6,[0,1,3,8,2,4,5,6,7,9,10])] }
def HW:Ann:={ nl:=[17],loops:=[(0,{ vals:=[(0,none),(3,none)] })] }
def HX:Ann:={ nl:=[18],loops:=[(0,{ vals:=[(0,none),(3,none)] })] }
def HY:Ann:={ nl:=[15,27,31],loops:=[(0,{ vals:=[(1,none),(2,none),(3,none),(7,none),(8,none)] })] }
def Dw:Ann:={ kinds:=[(1,.L),(4,.S)],nl:=[16,21],lw:=[2,4,8],loops:=[(0,{ vals:=[(10,none),(11,none),(12,none),(2000,none),(2001,none),(3000,none),(3001,none)],locs:=[(1,2000,0),(2,3000,0)],lbs:=[(2000,2),(3000,2)] })] }
def Dx:Ann:={ nl:=[6,8] }
def zZ:Ann:={  }
def HZ:Ann:={ iso:=false }
def H1:Ann:={ iso:=false,kinds:=[(5,.S),(10,.S),(11,.S)],no:=[57],nl:=[15,22,23,25,35,41,44,51,54,56],lw:=[5,10,11],so:=[31],loops:=[(0,{ vals:=[(0,none),(7,none),(8,some 2)] }),(2,{ vals:=[(0,none),(7,none),(8,some 2),(36,none),(37,none),(38,none)] })] }
def Dy:Ann:={ no:=[15],nl:=[6,8,11,13] }
def H3:Ann:={ iso:=false,kinds:=[(5,.S)],nl:=[7,10,15,16],lw:=[5],loops:=[(0,{ vals:=[(1,none),(10,none),(11,none),(12,none)] })] }
def H4:Ann:={ iso:=false,hl:=[6],nl:=[4,6,8] }
def Mp:Ann:={ kinds:=[(1,.S),(2,.S),(3,.S)],no:=[5,9,12,14,18,20,22,24],nl:=[8,13,21],lw:=[1,2,3] }
def Mq:Ann:={ lw:=[2] }
def Mr:Ann:={ kinds:=[(8,.S),(20,.H)],hb:=[19],nl:=[9,11,15],lw:=[6,8] }
def Mt:Ann:={ nl:=[10,15,21,27,32,35,39,45,47,54,57,62,65,67] }
def Mu:Ann:={ nl:=[5,8,12,13] }
def Mv:Ann:={ nl:=[3] }
def Mw:Ann:={ nl:=[8,18,22,27,31,38,41,48,51,65,69,74,80,86,93],loops:=[(0,{ vals:=[(1,none),(3,none)] }),(2,{ vals:=[(1,none),(4,none),(5,none)] })] }
def Mx:Ann:={ nl:=[15,27,30],loops:=[(0,{ vals:=[(1,none),(2,none),(3,none),(7,none),(8,none)] })] }
def IL:Ann:={ nl:=[15,27,30],loops:=[(0,{ vals:=[(1,none),(2,none),(3,none),(7,none),(8,none)] })] }
def IM:Ann:={ nl:=[10,15,20,23,28,31,35,38,43,48,52,56,62,68,74,77],loops:=[(0,{ vals:=[(1,none),(2,none),(5,none)] })] }
def IP:Ann:={ kinds:=[(1,.S)],no:=[4,9],nl:=[10],lw:=[0,1] }
def IQ:Ann:={ kinds:=[(3,.S),(4,.S),(5,.S)],no:=[9,13,15,18,20,23,25,29],nl:=[10,14,19,22],lw:=[2,3,4,5] }
def IR:Ann:={ no:=[11],lw:=[6] }
def IU:Ann:={ nl:=[20,24],loops:=[(0,{ vals:=[(0,none),(1,none),(5,none)] })] }
def IV:Ann:={ nl:=[20,24],loops:=[(0,{ vals:=[(0,none),(1,none),(5,none)] })] }
def IW:Ann:={ kinds:=[(5,.S),(9,.S)],no:=[38],nl:=[13,14,21,27,29,30,31],lw:=[5,9],loops:=[(0,{ vals:=[(3,none),(5,none),(7,some 1),(21,none),(22,none),(23,none)] })] }
def IX:Ann:={ kinds:=[(7,.S)],no:=[26],nl:=[14,16,19,20],lw:=[7],loops:=[(0,{ vals:=[(3,none),(5,some 1),(8,none),(9,none),(10,none)] })] }
def IY:Ann:={ nl:=[8,18,22,27,31,38,41,48,51,65,69,74,80,86,93],loops:=[(0,{ vals:=[(1,none),(3,none)] }),(2,{ vals:=[(1,none),(4,none),(5,none)] })] }
def IZ:Ann:={ nl:=[15,27,30],loops:=[(0,{ vals:=[(1,none),(2,none),(3,none),(7,none),(8,none)] })] }
def I0:Ann:={ nl:=[9,17,23,25,28,34,38,45,49,52],lw:=[4] }
def I1:Ann:={ kinds:=[(10,.S),(11,.S)],no:=[44],nl:=[14,16,20,22,27,30,35,40,43,49,52,60,64],lw:=[10,11],loops:=[(0,{ vals:=[(4,none),(5,none),(8,some 1),(35,none),(36,none),(37,none)] })] }
def I2:Ann:={ nl:=[6] }
def I3:Ann:={ nl:=[19,23],loops:=[(0,{ vals:=[(0,none),(1,none),(12,none),(13,none)] })] }
def CQ:Ann:={ nl:=[3] }
def CR:Ann:={  }
def CS:Ann:={ nl:=[3] }
def CU:Ann:={ kinds:=[(10,.S),(15,.H)],hl:=[31],hb:=[14],nl:=[19,31,34,35],lw:=[10] }
def jz:Ann:={  }
def CV:Ann:={ iso:=false,kinds:=[(8,.S),(10,.S)],hl:=[17],nl:=[17,19,27,33,35,45,46,50],lw:=[6,8,10],joins:=[(28,{ vals:=[(8,none),(7000,none),(7001,none)],locs:=[(6,7000,0)],lbs:=[(7000,2)] })],ords:=[(1,[0,1,2,3,4,5,6,11,7,8,9,10,12,13])] }
def CW:Ann:={ iso:=false,kinds:=[(8,.S),(13,.S)],hl:=[63],nl:=[16,24,27,35,49,50,52,55,63,65,70],lw:=[6,8,13],loops:=[(0,{ vals:=[(0,none),(8,none),(43,none),(44,none),(45,none),(7000,none),(7001,none)],locs:=[(6,7000,0)],lbs:=[(7000,2)] })] }
def CX:Ann:={ iso:=false,kinds:=[(10,.S),(11,.S)],no:=[31],nl:=[18,22,30],lw:=[10,11],loops:=[(0,{ vals:=[(0,none),(1,none),(8,some 2),(13,none),(14,none),(15,none)] })] }
def CY:Ann:={ kinds:=[(7,.H),(10,.S)],hl:=[77,104],ha:=[86],hb:=[7,12],no:=[85],nl:=[14,49,51,52,54,60,63,69,75,77,79,82,83,92,95,97,104],lw:=[4,10],joins:=[(15,{ vals:=[(2,none),(3,none),(6,none),(7,none),(8,none),(14,none),(15,none),(5000,none),(5001,none)],locs:=[(4,5000,0)],lbs:=[(5000,2)] }),(39,{ vals:=[(2,none),(3,none),(6,none),(7,none),(8,none),(14,none),(39,none),(5000,none),(5001,none)],locs:=[(4,5000,0)],lbs:=[(5000,2)] }),(1000000,{ vals:=[(7,none),(8,none),(5000,none),(5001,none)],locs:=[(4,5000,0)],lbs:=[(5000,2)] })],loops:=[(1,{ vals:=[(2,none),(7,none),(8,none),(69,none),(70,none),(71,none),(5000,none),(5001,none)],locs:=[(4,5000,0)],lbs:=[(5000,2)] })] }
def CZ:Ann:={  }
def C0:Ann:={ kinds:=[(4,.S)],nl:=[8,10,17,19],lw:=[4] }
def C1:Ann:={  }
def C2:Ann:={ kinds:=[(6,.S)],nl:=[11,16,21,27,31,37,43,45,53,55,60,66],lw:=[6],loops:=[(0,{ vals:=[(1,none),(2,none),(37,none),(38,none),(39,none)] })] }
def C3:Ann:={ kinds:=[(5,.S),(8,.S)],nl:=[13,18,22,31,37,39,44,46,51,53,58,61,66,71,76,77],lw:=[5,8],loops:=[(0,{ vals:=[(1,none),(71,none),(72,none),(73,none)] })] }
def I4:Ann:={ kinds:=[(4,.S)],nl:=[14],lw:=[4],loops:=[(0,{ vals:=[(0,none),(8,none),(9,none),(10,none)] })] }
def I5:Ann:={  }
def I6:Ann:={ iso:=false,hl:=[8],nl:=[8] }
def I7:Ann:={ iso:=false,hl:=[16],nl:=[16,20,30],lw:=[6] }
def I8:Ann:={  }
def I9:Ann:={ nl:=[3] }
def ua:Ann:={ iso:=false,ha:=[7] }
def Ja:Ann:={ iso:=false,nl:=[5,6,7,8],lw:=[4] }
def Jb:Ann:={ iso:=false,kinds:=[(11,.S),(12,.S)],hl:=[16,26,30,67,79],ha:=[41],no:=[40],nl:=[16,20,26,30,34,36,48,54,57,61,67,74,79,83],lw:=[8,9,11,12],joins:=[(20,{ vals:=[(0,none),(1,none),(3,none),(6,none),(9000,none),(9001,none),(9002,none),(9003,none)],locs:=[(8,9000,0)],lbs:=[(9000,4)] })],loops:=[(0,{ vals:=[(0,none),(3,none),(6,none),(48,none),(49,none),(50,none),(9000,none),(9001,none),(9002,none),(9003,none),(10000,none),(10001,none),(10002,none)],locs:=[(8,9000,0),(9,10000,0)],lbs:=[(9000,4),(10000,3)] })] }
def Jc:Ann:={ kinds:=[(8,.S),(9,.S)],nl:=[21,25,27,28],lw:=[8,9],loops:=[(0,{ vals:=[(1,none),(2,none),(15,none),(16,none),(17,none)] })] }
def C4:Ann:={ lw:=[4] }
def C6:Ann:={ iso:=false,hl:=[21,25],nl:=[21,25],loops:=[(0,{ vals:=[(0,none),(2,none),(3,none)] })] }
def C7:Ann:={ iso:=false,kinds:=[(5,.S)],nl:=[7,8,13],lw:=[5] }
def C8:Ann:={ nl:=[13,21,33,36],loops:=[(0,{ vals:=[(1,none),(2,none),(3,none),(7,none),(8,none)] })] }
def ub:Ann:={  }
def Jd:Ann:={ kinds:=[(3,.S)],nl:=[4,11],lw:=[3],loops:=[(0,{ vals:=[(0,none),(5,none)] })] }
def yt:Ann:={ nl:=[11],loops:=[(0,{ vals:=[(3,none),(6,none),(7,none),(8,none)] })] }
def Je:Ann:={ nl:=[3] }
def Jf:Ann:={ iso:=false,nl:=[5,6,7,9],lw:=[4] }
def Jg:Ann:={ iso:=false,kinds:=[(9,.S)],hl:=[14,20],nl:=[14,20,25,35,42,46,51,55,60,66,74,77,79,82,85,94,96,98,100,103,105,107,114,116,118,121,125,129,131,133,139,141,143,150,152,154,157,159,161,164,166,168,173,175,177,179,181,185,187,192,193,198,200,202,205,207,210,218,221,225,226,229,230],lw:=[6,9],joins:=[(87,{ vals:=[(0,none),(4,none),(5,none),(42,none),(87,none),(7000,none),(7001,none),(7002,none),(7003,none)],locs:=[(6,7000,0)],lbs:=[(7000,4)] }),(110,{ vals:=[(0,none),(4,none),(5,none),(42,none),(110,none),(7000,none),(7001,none),(7002,none),(7003,none)],locs:=[(6,7000,0)],lbs:=[(7000,4)] }),(1000000,{ vals:=[(0,none),(4,none),(5,none),(7000,none),(7001,none),(7002,none),(7003,none)],locs:=[(6,7000,0)],lbs:=[(7000,4)] })],loops:=[(1,{ vals:=[(0,none),(4,none),(5,none),(8,none),(7000,none),(7001,none),(7002,none),(7003,none)],locs:=[(6,7000,0)],lbs:=[(7000,4)] })],ords:=[(23,[0,1,2,3,4,5,6,7,9,10,11,12,13,14,8,15,16,17]),(26,[0,1,2,3,4,5,7,8,9,6,10]),(36,[0,1,2,3,4,5,6,7,8,9,12,13,14,15,10,11,16,17]),(40,[0,1,2,3,4,5,7,6,8])] }
def Jh:Ann:={ nl:=[6,8,12,14,19,21,26,28] }
def Ji:Ann:={ nl:=[5,8,12,16,21,27,31,36,41,45,50,53,59,65,70] }
def Jj:Ann:={ nl:=[18],loops:=[(0,{ vals:=[(0,none),(3,none)] })] }
def Jk:Ann:={ nl:=[15,27,31],loops:=[(0,{ vals:=[(1,none),(2,none),(3,none),(7,none),(8,none)] })] }
def Jl:Ann:={ nl:=[14,18],loops:=[(0,{ vals:=[(0,none),(3,none)] })] }
def Jm:Ann:={ lw:=[2] }
def Jn:Ann:={ nl:=[18],loops:=[(0,{ vals:=[(0,none),(3,none)] })] }
def Jo:Ann:={ nl:=[15,27,31],loops:=[(0,{ vals:=[(1,none),(2,none),(3,none),(7,none),(8,none)] })] }
def Jp:Ann:={ nl:=[15],loops:=[(0,{ vals:=[(0,none),(1,none),(7,none),(8,none)] })] }
def Jq:Ann:={ nl:=[5,7] }
def Jr:Ann:={  }
def C9:Ann:={ nl:=[15],loops:=[(0,{ vals:=[(0,none),(1,none),(7,none),(8,none)] })] }
def Js:Ann:={ nl:=[5,7] }
def Jt:Ann:={ nl:=[11,15],loops:=[(0,{ vals:=[(0,none),(3,none),(7,none),(8,none)] })] }
def Da:Ann:={  }
def Db:Ann:={ nl:=[15],loops:=[(0,{ vals:=[(0,none),(1,none),(7,none),(8,none)] })] }
def Dc:Ann:={ iso:=false,kinds:=[(7,.S),(10,.S),(11,.S)],hl:=[21,31,60,81],hb:=[8,39],no:=[51],nl:=[15,21,31,34,36,38,41,46,50,60,62,67,81,83,89,92],lw:=[4,7,8,10,11,53],loops:=[(0,{ vals:=[(41,none),(42,none),(43,none),(5000,none),(5001,none),(5002,none),(5003,none),(5004,none),(9000,none),(9001,some 2),(9002,none),(9003,none),(9004,none)],locs:=[(4,5000,0),(8,9000,0)],lbs:=[(5000,5),(9000,5)] })],nils:=[(8,[1])] }
def Dd:Ann:={ nl:=[4] }
def De:Ann:={ nl:=[5,6] }
def Df:Ann:={ kinds:=[(8,.S),(9,.S),(11,.S)],hb:=[6,21],no:=[52],nl:=[14,16,20,23,28,31,33,40,41,49,50],lw:=[4,6,8,9,11,54],loops:=[(0,{ vals:=[(3,none),(23,none),(24,none),(25,none),(5000,none),(5001,none),(7000,none),(7001,some 3)],locs:=[(4,5000,0),(6,7000,0)],lbs:=[(5000,2),(7000,2)] })],nils:=[(6,[1])] }
def Dg:Ann:={ nl:=[15],loops:=[(0,{ vals:=[(0,none),(1,none),(7,none),(8,none)] })] }
def Dh:Ann:={  }
def Di:Ann:={ loops:=[(0,{ vals:=[(0,none),(1,none),(5,none)] })] }
def Dj:Ann:={  }
def Dk:Ann:={  }
def Dl:Ann:={ nl:=[6,8,11,16,23,30,36,45,54,58,63,65],lw:=[2,4,17,24,31,37,46,55,66,67],joins:=[(12,{ vals:=[(1,none),(11,none),(12,none),(3000,none),(3001,none),(3002,none),(3003,none),(3004,none),(3005,none),(5000,none),(5001,none),(5002,none),(5003,none),(5004,none),(5005,none)],locs:=[(2,3000,0),(4,5000,0)],lbs:=[(3000,6),(5000,6)] }),(19,{ vals:=[(1,none),(11,none),(19,none),(3000,none),(3001,none),(3002,none),(3003,none),(3004,none),(3005,none),(5000,none),(5001,none),(5002,none),(5003,none),(5004,none),(5005,none)],locs:=[(2,3000,0),(4,5000,0)],lbs:=[(3000,6),(5000,6)] }),(26,{ vals:=[(1,none),(11,none),(26,none),(3000,none),(3001,none),(3002,none),(3003,none),(3004,none),(3005,none),(5000,none),(5001,none),(5002,none),(5003,none),(5004,none),(5005,none)],locs:=[(2,3000,0),(4,5000,0)],lbs:=[(3000,6),(5000,6)] })] }
def Dm:Ann:={ nl:=[6,10,14,20,24,30,34,39,44,54,59,63,67,73,80,86,96,100,106],joins:=[(47,{ vals:=[(1,none),(6,none),(47,none)] })],loops:=[(1,{ vals:=[(1,none),(80,none),(81,none),(82,none)] })] }
def Ju:Ann:={  }
def Jv:Ann:={ nl:=[5,7] }
def Jw:Ann:={ kinds:=[(8,.S),(9,.S)],nl:=[21,25,27,28],lw:=[8,9],loops:=[(0,{ vals:=[(1,none),(2,none),(15,none),(16,none),(17,none)] })] }
def Jy:Ann:={ nl:=[6,8,12,15,21] }
def Jz:Ann:={ nl:=[3] }
def JB:Ann:={ nl:=[5,6] }
def JC:Ann:={ nl:=[5,6] }
def JD:Ann:={ nl:=[15],loops:=[(0,{ vals:=[(0,none),(1,none),(7,none),(8,none)] })] }
def JE:Ann:={  }
def JF:Ann:={ no:=[13,19],nl:=[8,10,16,18],lw:=[6] }
def Dn:Ann:={ iso:=false,kinds:=[(5,.S),(6,.S)],no:=[12],nl:=[9,11,15,18,19,24,31,35,38,39],lw:=[5,6] }
def Do:Ann:={ nl:=[11],loops:=[(0,{ vals:=[(3,none),(6,none),(7,none),(8,none)] })] }
def Dp:Ann:={ iso:=false }
def JG:Ann:={ joins:=[(4,{ vals:=[(3,none),(4,none)] }),(9,{ vals:=[(3,none),(9,none)] }),(14,{ vals:=[(3,none),(14,none)] }),(25,{ vals:=[(25,none)] })] }
def JH:Ann:={ lw:=[2] }
def JI:Ann:={ lw:=[2] }
def JJ:Ann:={ iso:=false,nl:=[10,12,16,21,23,27,31,39,41,47,49,55,57,61,63],lw:=[6] }
def JK:Ann:={ iso:=false,kinds:=[(7,.S)],nl:=[9,10,13,17],lw:=[7] }
def JL:Ann:={ iso:=false,kinds:=[(9,.S)],hb:=[7,31],no:=[45],nl:=[11,14,19,24,29,33,38,42,43],lw:=[6,7,9,47],loops:=[(0,{ vals:=[(0,none),(4,none),(33,none),(34,none),(35,none),(7000,none),(7001,none),(7002,none),(7003,none),(8000,none),(8001,none),(8002,none),(8003,some 4)],locs:=[(6,7000,0),(7,8000,0)],lbs:=[(7000,4),(8000,4)] })],nils:=[(7,[3])] }
def Dq:Ann:={ nl:=[15],loops:=[(0,{ vals:=[(0,none),(1,none),(7,none),(8,none)] })] }
def JM:Ann:={ iso:=false,kinds:=[(8,.S),(12,.S)],no:=[61],nl:=[14,16,20,26,33,37,42,45,50,55,58,59,66],lw:=[6,8,12],joins:=[(17,{ vals:=[(0,none),(4,none),(5,none),(7,none),(7000,none),(7001,none),(7002,none),(7003,none)],locs:=[(6,7000,0)],lbs:=[(7000,4)] })],loops:=[(0,{ vals:=[(0,none),(4,none),(7,none),(8,none),(10,some 4),(50,none),(51,none),(52,none),(7000,none),(7001,none),(7002,none),(7003,none)],locs:=[(6,7000,0)],lbs:=[(7000,4)] })] }
def JN:Ann:={ iso:=false,kinds:=[(7,.S)],hl:=[47,54,60,69,90,105,110,127],ha:=[77],no:=[76],nl:=[12,15,17,19,22,26,30,35,40,47,54,56,60,69,71,73,84,90,92,95,105,107,110,112,117,119,121,127],lw:=[6,7],joins:=[(49,{ vals:=[(0,none),(5,none),(7,none),(8,none),(7000,none),(7001,none),(7002,none),(7003,none)],locs:=[(6,7000,0)],lbs:=[(7000,4)] }),(113,{ vals:=[(9,none),(10,none),(7000,none),(7001,none),(7002,none),(7003,none)],locs:=[(6,7000,0)],lbs:=[(7000,4)] })],ords:=[(2,[0,1,2,3,4,5,7,6,8])] }
def JO:Ann:={ nl:=[14,18],loops:=[(0,{ vals:=[(0,none),(3,none)] })] }
def JP:Ann:={ nl:=[4,5] }
def JQ:Ann:={  }
def JS:Ann:={ nl:=[4,5] }
def JU:Ann:={ nl:=[6,7,11,13] }
def Dt:Ann:={ nl:=[5,7] }
def Du:Ann:={ nl:=[15],loops:=[(0,{ vals:=[(0,none),(1,none),(7,none),(8,none)] })] }
def Dv:Ann:={ nl:=[5,7] }
def JV:Ann:={  }
def JW:Ann:={  }
def JX:Ann:={ kinds:=[(3,.S)],nl:=[4,11],lw:=[3],loops:=[(0,{ vals:=[(0,none),(5,none)] })] }
def uc:Ann:={  }
def JY:Ann:={ kinds:=[(5,.S)],nl:=[7,12,14],lw:=[5],loops:=[(0,{ vals:=[(3,none),(7,none),(8,none),(9,none)] })] }
def JZ:Ann:={ nl:=[5,7] }
def J0:Ann:={ nl:=[15],loops:=[(0,{ vals:=[(0,none),(1,none),(7,none),(8,none)] })] }
def J1:Ann:={ no:=[20],nl:=[6,8,11,13,16,18] }
def J2:Ann:={  }
def J3:Ann:={  }
noncomputable def mo:List (Nat×(Func×Ann)):=[
(5,(Tryz.f5,Mm)),
(6,(Tryz.f6,O1)),
(7,(Tryz.f7,O2)),
(12,(Tryz.f12,HA)),
(13,(Tryz.f13,HB)),
(19,(Tryz.f19,L5)),
(21,(Tryz.f21,HC)),
(22,(Tryz.f22,HD)),
(23,(Tryz.f23,HE)),
(24,(Tryz.f24,HF)),
(25,(Tryz.f25,HG)),
(26,(Tryz.f26,HH)),
(27,(Tryz.f27,L6)),
(28,(Tryz.f28,L8)),
(29,(Tryz.f29,L9)),
(30,(Tryz.f30,Ma)),
(31,(Tryz.f31,Mb)),
(32,(Tryz.f32,Mc)),
(33,(Tryz.f33,Md)),
(34,(Tryz.f34,Me)),
(35,(Tryz.f35,Mf)),
(36,(Tryz.f36,Mg)),
(37,(Tryz.f37,Mh)),
(38,(Tryz.f38,Mi)),
(39,(Tryz.f39,Mj)),
(40,(Tryz.f40,Mk)),
(41,(Tryz.f41,Ml)),
(49,(Tryz.f49,HI)),
(50,(Tryz.f50,HJ)),
(51,(Tryz.f51,HK)),
(52,(Tryz.f52,HL)),
(53,(Tryz.f53,HM)),
(54,(Tryz.f54,HN)),
(55,(Tryz.f55,HO)),
(56,(Tryz.f56,HP)),
(57,(Tryz.f57,HQ)),
(70,(Tryz.f70,Mn)),
(71,(Tryz.f71,Mo)),
(73,(Tryz.f73,HR)),
(74,(Tryz.f74,HS)),
(75,(Tryz.f75,HT)),
(76,(Tryz.f76,HU)),
(77,(Tryz.f77,HV)),
(78,(Tryz.f78,HW)),
(79,(Tryz.f79,HX)),
(80,(Tryz.f80,HY)),
(83,(Tryz.f83,Dx)),
(84,(Tryz.f84,zZ)),
(86,(Tryz.f86,HZ)),
(87,(Tryz.f87,H1)),
(89,(Tryz.f89,Dy)),
(90,(Tryz.f90,H3)),
(91,(Tryz.f91,H4)),
(92,(Tryz.f92,Mp)),
(93,(Tryz.f93,Mq)),
(94,(Tryz.f94,Mr)),
(95,(Tryz.f95,Mt)),
(96,(Tryz.f96,Mu)),
(97,(Tryz.f97,Mv)),
(98,(Tryz.f98,Mw)),
(99,(Tryz.f99,Mx)),
(100,(Tryz.f100,IL)),
(101,(Tryz.f101,IM)),
(102,(Tryz.f102,IP)),
(103,(Tryz.f103,IQ)),
(104,(Tryz.f104,IR)),
(105,(Tryz.f105,IU)),
(106,(Tryz.f106,IV)),
(107,(Tryz.f107,IW)),
(108,(Tryz.f108,IX)),
(109,(Tryz.f109,IY)),
(110,(Tryz.f110,IZ)),
(111,(Tryz.f111,I0)),
(112,(Tryz.f112,I1)),
(113,(Tryz.f113,I2)),
(122,(Tryz.f122,I3)),
(141,(Tryz.f141,CQ)),
(142,(Tryz.f142,CR)),
(143,(Tryz.f143,CS)),
(144,(Tryz.f144,CU)),
(147,(Tryz.f147,CV)),
(148,(Tryz.f148,CW)),
(149,(Tryz.f149,CX)),
(150,(Tryz.f150,CY)),
(151,(Tryz.f151,CZ)),
(152,(Tryz.f152,C0)),
(153,(Tryz.f153,C1)),
(155,(Tryz.f155,C2)),
(156,(Tryz.f156,C3)),
(160,(Tryz.f160,I4)),
(161,(Tryz.f161,I5)),
(162,(Tryz.f162,I6)),
(163,(Tryz.f163,I7)),
(164,(Tryz.f164,I8)),
(165,(Tryz.f165,I9)),
(168,(Tryz.f168,Ja)),
(169,(Tryz.f169,Jb)),
(172,(Tryz.f172,Jc)),
(177,(Tryz.f177,C4)),
(178,(Tryz.f178,C6)),
(179,(Tryz.f179,C7)),
(181,(Tryz.f181,C8)),
(184,(Tryz.f184,ub)),
(186,(Tryz.f186,Jd)),
(188,(Tryz.f188,yt)),
(189,(Tryz.f189,Je)),
(190,(Tryz.f190,Jf)),
(191,(Tryz.f191,Jg)),
(192,(Tryz.f192,Jh)),
(193,(Tryz.f193,Ji)),
(194,(Tryz.f194,Jj)),
(195,(Tryz.f195,Jk)),
(196,(Tryz.f196,Jl)),
(197,(Tryz.f197,Jm)),
(198,(Tryz.f198,Jn)),
(199,(Tryz.f199,Jo)),
(200,(Tryz.f200,Jp)),
(201,(Tryz.f201,Jq)),
(202,(Tryz.f202,Jr)),
(203,(Tryz.f203,C9)),
(204,(Tryz.f204,Js)),
(205,(Tryz.f205,Jt)),
(209,(Tryz.f209,Da)),
(222,(Tryz.f222,Db)),
(224,(Tryz.f224,Dc)),
(225,(Tryz.f225,Dd)),
(226,(Tryz.f226,De)),
(227,(Tryz.f227,Df)),
(228,(Tryz.f228,Dg)),
(229,(Tryz.f229,Dh)),
(230,(Tryz.f230,Di)),
(231,(Tryz.f231,Dj)),
(232,(Tryz.f232,Dk)),
(234,(Tryz.f234,Dl)),
(235,(Tryz.f235,Dm)),
(236,(Tryz.f236,Ju)),
(237,(Tryz.f237,Jv)),
(238,(Tryz.f238,Jw)),
(239,(Tryz.f239,Jy)),
(240,(Tryz.f240,Jz)),
(241,(Tryz.f241,JB)),
(242,(Tryz.f242,JC)),
(243,(Tryz.f243,JD)),
(245,(Tryz.f245,JE)),
(246,(Tryz.f246,JF)),
(247,(Tryz.f247,Dn)),
(248,(Tryz.f248,Do)),
(249,(Tryz.f249,Dp)),
(263,(Tryz.f263,JG)),
(264,(Tryz.f264,JH)),
(265,(Tryz.f265,JI)),
(266,(Tryz.f266,JJ)),
(267,(Tryz.f267,JK)),
(268,(Tryz.f268,JL)),
(269,(Tryz.f269,Dq)),
(270,(Tryz.f270,JM)),
(271,(Tryz.f271,JN)),
(272,(Tryz.f272,JO)),
(273,(Tryz.f273,JP)),
(274,(Tryz.f274,JQ)),
(275,(Tryz.f275,JS)),
(276,(Tryz.f276,JU)),
(289,(Tryz.f289,Dt)),
(290,(Tryz.f290,Du)),
(291,(Tryz.f291,Dv)),
(293,(Tryz.f293,JV)),
(294,(Tryz.f294,JW)),
(295,(Tryz.f295,JX)),
(310,(Tryz.f310,JY)),
(311,(Tryz.f311,JZ)),
(312,(Tryz.f312,J0)),
(313,(Tryz.f313,J1)),
(322,(Tryz.f322,J2)),
(326,(Tryz.f326,J3))]
def qB:List (Nat×(Func×Ann))→Nat→Option (Func×Ann)
 | [],_=>none
 | (k,x):: r,t=>bif Nat.beq k t then some x else qB r t
def own:FuncId→Option Nat:=fun f=>bif Nat.beq f 146 then some 3 else bif Nat.beq f 278 then some 1 else bif Nat.beq f 281 then some 9 else bif Nat.beq f 283 then some 12 else bif Nat.beq f 285 then some 3 else bif Nat.beq f 293 then some 1 else bif Nat.beq f 294 then some 4 else none
noncomputable def other:FuncId→Option ((FuncId→List AV→M AV)→List AV→M AV):=fun f=>
 bif Nat.beq f 81 then some (kW) else bif Nat.beq f 82 then some (fV 5 83) else bif Nat.beq f 85 then some (lx [186,295] 89) else bif Nat.beq f 88 then some (qS) else bif Nat.beq f 145 then some (lh) else bif Nat.beq f 146 then some (fe T 23) else bif Nat.beq f 154 then some (jj) else bif Nat.beq f 166 then some (dJ T 47) else bif Nat.beq f 167 then some (zP 33 .i64 (.agg [.int .i64 0,.int .i64 0,.sl [],.sl []])) else bif Nat.beq f 180 then some (gD 89) else bif Nat.beq f 309 then some (fe T 22) else none
noncomputable def pg:Pg:={ T:=T,funcs:=qB mo,own:=own,other:=other,nw:=fun f=>bif Nat.beq f 166 then true else false }
theorem hOther:dx pg:=by
 intro f E hE call calls hc
 have h0:other f=some E:=hE
 unfold other at h0
 rcases dv h0 with rfl | h0
 ·exact ba.const _
 rcases dv h0 with rfl | h0
 ·exact ba.const _
 rcases dv h0 with rfl | h0
 ·exact ba.const _
 rcases dv h0 with rfl | h0
 ·exact ba.const _
 rcases dv h0 with rfl | h0
 ·exact ba.const _
 rcases dv h0 with rfl | h0
 ·exact qq _ _ _ _
 rcases dv h0 with rfl | h0
 ·exact ba.const _
 rcases dv h0 with rfl | h0
 ·exact qn _ _ _ _
 rcases dv h0 with rfl | h0
 ·exact FD _ _ _ _ _ hc
 rcases dv h0 with rfl | h0
 ·exact ba.const _
 rcases dv h0 with rfl | h0
 ·exact qq _ _ _ _
 cases h0
end Go.Proofs.YtkkabinknmldeaaGreat
