/- What the functions of the seat compute, part 1: the texts of the claim, one behind the other. Conditions: bounds, as each theorem names them. -/
import Derived.RangeFuncNested
import Derived.RangeFuncBound
import Derived.RangeFuncCalls
import Derived.RangeFuncLeaves
import Derived.RangeFuncBox
import Derived.Shelf.Abstract
import Derived.Shelf.RegionOpen
import Derived.WalkKit
import Derived.OwnWalkIn
import Derived.TacticsInMore
import Derived.LoopNIn
import Derived.LoopIn
import Derived.Test.YtnipfhmghjdnmaaGreatLb
import Derived.Test.YtnipfhmghjdnmaaGreatProg
import Derived.Test.YtnipfhmghjdnmaaGreatLd
import Derived.KernelRfl
import Derived.Maps.AppendAt

namespace Go.Proofs.YtnipfhmghjdnmaaGreat
open Go Go.Av Go.RowKit Go.Shelf
attribute [local go_sem] Oper.semAt_some
structure F12 where
 n:ByteArray
 a1:Value
 a2:Value
 a3:Value
 a4:Value
 a5:Value
 a6:Value
 a7:Value
 a8:Value
 a9:Value
 a10:Value
 a11:Value
instance:Inhabited F12:=⟨⟨⟨#[]⟩,undef,undef,undef,undef,undef,undef,undef,undef,undef,undef,undef⟩⟩
def F12.arr (x:F12):Array Value:=#[.string x.n,x.a1,x.a2,x.a3,x.a4,x.a5,x.a6,x.a7,x.a8,x.a9,x.a10,x.a11]
def F12.v (x:F12):Value:=.agg #[.string x.n,x.a1,x.a2,x.a3,x.a4,x.a5,x.a6,x.a7,x.a8,x.a9,x.a10,x.a11]
def Cells12 (W:World) (b off:Nat) (zs:List F12):Prop:=∀ j,j < zs.length→W.cell? ⟨b,off + j * 12,none⟩=some (.string (zs[j]?.getD default).n)∧W.cell? ⟨b,off + j * 12 + 1,none⟩=some (zs[j]?.getD default).a1∧W.cell? ⟨b,off + j * 12 + 2,none⟩=some (zs[j]?.getD default).a2∧W.cell? ⟨b,off + j * 12 + 3,none⟩=some (zs[j]?.getD default).a3∧W.cell? ⟨b,off + j * 12 + 4,none⟩=some (zs[j]?.getD default).a4∧W.cell? ⟨b,off + j * 12 + 5,none⟩=some (zs[j]?.getD default).a5∧W.cell? ⟨b,off + j * 12 + 6,none⟩=some (zs[j]?.getD default).a6∧W.cell? ⟨b,off + j * 12 + 7,none⟩=some (zs[j]?.getD default).a7∧W.cell? ⟨b,off + j * 12 + 8,none⟩=some (zs[j]?.getD default).a8∧W.cell? ⟨b,off + j * 12 + 9,none⟩=some (zs[j]?.getD default).a9∧W.cell? ⟨b,off + j * 12 + 10,none⟩=some (zs[j]?.getD default).a10∧W.cell? ⟨b,off + j * 12 + 11,none⟩=some (zs[j]?.getD default).a11
def KeepX (n₀ bo:Nat) (A B:World):Prop:=∀ k,k < n₀→k≠bo→B.heap[k]? = A.heap[k]?
theorem KeepX.refl (n₀ bo:Nat) (A:World):KeepX n₀ bo A A:=fun _ _ _=>rfl
theorem KeepX.trans {n₀ bo:Nat} {A B C:World} (h:KeepX n₀ bo A B) (k:KeepX n₀ bo B C):KeepX n₀ bo A C:=fun i hi hn=>(k i hi hn).trans (h i hi hn)
theorem KeepX.cell {n₀ bo:Nat} {A B:World} (h:KeepX n₀ bo A B) {b o:Nat} (hb:b < n₀) (hn:b≠bo):B.cell? ⟨b,o,none⟩=A.cell? ⟨b,o,none⟩:=cell_of_heap (h b hb hn) o
theorem KeepX.of_below {n₀ bo:Nat} {A B:World} (h:Below n₀ A B):KeepX n₀ bo A B:=fun k hk _=>h.block k hk
theorem Cells12.keep {n₀ bo:Nat} {A B:World} (h:KeepX n₀ bo A B) {b off:Nat} (hb:b < n₀) (hn:b≠bo) {zs:List F12} (c:Cells12 A b off zs):Cells12 B b off zs:=fun j hj=>by
 have:=c j hj
 simpa only [h.cell hb hn] using this
theorem keepX_t {n₀ bo:Nat} {A B C:World} (h:KeepX n₀ bo A B) (k:KeepX n₀ bo B C):KeepX n₀ bo A C:=h.trans k
theorem keepX_b {n₀ bo:Nat} {w:World} (hn:n₀≤w.heap.size) (W:World) (l:Nat) (o o':Obj) (hl:w.heap.size≤l) (_h:W.heap[l]? = some o) (_:o.isCells=false) (_:o.isWalk=false):KeepX n₀ bo W (W.putObj l o') :=
 fun k hk _=>World.putObj_heap_other (by omega)
set_option maxRecDepth 100000 in
set_option maxHeartbeats 4000000 in
theorem back1_in (F:Fence) (n:Nat) (h7:F.fn 132) (hro:F.round=none) (hn:1≤n) (l Bs n₀ bo b off cap:Nat) (zs:List F12) (hreach:zs.length≤1000000000) (hb:b < n₀) (hbo:b≠bo) (hBn:Bs < n₀) (hBo:Bs≠bo) (J:Nat→World→Prop) (Jx:World→Prop)
  (hY:∀ k W,J k W→k < zs.length→YieldAt F (n - 1) Tryz.prog l #[.int .i64 ((zs.length - 1 - k:Nat):Int),(zs[zs.length - 1 - k]?.getD default).v] W fun e W' =>
   (e = .returned (.bool true)∧J (k + 1) W'∧KeepX n₀ bo W W')∨(e = .returned (.bool false)∧Jx W'))
  (W:World) (hBs:W.cell? ⟨Bs,0,none⟩=some (.slice (some ⟨b,off,none⟩) zs.length cap)) (hc:Cells12 W b off zs) (h0:J 0 W) :
  CallsIn F n Tryz.prog 132 #[.func (.yield l) #[] #[],.pointer (some ⟨Bs,0,none⟩)] W fun e W'=>(∃ v,e = .returned v)∧(J zs.length W'∨Jx W'):=by
 refine callsIn_of_wp Tryz.func132 rfl h7 ?_ hro
 simp only [Tryz.ntmps132,List.size_toArray,List.length_cons,List.length_nil,Nat.reduceAdd,Nat.reduceSub,Array.replicate_succ,Array.replicate_zero,List.push_toArray,List.append_toArray,List.nil_append,List.cons_append]
 gi_wp2
 gi_loopw [3] (fun i wr=>∃ k:Nat,k≤zs.length∧i = .int .i64 ((zs.length:Int) - 1 - k)∧J k wr∧KeepX n₀ bo W wr)
  (fun i _=>(intOf i + 1).toNat)
 case atStart=>exact ⟨0,Nat.zero_le _,by simp,h0,KeepX.refl _ _ _⟩
 case round =>
  obtain ⟨k,hk,rfl,hJs,hnx⟩:=hrel
  have hbs:wr.cell? ⟨Bs,0,none⟩=some (.slice (some ⟨b,off,none⟩) zs.length cap):=(hnx.cell hBn hBo).trans hBs
  by_cases hlt:k < zs.length
  ·obtain ⟨fn,tmps,assign,body,hy,hR⟩:=hY k wr hJs hlt
   obtain ⟨m,hm⟩:∃ m:Nat,(zs.length:Int) - 1 - k=m:=⟨zs.length - 1 - k,by omega⟩
   have hm':zs.length - 1 - k=m:=by omega
   rw [hm'] at hy
   rw [hm]
   obtain ⟨c0,c1,c2,c3,c4,c5,c6,c7,c8,c9,c10,c11⟩:=(hc.keep hnx hb hbo) m (by omega)
   generalize hz:zs[m]?.getD default=z at hy c0 c1 c2 c3 c4 c5 c6 c7 c8 c9 c10 c11
   obtain ⟨z0,z1,z2,z3,z4,z5,z6,z7,z8,z9,z10,z11⟩:=z
   have hml:m < zs.length:=by omega
   simp only [F12.v] at hy
   simp only at c0 c1 c2 c3 c4 c5 c6 c7 c8 c9 c10 c11
   gi_wp2
   refine hR.mono ?_
   rintro e W3 (⟨rfl,hJ3,hk3⟩ | ⟨rfl,hJx3⟩)
   ·gi_wp2
    go_roundw
    case rel=>exact ⟨k + 1,by omega,by congr 1; omega,hJ3,hnx.trans hk3⟩
    case measure=>simp [intOf] <;> omega
   ·gi_wp2
    refine bodyPost_ret (results_none rfl _ _ _) rfl ?_
    exact ⟨⟨_,rfl⟩,.inr hJx3⟩
  ·obtain rfl:k=zs.length:=by omega
   gi_wp2
   go_end0
   exact ⟨⟨_,rfl⟩,.inl hJs⟩
set_option maxRecDepth 100000 in
set_option maxHeartbeats 1000000 in
theorem back1_nil_in (F:Fence) (n:Nat) (h7:F.fn 132) (hro:F.round=none) (l Bs:Nat) (p:Option Addr) (cap:Nat) (J:World→Prop) (W:World) (hBs:W.cell? ⟨Bs,0,none⟩=some (.slice p 0 cap)) (h0:J W) :
  CallsIn F n Tryz.prog 132 #[.func (.yield l) #[] #[],.pointer (some ⟨Bs,0,none⟩)] W fun e W'=>(∃ v,e = .returned v)∧J W':=by
 refine callsIn_of_wp Tryz.func132 rfl h7 ?_ hro
 simp only [Tryz.ntmps132,List.size_toArray,List.length_cons,List.length_nil,Nat.reduceAdd,Nat.reduceSub,Array.replicate_succ,Array.replicate_zero,List.push_toArray,List.append_toArray,List.nil_append,List.cons_append]
 gi_wp2
 gi_loopw [3] (fun i wr=>i = .int .i64 (-1)∧J wr) (fun _ _=>0)
 case atStart=>exact ⟨rfl,h0⟩
 case round =>
  obtain ⟨rfl,hJs⟩:=hrel
  gi_wp2
  go_end0
  exact ⟨⟨_,rfl⟩,hJs⟩
set_option maxHeartbeats 1000000 in
theorem back_in (F:Fence) (n:Nat) (h5:F.fn 92) (hro:F.round=none) (a:Option Addr) (len cap:Nat) (w:World) :
  CallsIn F n Tryz.prog 92 #[.slice a len cap] w fun e w'=>e = .returned (.func (.func 132) #[] #[.pointer (some ⟨w.heap.size,0,none⟩)])∧w'=w.alloc (.cells #[.slice a len cap] 51):=by
 refine callsIn_of_wp Tryz.func92 rfl h5 ?_ hro
 simp only [Tryz.ntmps92,List.size_toArray,List.length_cons,List.length_nil,Nat.reduceAdd,Nat.reduceSub,Array.replicate_succ,Array.replicate_zero,List.push_toArray,List.append_toArray,List.nil_append,List.cons_append]
 gi_wp2
 go_ret
 exact ⟨rfl,rfl⟩
def Funs12 (n₀ bo:Nat) (W:World) (sv:Value) (zs:List F12):Prop :=
 (zs = []∧∃ p cap,sv = .slice p 0 cap)∨∃ b off cap,sv = .slice (some ⟨b,off,none⟩) zs.length cap∧b < n₀∧b≠bo∧Cells12 W b off zs
theorem Funs12.keep {n₀ bo:Nat} {A B:World} (h:KeepX n₀ bo A B) {sv:Value} {zs:List F12}:Funs12 n₀ bo A sv zs→Funs12 n₀ bo B sv zs
 | .inl e=>.inl e
 | .inr ⟨b,off,cap,e,hb,hn,hc⟩=>.inr ⟨b,off,cap,e,hb,hn,hc.keep h hb hn⟩
theorem Funs12.mono {n n' bo:Nat} (h:n≤n') {W:World} {sv:Value} {zs:List F12}:Funs12 n bo W sv zs→Funs12 n' bo W sv zs
 | .inl e=>.inl e
 | .inr ⟨b,off,cap,e,hb,hn,hc⟩=>.inr ⟨b,off,cap,e,Nat.lt_of_lt_of_le hb h,hn,hc⟩
theorem back_stops (F:Fence) (n:Nat) (h8:F.fn 132) (hro:F.round=none) (hn:1≤n) (Bs bo:Nat) (sv:Value) (zs:List F12) (hreach:zs.length≤1000000000) {α:Type} (encs:α→Array Value) (yl:List α) (hl:yl.length=zs.length)
  (he:∀ k (h:k < yl.length),encs (yl[k]) = #[.int .i64 ((zs.length - 1 - k:Nat):Int),(zs[zs.length - 1 - k]?.getD default).v]) (w:World) (hBs:Bs < w.heap.size) (hBo:Bs≠bo)
  (hc:w.cell? ⟨Bs,0,none⟩=some sv) (hI:Funs12 w.heap.size bo w sv zs) :
  SeqStopsK F n Tryz.prog 132 #[.pointer (some ⟨Bs,0,none⟩)] encs (KeepX w.heap.size bo) (fun ys=>ys=yl) (fun _=>True) zs.length w:=fun l J Jx W hW _ _ hY h0=>by
 have hc':=(hW.cell (p:=⟨Bs,0,none⟩) hBs).trans hc
 rcases hI.keep (KeepX.of_below hW) with ⟨rfl,p,cap,rfl⟩ | ⟨b,off,cap,rfl,hb,hb2,hcs⟩
 ·have:yl = []:=List.length_eq_zero_iff.1 (by simpa using hl)
  subst this
  exact (back1_nil_in F n h8 hro l Bs p cap (J []) W hc' h0).mono fun e W' ⟨he,hj⟩=>⟨he,.inl ⟨_,rfl,hj⟩⟩
 ·refine (back1_in F n h8 hro hn l Bs w.heap.size bo b off cap zs hreach hb hb2 hBs hBo (fun k W=>J (yl.take k) W) (fun W=>∃ pre,True∧Jx pre W) (fun k W hJ hk=>?_) W hc' hcs (by simpa using h0)).mono fun e W' ⟨he,hj⟩=>⟨he,?_⟩
  ·have hka:k < yl.length:=by omega
   have h1:=hY (yl.take k) (yl[k]) W hJ (by rw [List.length_take]; omega)
   rw [he k hka] at h1
   obtain ⟨fn,tmps,assign,body,hy,hR⟩:=h1
   refine ⟨fn,tmps,assign,body,hy,hR.mono fun e W' h=>?_⟩
   rcases h with ⟨h2,h3,h4⟩ | ⟨h2,h3⟩
   ·exact .inl ⟨h2,by rw [List.take_add_one,List.getElem?_eq_getElem hka]; exact h3,h4⟩
   ·exact .inr ⟨h2,_,trivial,h3⟩
  ·rcases hj with hj | hj
   ·exact .inl ⟨yl,rfl,by rwa [← hl,List.take_length] at hj⟩
   ·exact .inr hj
end Go.Proofs.YtnipfhmghjdnmaaGreat

namespace Go.Proofs.YtnipfhmghjdnmaaGreat
open Go Go.Av Go.Av.Ap
abbrev CC:=FuncId→List AV→M AV
theorem lb {α β:Type} {m:M α} {f:α→M β} {fs:Nat→α→M β} (hf:LimF f fs):LimM (bnd m f) fun n=>bnd m (fs n):=LimM.bnd (LimM.const _) hf
noncomputable def tab:List (Nat×TI):=[
(0,(TI.mk Bool.false 1 0 TK.other [] [AV.any] Bool.false)),
(1,(TI.mk Bool.false 1 8 TK.func [] [AV.nilf] Bool.false)),
(2,(TI.mk Bool.false 1 8 (TK.int IntKind.i64) [] [AV.int IntKind.i64 0] Bool.false)),
(3,(TI.mk Bool.false 1 8 (TK.int IntKind.i64) [] [AV.int IntKind.i64 0] Bool.false)),
(4,(TI.mk Bool.false 1 1 TK.bool [] [AV.bool Bool.false] Bool.false)),
(5,(TI.mk Bool.false 1 1 (TK.int IntKind.u8) [] [AV.int IntKind.u8 0] Bool.false)),
(6,(TI.mk Bool.false 1 1 (TK.int IntKind.u8) [] [AV.int IntKind.u8 0] Bool.false)),
(7,(TI.mk Bool.true 4 24 TK.struct [(0,((2,Bool.true))),(1,((3,Bool.true))),(2,((4,Bool.true))),(3,((6,Bool.true)))] [AV.int IntKind.i64 0,AV.int IntKind.i64 0,AV.bool Bool.false,AV.int IntKind.u8 0] Bool.true)),
(8,(TI.mk Bool.true 4 24 TK.struct [(0,((2,Bool.true))),(1,((3,Bool.true))),(2,((4,Bool.true))),(3,((6,Bool.true)))] [AV.int IntKind.i64 0,AV.int IntKind.i64 0,AV.bool Bool.false,AV.int IntKind.u8 0] Bool.true)),
(9,(TI.mk Bool.false 1 16 TK.str [] [AV.str []] Bool.false)),
(10,(TI.mk Bool.false 1 16 TK.str [] [AV.str []] Bool.false)),
(11,(TI.mk Bool.false 1 16 TK.str [] [AV.str []] Bool.false)),
(12,(TI.mk Bool.false 1 8 (TK.int IntKind.u64) [] [AV.int IntKind.u64 0] Bool.false)),
(13,(TI.mk Bool.true 2 24 TK.struct [(0,((9,Bool.true))),(1,((12,Bool.true)))] [AV.str [],AV.int IntKind.u64 0] Bool.false)),
(14,(TI.mk Bool.true 2 24 TK.struct [(0,((9,Bool.true))),(1,((12,Bool.true)))] [AV.str [],AV.int IntKind.u64 0] Bool.false)),
(15,(TI.mk Bool.false 1 8 TK.ptr [] [AV.nilp] Bool.false)),
(16,(TI.mk Bool.false 1 8 TK.ptr [] [AV.nilp] Bool.false)),
(17,(TI.mk Bool.false 1 8 TK.ptr [] [AV.nilp] Bool.false)),
(18,(TI.mk Bool.true 1 8 TK.struct [(0,((17,Bool.true)))] [AV.nilp] Bool.false)),
(19,(TI.mk Bool.true 1 8 TK.struct [(0,((17,Bool.true)))] [AV.nilp] Bool.false)),
(20,(TI.mk Bool.false 1 16 TK.iface [] [AV.nili] Bool.false)),
(21,(TI.mk Bool.false 1 4 (TK.int IntKind.i32) [] [AV.int IntKind.i32 0] Bool.false)),
(22,(TI.mk Bool.false 1 24 (TK.slice 55) [] [AV.sl []] Bool.false)),
(23,(TI.mk Bool.false 1 24 (TK.slice 58) [] [AV.sl []] Bool.false)),
(24,(TI.mk Bool.false 1 24 (TK.slice 63) [] [AV.sl []] Bool.false)),
(25,(TI.mk Bool.true 4 80 TK.struct [(0,((22,Bool.true))),(1,((23,Bool.true))),(2,((24,Bool.true))),(3,((4,Bool.true)))] [AV.sl [],AV.sl [],AV.sl [],AV.bool Bool.false] Bool.true)),
(26,(TI.mk Bool.true 4 80 TK.struct [(0,((22,Bool.true))),(1,((23,Bool.true))),(2,((24,Bool.true))),(3,((4,Bool.true)))] [AV.sl [],AV.sl [],AV.sl [],AV.bool Bool.false] Bool.true)),
(27,(TI.mk Bool.false 1 24 (TK.slice 99) [] [AV.sl []] Bool.false)),
(28,(TI.mk Bool.false 1 24 (TK.slice 9) [] [AV.sl []] Bool.false)),
(29,(TI.mk Bool.false 1 24 (TK.slice 31) [] [AV.sl []] Bool.false)),
(30,(TI.mk Bool.true 6 96 TK.struct [(0,((3,Bool.true))),(1,((3,Bool.true))),(2,((9,Bool.true))),(3,((9,Bool.true))),(4,((28,Bool.true))),(5,((29,Bool.true)))] [AV.int IntKind.i64 0,AV.int IntKind.i64 0,AV.str [],AV.str [],AV.sl [],AV.sl []] Bool.true)),
(31,(TI.mk Bool.true 6 96 TK.struct [(0,((3,Bool.true))),(1,((3,Bool.true))),(2,((9,Bool.true))),(3,((9,Bool.true))),(4,((28,Bool.true))),(5,((29,Bool.true)))] [AV.int IntKind.i64 0,AV.int IntKind.i64 0,AV.str [],AV.str [],AV.sl [],AV.sl []] Bool.true)),
(32,(TI.mk Bool.true 10 160 TK.struct [(0,((3,Bool.true))),(1,((9,Bool.true))),(2,((27,Bool.true))),(3,((9,Bool.true))),(4,((31,Bool.true)))] [AV.int IntKind.i64 0,AV.str [],AV.sl [],AV.str [],AV.int IntKind.i64 0,AV.int IntKind.i64 0,AV.str [],AV.str [],AV.sl [],AV.sl []] Bool.true)),
(33,(TI.mk Bool.true 10 160 TK.struct [(0,((3,Bool.true))),(1,((9,Bool.true))),(2,((27,Bool.true))),(3,((9,Bool.true))),(4,((31,Bool.true)))] [AV.int IntKind.i64 0,AV.str [],AV.sl [],AV.str [],AV.int IntKind.i64 0,AV.int IntKind.i64 0,AV.str [],AV.str [],AV.sl [],AV.sl []] Bool.true)),
(34,(TI.mk Bool.false 1 8 TK.func [] [AV.nilf] Bool.false)),
(35,(TI.mk Bool.false 1 8 TK.func [] [AV.nilf] Bool.false)),
(36,(TI.mk Bool.true 2 32 TK.struct [(0,((9,Bool.true))),(1,((9,Bool.true)))] [AV.str [],AV.str []] Bool.true)),
(37,(TI.mk Bool.true 2 32 TK.struct [(0,((9,Bool.true))),(1,((9,Bool.true)))] [AV.str [],AV.str []] Bool.true)),
(38,(TI.mk Bool.false 1 0 TK.other [] [AV.any] Bool.false)),
(39,(TI.mk Bool.false 1 8 TK.func [] [AV.nilf] Bool.false)),
(40,(TI.mk Bool.false 1 24 (TK.slice 26) [] [AV.sl []] Bool.false)),
(41,(TI.mk Bool.false 1 8 TK.func [] [AV.nilf] Bool.false)),
(42,(TI.mk Bool.false 1 24 (TK.slice 37) [] [AV.sl []] Bool.false)),
(43,(TI.mk Bool.false 1 8 TK.func [] [AV.nilf] Bool.false)),
(44,(TI.mk Bool.false 1 8 TK.func [] [AV.nilf] Bool.false)),
(45,(TI.mk Bool.false 1 24 (TK.slice 3) [] [AV.sl []] Bool.false)),
(46,(TI.mk Bool.false 1 8 TK.func [] [AV.nilf] Bool.false)),
(47,(TI.mk Bool.false 1 8 TK.func [] [AV.nilf] Bool.false)),
(48,(TI.mk Bool.false 1 8 TK.func [] [AV.nilf] Bool.false)),
(49,(TI.mk Bool.false 1 8 TK.func [] [AV.nilf] Bool.false)),
(50,(TI.mk Bool.false 1 24 (TK.slice 105) [] [AV.sl []] Bool.false)),
(51,(TI.mk Bool.false 1 24 (TK.slice 90) [] [AV.sl []] Bool.false)),
(52,(TI.mk Bool.true 3 72 TK.struct [(0,((50,Bool.true))),(1,((29,Bool.true))),(2,((29,Bool.true)))] [AV.sl [],AV.sl [],AV.sl []] Bool.true)),
(53,(TI.mk Bool.true 3 72 TK.struct [(0,((50,Bool.true))),(1,((29,Bool.true))),(2,((29,Bool.true)))] [AV.sl [],AV.sl [],AV.sl []] Bool.true)),
(54,(TI.mk Bool.true 9 192 TK.struct [(0,((9,Bool.true))),(1,((28,Bool.true))),(2,((50,Bool.true))),(3,((29,Bool.true))),(4,((51,Bool.true))),(5,((4,Bool.true))),(6,((53,Bool.true)))] [AV.str [],AV.sl [],AV.sl [],AV.sl [],AV.sl [],AV.bool Bool.false,AV.sl [],AV.sl [],AV.sl []] Bool.true)),
(55,(TI.mk Bool.true 9 192 TK.struct [(0,((9,Bool.true))),(1,((28,Bool.true))),(2,((50,Bool.true))),(3,((29,Bool.true))),(4,((51,Bool.true))),(5,((4,Bool.true))),(6,((53,Bool.true)))] [AV.str [],AV.sl [],AV.sl [],AV.sl [],AV.sl [],AV.bool Bool.false,AV.sl [],AV.sl [],AV.sl []] Bool.true)),
(56,(TI.mk Bool.false 1 8 TK.func [] [AV.nilf] Bool.false)),
(57,(TI.mk Bool.true 3 24 TK.struct [(0,((3,Bool.true))),(1,((3,Bool.true))),(2,((3,Bool.true)))] [AV.int IntKind.i64 0,AV.int IntKind.i64 0,AV.int IntKind.i64 0] Bool.true)),
(58,(TI.mk Bool.true 3 24 TK.struct [(0,((3,Bool.true))),(1,((3,Bool.true))),(2,((3,Bool.true)))] [AV.int IntKind.i64 0,AV.int IntKind.i64 0,AV.int IntKind.i64 0] Bool.true)),
(59,(TI.mk Bool.false 1 8 TK.func [] [AV.nilf] Bool.false)),
(60,(TI.mk Bool.false 1 8 TK.func [] [AV.nilf] Bool.false)),
(61,(TI.mk Bool.false 1 24 (TK.slice 71) [] [AV.sl []] Bool.false)),
(62,(TI.mk Bool.true 3 56 TK.struct [(0,((9,Bool.true))),(1,((9,Bool.true))),(2,((61,Bool.true)))] [AV.str [],AV.str [],AV.sl []] Bool.true)),
(63,(TI.mk Bool.true 3 56 TK.struct [(0,((9,Bool.true))),(1,((9,Bool.true))),(2,((61,Bool.true)))] [AV.str [],AV.str [],AV.sl []] Bool.true)),
(64,(TI.mk Bool.false 1 0 TK.other [] [AV.any] Bool.false)),
(65,(TI.mk Bool.false 1 8 TK.func [] [AV.nilf] Bool.false)),
(66,(TI.mk Bool.false 1 8 TK.func [] [AV.nilf] Bool.false)),
(67,(TI.mk Bool.false 1 8 TK.func [] [AV.nilf] Bool.false)),
(68,(TI.mk Bool.false 1 8 TK.func [] [AV.nilf] Bool.false)),
(69,(TI.mk Bool.false 1 8 (TK.int IntKind.i64) [] [AV.int IntKind.i64 0] Bool.false)),
(70,(TI.mk Bool.true 4 64 TK.struct [(0,((3,Bool.true))),(1,((3,Bool.true))),(2,((28,Bool.true))),(3,((61,Bool.true)))] [AV.int IntKind.i64 0,AV.int IntKind.i64 0,AV.sl [],AV.sl []] Bool.true)),
(71,(TI.mk Bool.true 4 64 TK.struct [(0,((3,Bool.true))),(1,((3,Bool.true))),(2,((28,Bool.true))),(3,((61,Bool.true)))] [AV.int IntKind.i64 0,AV.int IntKind.i64 0,AV.sl [],AV.sl []] Bool.true)),
(72,(TI.mk Bool.false 1 24 (TK.slice 80) [] [AV.sl []] Bool.false)),
(73,(TI.mk Bool.false 1 24 (TK.slice 155) [] [AV.sl []] Bool.false)),
(74,(TI.mk Bool.true 8 144 TK.struct [(0,((69,Bool.true))),(1,((71,Bool.true))),(5,((72,Bool.true))),(6,((24,Bool.true))),(7,((73,Bool.true)))] [AV.int IntKind.i64 0,AV.int IntKind.i64 0,AV.int IntKind.i64 0,AV.sl [],AV.sl [],AV.sl [],AV.sl [],AV.sl []] Bool.true)),
(75,(TI.mk Bool.true 8 144 TK.struct [(0,((69,Bool.true))),(1,((71,Bool.true))),(5,((72,Bool.true))),(6,((24,Bool.true))),(7,((73,Bool.true)))] [AV.int IntKind.i64 0,AV.int IntKind.i64 0,AV.int IntKind.i64 0,AV.sl [],AV.sl [],AV.sl [],AV.sl [],AV.sl []] Bool.true)),
(76,(TI.mk Bool.false 1 8 TK.func [] [AV.nilf] Bool.false)),
(77,(TI.mk Bool.false 1 8 TK.func [] [AV.nilf] Bool.false)),
(78,(TI.mk Bool.false 1 8 TK.func [] [AV.nilf] Bool.false)),
(79,(TI.mk Bool.true 3 24 TK.struct [(0,((3,Bool.true))),(1,((3,Bool.true))),(2,((3,Bool.true)))] [AV.int IntKind.i64 0,AV.int IntKind.i64 0,AV.int IntKind.i64 0] Bool.true)),
(80,(TI.mk Bool.true 3 24 TK.struct [(0,((3,Bool.true))),(1,((3,Bool.true))),(2,((3,Bool.true)))] [AV.int IntKind.i64 0,AV.int IntKind.i64 0,AV.int IntKind.i64 0] Bool.true)),
(81,(TI.mk Bool.false 1 8 TK.func [] [AV.nilf] Bool.false)),
(82,(TI.mk Bool.false 1 8 TK.func [] [AV.nilf] Bool.false)),
(83,(TI.mk Bool.false 1 8 TK.func [] [AV.nilf] Bool.false)),
(84,(TI.mk Bool.false 1 8 TK.func [] [AV.nilf] Bool.false)),
(85,(TI.mk Bool.false 1 8 TK.func [] [AV.nilf] Bool.false)),
(86,(TI.mk Bool.false 1 8 TK.func [] [AV.nilf] Bool.false)),
(87,(TI.mk Bool.true 2 32 TK.struct [(0,((3,Bool.true))),(1,((50,Bool.true)))] [AV.int IntKind.i64 0,AV.sl []] Bool.true)),
(88,(TI.mk Bool.true 2 32 TK.struct [(0,((3,Bool.true))),(1,((50,Bool.true)))] [AV.int IntKind.i64 0,AV.sl []] Bool.true)),
(89,(TI.mk Bool.true 12 184 TK.struct [(0,((9,Bool.true))),(1,((4,Bool.true))),(2,((50,Bool.true))),(3,((88,Bool.true))),(5,((3,Bool.true))),(6,((31,Bool.true)))] [AV.str [],AV.bool Bool.false,AV.sl [],AV.int IntKind.i64 0,AV.sl [],AV.int IntKind.i64 0,AV.int IntKind.i64 0,AV.int IntKind.i64 0,AV.str [],AV.str [],AV.sl [],AV.sl []] Bool.true)),
(90,(TI.mk Bool.true 12 184 TK.struct [(0,((9,Bool.true))),(1,((4,Bool.true))),(2,((50,Bool.true))),(3,((88,Bool.true))),(5,((3,Bool.true))),(6,((31,Bool.true)))] [AV.str [],AV.bool Bool.false,AV.sl [],AV.int IntKind.i64 0,AV.sl [],AV.int IntKind.i64 0,AV.int IntKind.i64 0,AV.int IntKind.i64 0,AV.str [],AV.str [],AV.sl [],AV.sl []] Bool.true)),
(91,(TI.mk Bool.false 1 8 TK.func [] [AV.nilf] Bool.false)),
(92,(TI.mk Bool.false 1 0 TK.other [] [AV.any] Bool.false)),
(93,(TI.mk Bool.false 1 8 TK.func [] [AV.nilf] Bool.false)),
(94,(TI.mk Bool.false 1 0 TK.other [] [AV.any] Bool.false)),
(95,(TI.mk Bool.false 1 8 TK.func [] [AV.nilf] Bool.false)),
(96,(TI.mk Bool.false 1 8 TK.func [] [AV.nilf] Bool.false)),
(97,(TI.mk Bool.false 1 8 TK.func [] [AV.nilf] Bool.false)),
(98,(TI.mk Bool.true 6 48 TK.struct [(0,((58,Bool.true))),(3,((58,Bool.true)))] [AV.int IntKind.i64 0,AV.int IntKind.i64 0,AV.int IntKind.i64 0,AV.int IntKind.i64 0,AV.int IntKind.i64 0,AV.int IntKind.i64 0] Bool.true)),
(99,(TI.mk Bool.true 6 48 TK.struct [(0,((58,Bool.true))),(3,((58,Bool.true)))] [AV.int IntKind.i64 0,AV.int IntKind.i64 0,AV.int IntKind.i64 0,AV.int IntKind.i64 0,AV.int IntKind.i64 0,AV.int IntKind.i64 0] Bool.true)),
(100,(TI.mk Bool.false 1 8 TK.func [] [AV.nilf] Bool.false)),
(101,(TI.mk Bool.false 1 8 TK.func [] [AV.nilf] Bool.false)),
(102,(TI.mk Bool.false 1 8 TK.func [] [AV.nilf] Bool.false)),
(103,(TI.mk Bool.false 1 8 TK.func [] [AV.nilf] Bool.false)),
(104,(TI.mk Bool.true 3 48 TK.struct [(0,((9,Bool.true))),(1,((88,Bool.true)))] [AV.str [],AV.int IntKind.i64 0,AV.sl []] Bool.true)),
(105,(TI.mk Bool.true 3 48 TK.struct [(0,((9,Bool.true))),(1,((88,Bool.true)))] [AV.str [],AV.int IntKind.i64 0,AV.sl []] Bool.true)),
(106,(TI.mk Bool.false 1 0 TK.other [] [AV.any] Bool.false)),
(107,(TI.mk Bool.false 1 8 TK.func [] [AV.nilf] Bool.false)),
(108,(TI.mk Bool.false 1 8 (TK.map 37 37) [] [AV.nilm] Bool.false)),
(109,(TI.mk Bool.false 1 8 TK.func [] [AV.nilf] Bool.false)),
(110,(TI.mk Bool.false 1 8 (TK.map 37 90) [] [AV.nilm] Bool.false)),
(111,(TI.mk Bool.false 1 8 TK.func [] [AV.nilf] Bool.false)),
(112,(TI.mk Bool.false 1 8 TK.func [] [AV.nilf] Bool.false)),
(113,(TI.mk Bool.false 1 8 TK.func [] [AV.nilf] Bool.false)),
(114,(TI.mk Bool.false 1 8 TK.func [] [AV.nilf] Bool.false)),
(115,(TI.mk Bool.false 1 8 TK.func [] [AV.nilf] Bool.false)),
(116,(TI.mk Bool.false 1 8 TK.func [] [AV.nilf] Bool.false)),
(117,(TI.mk Bool.false 1 0 TK.other [] [AV.any] Bool.false)),
(118,(TI.mk Bool.false 1 8 TK.func [] [AV.nilf] Bool.false)),
(119,(TI.mk Bool.false 1 8 TK.func [] [AV.nilf] Bool.false)),
(120,(TI.mk Bool.false 1 8 TK.func [] [AV.nilf] Bool.false)),
(121,(TI.mk Bool.false 1 8 TK.func [] [AV.nilf] Bool.false)),
(122,(TI.mk Bool.false 1 8 TK.func [] [AV.nilf] Bool.false)),
(123,(TI.mk Bool.false 1 8 TK.func [] [AV.nilf] Bool.false)),
(124,(TI.mk Bool.false 1 8 TK.func [] [AV.nilf] Bool.false)),
(125,(TI.mk Bool.false 1 8 TK.func [] [AV.nilf] Bool.false)),
(126,(TI.mk Bool.false 1 8 TK.func [] [AV.nilf] Bool.false)),
(127,(TI.mk Bool.false 1 8 TK.func [] [AV.nilf] Bool.false)),
(128,(TI.mk Bool.false 1 8 TK.func [] [AV.nilf] Bool.false)),
(129,(TI.mk Bool.false 1 8 TK.func [] [AV.nilf] Bool.false)),
(130,(TI.mk Bool.false 1 8 TK.func [] [AV.nilf] Bool.false)),
(131,(TI.mk Bool.false 1 8 TK.func [] [AV.nilf] Bool.false)),
(132,(TI.mk Bool.false 1 8 TK.func [] [AV.nilf] Bool.false)),
(133,(TI.mk Bool.false 1 8 TK.func [] [AV.nilf] Bool.false)),
(134,(TI.mk Bool.false 1 8 TK.func [] [AV.nilf] Bool.false)),
(135,(TI.mk Bool.false 1 8 TK.func [] [AV.nilf] Bool.false)),
(136,(TI.mk Bool.false 1 8 TK.func [] [AV.nilf] Bool.false)),
(137,(TI.mk Bool.false 1 8 TK.func [] [AV.nilf] Bool.false)),
(138,(TI.mk Bool.false 1 8 TK.func [] [AV.nilf] Bool.false)),
(139,(TI.mk Bool.false 1 8 TK.ptr [] [AV.nilp] Bool.false)),
(140,(TI.mk Bool.true 12 208 TK.struct [(0,((22,Bool.true))),(1,((45,Bool.true))),(2,((3,Bool.true))),(3,((3,Bool.true))),(4,((75,Bool.true)))] [AV.sl [],AV.sl [],AV.int IntKind.i64 0,AV.int IntKind.i64 0,AV.int IntKind.i64 0,AV.int IntKind.i64 0,AV.int IntKind.i64 0,AV.sl [],AV.sl [],AV.sl [],AV.sl [],AV.sl []] Bool.true)),
(141,(TI.mk Bool.true 12 208 TK.struct [(0,((22,Bool.true))),(1,((45,Bool.true))),(2,((3,Bool.true))),(3,((3,Bool.true))),(4,((75,Bool.true)))] [AV.sl [],AV.sl [],AV.int IntKind.i64 0,AV.int IntKind.i64 0,AV.int IntKind.i64 0,AV.int IntKind.i64 0,AV.int IntKind.i64 0,AV.sl [],AV.sl [],AV.sl [],AV.sl [],AV.sl []] Bool.true)),
(142,(TI.mk Bool.false 1 8 TK.func [] [AV.nilf] Bool.false)),
(143,(TI.mk Bool.false 1 8 TK.func [] [AV.nilf] Bool.false)),
(144,(TI.mk Bool.true 3 56 TK.struct [(0,((3,Bool.true))),(1,((28,Bool.true))),(2,((61,Bool.true)))] [AV.int IntKind.i64 0,AV.sl [],AV.sl []] Bool.true)),
(145,(TI.mk Bool.true 3 56 TK.struct [(0,((3,Bool.true))),(1,((28,Bool.true))),(2,((61,Bool.true)))] [AV.int IntKind.i64 0,AV.sl [],AV.sl []] Bool.true)),
(146,(TI.mk Bool.false 1 8 TK.func [] [AV.nilf] Bool.false)),
(147,(TI.mk Bool.false 1 8 TK.func [] [AV.nilf] Bool.false)),
(148,(TI.mk Bool.false 1 8 (TK.map 9 4) [] [AV.nilm] Bool.false)),
(149,(TI.mk Bool.false 1 8 TK.func [] [AV.nilf] Bool.false)),
(150,(TI.mk Bool.false 1 8 TK.func [] [AV.nilf] Bool.false)),
(151,(TI.mk Bool.false 1 8 TK.func [] [AV.nilf] Bool.false)),
(152,(TI.mk Bool.false 1 8 TK.func [] [AV.nilf] Bool.false)),
(153,(TI.mk Bool.false 1 8 TK.func [] [AV.nilf] Bool.false)),
(154,(TI.mk Bool.true 2 40 TK.struct [(0,((9,Bool.true))),(1,((61,Bool.true)))] [AV.str [],AV.sl []] Bool.true)),
(155,(TI.mk Bool.true 2 40 TK.struct [(0,((9,Bool.true))),(1,((61,Bool.true)))] [AV.str [],AV.sl []] Bool.true)),
(156,(TI.mk Bool.false 1 8 TK.func [] [AV.nilf] Bool.false)),
(157,(TI.mk Bool.false 1 8 TK.func [] [AV.nilf] Bool.false)),
(158,(TI.mk Bool.false 1 8 TK.func [] [AV.nilf] Bool.false)),
(159,(TI.mk Bool.false 1 8 TK.func [] [AV.nilf] Bool.false)),
(160,(TI.mk Bool.false 1 8 TK.func [] [AV.nilf] Bool.false)),
(161,(TI.mk Bool.false 1 8 TK.func [] [AV.nilf] Bool.false)),
(162,(TI.mk Bool.false 1 8 TK.func [] [AV.nilf] Bool.false)),
(163,(TI.mk Bool.false 1 8 TK.func [] [AV.nilf] Bool.false)),
(164,(TI.mk Bool.false 1 8 TK.func [] [AV.nilf] Bool.false)),
(165,(TI.mk Bool.false 1 8 TK.func [] [AV.nilf] Bool.false)),
(166,(TI.mk Bool.false 1 8 TK.func [] [AV.nilf] Bool.false)),
(167,(TI.mk Bool.false 1 8 (TK.int IntKind.u64) [] [AV.int IntKind.u64 0] Bool.false)),
(168,(TI.mk Bool.false 1 8 TK.func [] [AV.nilf] Bool.false)),
(169,(TI.mk Bool.false 1 8 TK.ptr [] [AV.nilp] Bool.false)),
(170,(TI.mk Bool.true 13 216 TK.struct [(0,((22,Bool.true))),(1,((75,Bool.true))),(9,((45,Bool.true))),(10,((3,Bool.true))),(11,((3,Bool.true))),(12,((3,Bool.true)))] [AV.sl [],AV.int IntKind.i64 0,AV.int IntKind.i64 0,AV.int IntKind.i64 0,AV.sl [],AV.sl [],AV.sl [],AV.sl [],AV.sl [],AV.sl [],AV.int IntKind.i64 0,AV.int IntKind.i64 0,AV.int IntKind.i64 0] Bool.true)),
(171,(TI.mk Bool.true 13 216 TK.struct [(0,((22,Bool.true))),(1,((75,Bool.true))),(9,((45,Bool.true))),(10,((3,Bool.true))),(11,((3,Bool.true))),(12,((3,Bool.true)))] [AV.sl [],AV.int IntKind.i64 0,AV.int IntKind.i64 0,AV.int IntKind.i64 0,AV.sl [],AV.sl [],AV.sl [],AV.sl [],AV.sl [],AV.sl [],AV.int IntKind.i64 0,AV.int IntKind.i64 0,AV.int IntKind.i64 0] Bool.true)),
(172,(TI.mk Bool.false 1 8 TK.func [] [AV.nilf] Bool.false)),
(173,(TI.mk Bool.true 3 56 TK.struct [(0,((3,Bool.true))),(1,((28,Bool.true))),(2,((61,Bool.true)))] [AV.int IntKind.i64 0,AV.sl [],AV.sl []] Bool.true)),
(174,(TI.mk Bool.true 3 56 TK.struct [(0,((3,Bool.true))),(1,((28,Bool.true))),(2,((61,Bool.true)))] [AV.int IntKind.i64 0,AV.sl [],AV.sl []] Bool.true)),
(175,(TI.mk Bool.false 1 8 TK.func [] [AV.nilf] Bool.false)),
(176,(TI.mk Bool.false 1 8 TK.func [] [AV.nilf] Bool.false)),
(177,(TI.mk Bool.false 1 8 TK.func [] [AV.nilf] Bool.false)),
(178,(TI.mk Bool.false 1 8 TK.func [] [AV.nilf] Bool.false)),
(179,(TI.mk Bool.false 1 8 TK.func [] [AV.nilf] Bool.false)),
(180,(TI.mk Bool.false 1 8 TK.func [] [AV.nilf] Bool.false)),
(181,(TI.mk Bool.false 1 8 TK.func [] [AV.nilf] Bool.false)),
(182,(TI.mk Bool.false 1 8 TK.func [] [AV.nilf] Bool.false)),
(183,(TI.mk Bool.false 1 8 TK.func [] [AV.nilf] Bool.false)),
(184,(TI.mk Bool.false 1 8 TK.func [] [AV.nilf] Bool.false)),
(185,(TI.mk Bool.false 1 8 (TK.map 37 4) [] [AV.nilm] Bool.false)),
(186,(TI.mk Bool.false 1 8 TK.func [] [AV.nilf] Bool.false)),
(187,(TI.mk Bool.false 1 8 TK.func [] [AV.nilf] Bool.false)),
(188,(TI.mk Bool.false 1 8 TK.func [] [AV.nilf] Bool.false)),
(189,(TI.mk Bool.false 1 8 TK.func [] [AV.nilf] Bool.false)),
(190,(TI.mk Bool.false 1 8 TK.func [] [AV.nilf] Bool.false)),
(191,(TI.mk Bool.false 1 8 TK.func [] [AV.nilf] Bool.false)),
(192,(TI.mk Bool.false 1 8 TK.func [] [AV.nilf] Bool.false)),
(193,(TI.mk Bool.false 1 8 TK.func [] [AV.nilf] Bool.false)),
(194,(TI.mk Bool.false 1 8 TK.func [] [AV.nilf] Bool.false)),
(195,(TI.mk Bool.false 1 8 (TK.int IntKind.i64) [] [AV.int IntKind.i64 0] Bool.false)),
(196,(TI.mk Bool.false 1 0 TK.other [] [AV.any] Bool.false)),
(197,(TI.mk Bool.false 1 8 TK.func [] [AV.nilf] Bool.false)),
(198,(TI.mk Bool.false 1 8 TK.func [] [AV.nilf] Bool.false)),
(199,(TI.mk Bool.false 1 8 TK.func [] [AV.nilf] Bool.false)),
(200,(TI.mk Bool.false 1 0 TK.other [] [AV.any] Bool.false)),
(201,(TI.mk Bool.false 1 8 TK.func [] [AV.nilf] Bool.false)),
(202,(TI.mk Bool.false 1 8 TK.func [] [AV.nilf] Bool.false)),
(203,(TI.mk Bool.false 1 4 (TK.int IntKind.u32) [] [AV.int IntKind.u32 0] Bool.false)),
(204,(TI.mk Bool.false 1 8 TK.func [] [AV.nilf] Bool.false)),
(205,(TI.mk Bool.false 1 8 (TK.int IntKind.u64) [] [AV.int IntKind.u64 0] Bool.false)),
(206,(TI.mk Bool.false 1 8 TK.func [] [AV.nilf] Bool.false)),
(207,(TI.mk Bool.false 1 8 TK.func [] [AV.nilf] Bool.false)),
(208,(TI.mk Bool.false 1 8 TK.func [] [AV.nilf] Bool.false)),
(209,(TI.mk Bool.false 1 8 TK.func [] [AV.nilf] Bool.false)),
(210,(TI.mk Bool.false 1 8 TK.func [] [AV.nilf] Bool.false)),
(211,(TI.mk Bool.false 1 8 TK.func [] [AV.nilf] Bool.false)),
(212,(TI.mk Bool.false 1 8 TK.func [] [AV.nilf] Bool.false)),
(213,(TI.mk Bool.false 1 8 TK.func [] [AV.nilf] Bool.false)),
(214,(TI.mk Bool.false 1 8 TK.func [] [AV.nilf] Bool.false)),
(215,(TI.mk Bool.false 1 8 (TK.int IntKind.u64) [] [AV.int IntKind.u64 0] Bool.false)),
(216,(TI.mk Bool.false 1 8 TK.func [] [AV.nilf] Bool.false)),
(217,(TI.mk Bool.false 1 8 TK.func [] [AV.nilf] Bool.false)),
(218,(TI.mk Bool.false 1 8 TK.func [] [AV.nilf] Bool.false)),
(219,(TI.mk Bool.false 1 8 TK.ptr [] [AV.nilp] Bool.false)),
(220,(TI.mk Bool.false 1 8 TK.func [] [AV.nilf] Bool.false)),
(221,(TI.mk Bool.false 1 8 TK.ptr [] [AV.nilp] Bool.false)),
(222,(TI.mk Bool.false 1 0 TK.other [] [AV.any] Bool.false)),
(223,(TI.mk Bool.false 1 8 TK.func [] [AV.nilf] Bool.false)),
(224,(TI.mk Bool.false 1 8 TK.func [] [AV.nilf] Bool.false)),
(225,(TI.mk Bool.false 1 8 TK.func [] [AV.nilf] Bool.false)),
(226,(TI.mk Bool.true 4 40 TK.struct [(0,((17,Bool.true))),(1,((17,Bool.true))),(2,((17,Bool.true))),(3,((9,Bool.true)))] [AV.nilp,AV.nilp,AV.nilp,AV.str []] Bool.false)),
(227,(TI.mk Bool.true 4 40 TK.struct [(0,((17,Bool.true))),(1,((17,Bool.true))),(2,((17,Bool.true))),(3,((9,Bool.true)))] [AV.nilp,AV.nilp,AV.nilp,AV.str []] Bool.false)),
(228,(TI.mk Bool.true 0 0 (TK.array 0 16) [] [] Bool.false)),
(229,(TI.mk Bool.true 0 0 TK.struct [(0,((228,Bool.false)))] [] Bool.false)),
(230,(TI.mk Bool.true 0 0 TK.struct [(0,((228,Bool.false)))] [] Bool.false)),
(231,(TI.mk Bool.false 1 8 TK.func [] [AV.nilf] Bool.false)),
(232,(TI.mk Bool.false 1 1 (TK.int IntKind.u8) [] [AV.int IntKind.u8 0] Bool.false)),
(233,(TI.mk Bool.false 1 1 (TK.int IntKind.u8) [] [AV.int IntKind.u8 0] Bool.false)),
(234,(TI.mk Bool.false 1 8 TK.func [] [AV.nilf] Bool.false)),
(235,(TI.mk Bool.false 1 8 TK.ptr [] [AV.nilp] Bool.false)),
(236,(TI.mk Bool.false 1 4 (TK.int IntKind.i32) [] [AV.int IntKind.i32 0] Bool.false)),
(237,(TI.mk Bool.false 1 4 (TK.int IntKind.i32) [] [AV.int IntKind.i32 0] Bool.false)),
(238,(TI.mk Bool.true 11 48 TK.struct [(0,((12,Bool.true))),(1,((12,Bool.true))),(2,((203,Bool.true))),(3,((232,Bool.true))),(4,((5,Bool.true))),(5,((5,Bool.true))),(6,((233,Bool.true))),(7,((234,Bool.true))),(8,((235,Bool.true))),(9,((236,Bool.true))),(10,((237,Bool.true)))] [AV.int IntKind.u64 0,AV.int IntKind.u64 0,AV.int IntKind.u32 0,AV.int IntKind.u8 0,AV.int IntKind.u8 0,AV.int IntKind.u8 0,AV.int IntKind.u8 0,AV.nilf,AV.nilp,AV.int IntKind.i32 0,AV.int IntKind.i32 0] Bool.false)),
(239,(TI.mk Bool.true 11 48 TK.struct [(0,((12,Bool.true))),(1,((12,Bool.true))),(2,((203,Bool.true))),(3,((232,Bool.true))),(4,((5,Bool.true))),(5,((5,Bool.true))),(6,((233,Bool.true))),(7,((234,Bool.true))),(8,((235,Bool.true))),(9,((236,Bool.true))),(10,((237,Bool.true)))] [AV.int IntKind.u64 0,AV.int IntKind.u64 0,AV.int IntKind.u32 0,AV.int IntKind.u8 0,AV.int IntKind.u8 0,AV.int IntKind.u8 0,AV.int IntKind.u8 0,AV.nilf,AV.nilp,AV.int IntKind.i32 0,AV.int IntKind.i32 0] Bool.false)),
(240,(TI.mk Bool.false 1 8 TK.other [] [AV.nilp] Bool.false))]
def findT:List (Nat×TI)→Nat→Option TI
 | [],_=>none
 | (k,x) :: r,t=>bif Nat.beq k t then some x else findT r t
noncomputable def T:TT:=findT tab
def ann4:Ann:={ kinds:=[(8,.S)],no:=[119],nl:=[16,17,22,30,34,36,40,41,50,56,58,61,72,73,78,79,85,86,92,94,98,104,108,110,115,118,122,127,133,138,145],lw:=[8,11,12,14,93,95,121,123],joins:=[(54,{ vals:=[(2,none),(3,none),(5,none),(9,none),(10,none)] }),(1000001,{ vals:=[(2,none),(3,none),(5,none),(6,none),(7,none)] }),(1000003,{ vals:=[(2,none),(3,none),(5,none),(13,none),(12000,none),(12001,none),(12002,none),(12003,none),(13000,some 9),(13001,none),(13002,none),(13003,none)],locs:=[(11,12000,0),(12,13000,0)],lbs:=[(12000,4),(13000,4)] })],loops:=[(0,{ vals:=[(2,none),(3,none),(5,none),(6,none),(7,none)] }),(2,{ vals:=[(2,none),(3,none),(5,none),(13,none),(12000,none),(12001,none),(12002,none),(12003,none),(13000,some 9),(13001,none),(13002,none),(13003,none)],locs:=[(11,12000,0),(12,13000,0)],lbs:=[(12000,4),(13000,4)] })] }
def ann8:Ann:={ kinds:=[(1,.S),(2,.S),(6,.S)],no:=[16,21,26,36,73,102,105],nl:=[29,30,39,42,46,47,53,54,60,66,71,77,83,90,100,103],lw:=[1,2,3,4,5,6,17,22,27] }
def ann9:Ann:={ nl:=[12,22,26,31,35,41,45,51,54,60,64,70,74,77,82,86,92,96,100,105,109,113,119,129,133,138,142,148,152,155,159,164,170,176,182],loops:=[(0,{ vals:=[(2,none),(3,none),(5,none)] }),(2,{ vals:=[(2,none),(3,none),(5,none),(6,none)] }),(4,{ vals:=[(2,none),(3,none),(5,none),(7,none)] }),(6,{ vals:=[(2,none),(3,none),(8,none)] }),(8,{ vals:=[(2,none),(3,none),(8,none),(9,none)] })] }
def ann10:Ann:={ kinds:=[(6,.S)],nl:=[9,10,18,20],lw:=[4,6] }
def ann12:Ann:={ nl:=[20,24],loops:=[(0,{ vals:=[(0,none),(1,none),(5,none)] })] }
def ann13:Ann:={ kinds:=[(5,.S)],nl:=[8,9,16,17],lw:=[5] }
def ann15:Ann:={ nl:=[20,24],loops:=[(0,{ vals:=[(0,none),(1,none),(5,none)] })] }
def ann16:Ann:={ kinds:=[(5,.S),(9,.S)],no:=[38],nl:=[13,14,21,27,29,30,31],lw:=[5,9],loops:=[(0,{ vals:=[(3,none),(5,none),(7,some 1),(21,none),(22,none),(23,none)] })] }
def ann18:Ann:={ kinds:=[(5,.S),(9,.S)],nl:=[13,14,18,19,23,24,34,37,42,44,45,46,53,58,60],lw:=[5,9],loops:=[(0,{ vals:=[(3,none),(5,none),(7,none),(37,none),(38,none),(39,none)] })] }
def ann20:Ann:={ kinds:=[(7,.S)],no:=[26],nl:=[14,16,19,20],lw:=[7],loops:=[(0,{ vals:=[(3,none),(5,some 1),(8,none),(9,none),(10,none)] })] }
def ann22:Ann:={  }
def ann33:Ann:={ kinds:=[(1,.S)],no:=[4,9],nl:=[10],lw:=[0,1] }
def ann34:Ann:={ kinds:=[(3,.S),(4,.S),(5,.S)],no:=[9,13,15,18,20,23,25,29],nl:=[10,14,19,22],lw:=[2,3,4,5] }
def ann35:Ann:={ no:=[11],lw:=[6] }
def ann36:Ann:={ nl:=[8,18,22,27,31,38,41,48,51,65,69,74,80,86,93],loops:=[(0,{ vals:=[(1,none),(3,none)] }),(2,{ vals:=[(1,none),(4,none),(5,none)] })] }
def ann37:Ann:={ nl:=[15,27,30],loops:=[(0,{ vals:=[(1,none),(2,none),(3,none),(7,none),(8,none)] })] }
def ann38:Ann:={ nl:=[15,27,30],loops:=[(0,{ vals:=[(1,none),(2,none),(3,none),(7,none),(8,none)] })] }
def ann39:Ann:={ nl:=[9,17,23,25,28,34,38,45,49,52],lw:=[4] }
def ann41:Ann:={ kinds:=[(7,.S),(8,.S),(9,.S)],ha:=[36],hb:=[6],no:=[35],nl:=[22,24,31,34],lw:=[7,8,9],rz:=true,loops:=[(0,{ vals:=[(3,none),(5,none),(6,none),(14,none)] })],ords:=[(6,[0,1,3,8,2,4,5,6,7,9,10])] }
def ann43:Ann:={ kinds:=[(10,.S),(11,.S)],no:=[44],nl:=[14,16,20,22,27,30,35,40,43,49,52,60,64],lw:=[10,11],loops:=[(0,{ vals:=[(4,none),(5,none),(8,some 1),(35,none),(36,none),(37,none)] })] }
def ann45:Ann:={ nl:=[6] }
def ann46:Ann:={  }
def ann47:Ann:={ nl:=[4,5] }
def ann48:Ann:={ nl:=[6,7,11,13] }
def ann51:Ann:={ kinds:=[(8,.S),(20,.H)],hb:=[19],nl:=[9,11,15],lw:=[6,8] }
def ann52:Ann:={ iso:=false,kinds:=[(5,.S),(10,.S),(11,.S)],no:=[57],nl:=[15,22,23,25,35,41,44,51,54,56],lw:=[5,10,11],so:=[31],loops:=[(0,{ vals:=[(0,none),(7,none),(8,some 2)] }),(2,{ vals:=[(0,none),(7,none),(8,some 2),(36,none),(37,none),(38,none)] })] }
def ann66:Ann:={ no:=[15],nl:=[6,8,11,13] }
def ann67:Ann:={ iso:=false,kinds:=[(5,.S)],nl:=[7,10,15,16],lw:=[5],loops:=[(0,{ vals:=[(1,none),(10,none),(11,none),(12,none)] })] }
def ann69:Ann:={ lw:=[2] }
def ann70:Ann:={ nl:=[18],loops:=[(0,{ vals:=[(0,none),(3,none)] })] }
def ann71:Ann:={ nl:=[15,27,31],loops:=[(0,{ vals:=[(1,none),(2,none),(3,none),(7,none),(8,none)] })] }
def ann72:Ann:={ nl:=[15],loops:=[(0,{ vals:=[(0,none),(1,none),(7,none),(8,none)] })] }
def ann73:Ann:={ nl:=[5,7] }
def ann74:Ann:={ nl:=[15],loops:=[(0,{ vals:=[(0,none),(1,none),(7,none),(8,none)] })] }
def ann75:Ann:={ nl:=[5,7] }
def ann82:Ann:={ nl:=[11,15],loops:=[(0,{ vals:=[(0,none),(3,none),(7,none),(8,none)] })] }
def ann83:Ann:={ nl:=[15],loops:=[(0,{ vals:=[(0,none),(1,none),(7,none),(8,none)] })] }
def ann84:Ann:={ no:=[20],nl:=[6,8,11,13,16,18] }
def ann85:Ann:={  }
def ann86:Ann:={ nl:=[3] }
def ann87:Ann:={ nl:=[3] }
def ann89:Ann:={ iso:=false,nl:=[5,6,7,9],lw:=[4] }
def ann90:Ann:={ iso:=false,kinds:=[(9,.S)],hl:=[14,20],nl:=[14,20,25,35,42,46,51,55,60,66,74,77,79,82,85,94,96,98,100,103,105,107,114,116,118,121,125,129,131,133,139,141,143,150,152,154,157,159,161,164,166,168,173,175,177,179,181,185,187,192,193,198,200,202,205,207,210,218,221,225,226,229,230],lw:=[6,9],joins:=[(87,{ vals:=[(0,none),(4,none),(5,none),(42,none),(87,none),(7000,none),(7001,none),(7002,none),(7003,none)],locs:=[(6,7000,0)],lbs:=[(7000,4)] }),(110,{ vals:=[(0,none),(4,none),(5,none),(42,none),(110,none),(7000,none),(7001,none),(7002,none),(7003,none)],locs:=[(6,7000,0)],lbs:=[(7000,4)] }),(1000000,{ vals:=[(0,none),(4,none),(5,none),(7000,none),(7001,none),(7002,none),(7003,none)],locs:=[(6,7000,0)],lbs:=[(7000,4)] })],loops:=[(1,{ vals:=[(0,none),(4,none),(5,none),(8,none),(7000,none),(7001,none),(7002,none),(7003,none)],locs:=[(6,7000,0)],lbs:=[(7000,4)] })],ords:=[(23,[0,1,2,3,4,5,6,7,9,10,11,12,13,14,8,15,16,17]),(26,[0,1,2,3,4,5,7,8,9,6,10]),(36,[0,1,2,3,4,5,6,7,8,9,12,13,14,15,10,11,16,17]),(40,[0,1,2,3,4,5,7,6,8])] }
def ann91:Ann:={ iso:=false,kinds:=[(5,.S)],nl:=[7,8,13],lw:=[5] }
def ann97:Ann:={ iso:=false,hl:=[8],nl:=[8] }
def ann98:Ann:={ iso:=false,hl:=[16],nl:=[16,20,30],lw:=[6] }
def ann100:Ann:={ iso:=false,ha:=[7] }
def ann102:Ann:={ iso:=false,kinds:=[(11,.S),(12,.S)],hl:=[16,26,30,67,79],ha:=[41],no:=[40],nl:=[16,20,26,30,34,36,48,54,57,61,67,74,79,83],lw:=[8,9,11,12],joins:=[(20,{ vals:=[(0,none),(1,none),(3,none),(6,none),(9000,none),(9001,none),(9002,none),(9003,none)],locs:=[(8,9000,0)],lbs:=[(9000,4)] })],loops:=[(0,{ vals:=[(0,none),(3,none),(6,none),(48,none),(49,none),(50,none),(9000,none),(9001,none),(9002,none),(9003,none),(10000,none),(10001,none),(10002,none)],locs:=[(8,9000,0),(9,10000,0)],lbs:=[(9000,4),(10000,3)] })] }
def ann105:Ann:={ nl:=[11],loops:=[(0,{ vals:=[(3,none),(6,none),(7,none),(8,none)] })] }
def ann106:Ann:={  }
def ann114:Ann:={  }
def ann115:Ann:={ nl:=[15],loops:=[(0,{ vals:=[(0,none),(1,none),(7,none),(8,none)] })] }
def ann116:Ann:={ nl:=[5,8,12,16,21,27,31,36,41,45,50,53,59,65,70] }
def ann118:Ann:={  }
def ann119:Ann:={ joins:=[(4,{ vals:=[(3,none),(4,none)] }),(9,{ vals:=[(3,none),(9,none)] }),(14,{ vals:=[(3,none),(14,none)] }),(25,{ vals:=[(25,none)] })] }
def ann120:Ann:={ lw:=[2] }
def ann121:Ann:={ lw:=[2] }
def ann122:Ann:={ iso:=false,nl:=[10,12,16,21,23,27,31,39,41,47,49,55,57,61,63],lw:=[6] }
def ann123:Ann:={ iso:=false,kinds:=[(7,.S)],nl:=[9,10,13,17],lw:=[7] }
def ann124:Ann:={ no:=[13,19],nl:=[8,10,16,18],lw:=[6] }
def ann125:Ann:={ iso:=false,kinds:=[(9,.S)],hb:=[7,31],no:=[45],nl:=[11,14,19,24,29,33,38,42,43],lw:=[6,7,9,47],loops:=[(0,{ vals:=[(0,none),(4,none),(33,none),(34,none),(35,none),(7000,none),(7001,none),(7002,none),(7003,none),(8000,none),(8001,none),(8002,none),(8003,some 4)],locs:=[(6,7000,0),(7,8000,0)],lbs:=[(7000,4),(8000,4)] })],nils:=[(7,[3])] }
def ann126:Ann:={ nl:=[15],loops:=[(0,{ vals:=[(0,none),(1,none),(7,none),(8,none)] })] }
def ann127:Ann:={ iso:=false,kinds:=[(8,.S),(12,.S)],no:=[61],nl:=[14,16,20,26,33,37,42,45,50,55,58,59,66],lw:=[6,8,12],joins:=[(17,{ vals:=[(0,none),(4,none),(5,none),(7,none),(7000,none),(7001,none),(7002,none),(7003,none)],locs:=[(6,7000,0)],lbs:=[(7000,4)] })],loops:=[(0,{ vals:=[(0,none),(4,none),(7,none),(8,none),(10,some 4),(50,none),(51,none),(52,none),(7000,none),(7001,none),(7002,none),(7003,none)],locs:=[(6,7000,0)],lbs:=[(7000,4)] })] }
def ann128:Ann:={ iso:=false,kinds:=[(7,.S)],hl:=[47,54,60,69,90,105,110,127],ha:=[77],no:=[76],nl:=[12,15,17,19,22,26,30,35,40,47,54,56,60,69,71,73,84,90,92,95,105,107,110,112,117,119,121,127],lw:=[6,7],joins:=[(49,{ vals:=[(0,none),(5,none),(7,none),(8,none),(7000,none),(7001,none),(7002,none),(7003,none)],locs:=[(6,7000,0)],lbs:=[(7000,4)] }),(113,{ vals:=[(9,none),(10,none),(7000,none),(7001,none),(7002,none),(7003,none)],locs:=[(6,7000,0)],lbs:=[(7000,4)] })],ords:=[(2,[0,1,2,3,4,5,7,6,8])] }
def ann129:Ann:={ iso:=false,kinds:=[(5,.S),(6,.S)],no:=[12],nl:=[9,11,15,18,19,24,31,35,38,39],lw:=[5,6] }
def ann130:Ann:={ nl:=[11],loops:=[(0,{ vals:=[(3,none),(6,none),(7,none),(8,none)] })] }
def ann131:Ann:={ iso:=false }
def ann138:Ann:={ nl:=[5,6] }
def ann139:Ann:={ nl:=[5,6] }
def ann141:Ann:={  }
def ann164:Ann:={  }
def ann165:Ann:={ nl:=[14,18],loops:=[(0,{ vals:=[(0,none),(3,none)] })] }
def ann166:Ann:={ nl:=[4,5] }
def ann167:Ann:={  }
def ann168:Ann:={  }
def ann169:Ann:={  }
def ann170:Ann:={ kinds:=[(5,.S)],nl:=[7,12,14],lw:=[5],loops:=[(0,{ vals:=[(3,none),(7,none),(8,none),(9,none)] })] }
def ann171:Ann:={ nl:=[15],loops:=[(0,{ vals:=[(0,none),(1,none),(7,none),(8,none)] })] }
def ann172:Ann:={ nl:=[5,7] }
def ann173:Ann:={ kinds:=[(3,.S)],nl:=[4,11],lw:=[3],loops:=[(0,{ vals:=[(0,none),(5,none)] })] }
noncomputable def tabF:List (Nat×(Func×Ann)):=[
(4,(Tryz.f4,ann4)),
(8,(Tryz.f8,ann8)),
(9,(Tryz.f9,ann9)),
(10,(Tryz.f10,ann10)),
(12,(Tryz.f12,ann12)),
(13,(Tryz.f13,ann13)),
(15,(Tryz.f15,ann15)),
(16,(Tryz.f16,ann16)),
(18,(Tryz.f18,ann18)),
(20,(Tryz.f20,ann20)),
(22,(Tryz.f22,ann22)),
(33,(Tryz.f33,ann33)),
(34,(Tryz.f34,ann34)),
(35,(Tryz.f35,ann35)),
(36,(Tryz.f36,ann36)),
(37,(Tryz.f37,ann37)),
(38,(Tryz.f38,ann38)),
(39,(Tryz.f39,ann39)),
(41,(Tryz.f41,ann41)),
(43,(Tryz.f43,ann43)),
(45,(Tryz.f45,ann45)),
(46,(Tryz.f46,ann46)),
(47,(Tryz.f47,ann47)),
(48,(Tryz.f48,ann48)),
(51,(Tryz.f51,ann51)),
(52,(Tryz.f52,ann52)),
(66,(Tryz.f66,ann66)),
(67,(Tryz.f67,ann67)),
(69,(Tryz.f69,ann69)),
(70,(Tryz.f70,ann70)),
(71,(Tryz.f71,ann71)),
(72,(Tryz.f72,ann72)),
(73,(Tryz.f73,ann73)),
(74,(Tryz.f74,ann74)),
(75,(Tryz.f75,ann75)),
(82,(Tryz.f82,ann82)),
(83,(Tryz.f83,ann83)),
(84,(Tryz.f84,ann84)),
(85,(Tryz.f85,ann85)),
(86,(Tryz.f86,ann86)),
(87,(Tryz.f87,ann87)),
(89,(Tryz.f89,ann89)),
(90,(Tryz.f90,ann90)),
(91,(Tryz.f91,ann91)),
(97,(Tryz.f97,ann97)),
(98,(Tryz.f98,ann98)),
(102,(Tryz.f102,ann102)),
(105,(Tryz.f105,ann105)),
(106,(Tryz.f106,ann106)),
(114,(Tryz.f114,ann114)),
(115,(Tryz.f115,ann115)),
(116,(Tryz.f116,ann116)),
(118,(Tryz.f118,ann118)),
(119,(Tryz.f119,ann119)),
(120,(Tryz.f120,ann120)),
(121,(Tryz.f121,ann121)),
(122,(Tryz.f122,ann122)),
(123,(Tryz.f123,ann123)),
(124,(Tryz.f124,ann124)),
(125,(Tryz.f125,ann125)),
(126,(Tryz.f126,ann126)),
(127,(Tryz.f127,ann127)),
(128,(Tryz.f128,ann128)),
(129,(Tryz.f129,ann129)),
(130,(Tryz.f130,ann130)),
(131,(Tryz.f131,ann131)),
(138,(Tryz.f138,ann138)),
(139,(Tryz.f139,ann139)),
(141,(Tryz.f141,ann141)),
(164,(Tryz.f164,ann164)),
(165,(Tryz.f165,ann165)),
(166,(Tryz.f166,ann166)),
(167,(Tryz.f167,ann167)),
(168,(Tryz.f168,ann168)),
(170,(Tryz.f170,ann170)),
(171,(Tryz.f171,ann171)),
(172,(Tryz.f172,ann172)),
(173,(Tryz.f173,ann173))]
def findF:List (Nat×(Func×Ann))→Nat→Option (Func×Ann)
 | [],_=>none
 | (k,x) :: r,t=>bif Nat.beq k t then some x else findF r t
def own:FuncId→Option Nat:=fun f=>bif Nat.beq f 167 then some 1 else bif Nat.beq f 168 then some 4 else none
noncomputable def other:FuncId→Option ((FuncId→List AV→M AV)→List AV→M AV):=fun f =>
 bif Nat.beq f 53 then some (indexE) else bif Nat.beq f 64 then some (sortedE [104,173] 66) else bif Nat.beq f 77 then some (sortRefE 66) else bif Nat.beq f 88 then some (tryE 69 .i64 (.agg [.int .i64 0,.int .i64 0,.sl [],.sl []])) else bif Nat.beq f 100 then some (cloneH T 61) else bif Nat.beq f 169 then some (cloneV T 28) else none
noncomputable def pg:Pg:={ T:=T,funcs:=findF tabF,own:=own,other:=other,nw:=fun f=>bif Nat.beq f 100 then true else false }
theorem hOther:OtherLim pg:=by
 intro f E hE call calls hc
 have h0:other f=some E:=hE
 unfold other at h0
 rcases other_bif h0 with rfl | h0
 ·exact LimF.const _
 rcases other_bif h0 with rfl | h0
 ·exact LimF.const _
 rcases other_bif h0 with rfl | h0
 ·exact LimF.const _
 rcases other_bif h0 with rfl | h0
 ·exact tryE_lim _ _ _ _ _ hc
 rcases other_bif h0 with rfl | h0
 ·exact cloneH_lim _ _ _ _
 rcases other_bif h0 with rfl | h0
 ·exact cloneV_lim _ _ _ _
 cases h0
end Go.Proofs.YtnipfhmghjdnmaaGreat

namespace Go.Proofs.YtnipfhmghjdnmaaGreat
open Go Go.Av Go.Av.Ap
set_option maxRecDepth 100000
@[simp] theorem FA26_0 (cs:List AV):fieldAddrA T 26 (.ip cs) 0=some (.ip (cs.drop 0)):=rfl
@[simp] theorem FH26_0 (l k:Nat):fieldAddrA T 26 (.hp l k) 0=some (.hp l (k + 0)):=rfl
@[simp] theorem FA26_1 (cs:List AV):fieldAddrA T 26 (.ip cs) 1=some (.ip (cs.drop 1)):=rfl
@[simp] theorem FH26_1 (l k:Nat):fieldAddrA T 26 (.hp l k) 1=some (.hp l (k + 1)):=rfl
@[simp] theorem FA26_2 (cs:List AV):fieldAddrA T 26 (.ip cs) 2=some (.ip (cs.drop 2)):=rfl
@[simp] theorem FH26_2 (l k:Nat):fieldAddrA T 26 (.hp l k) 2=some (.hp l (k + 2)):=rfl
@[simp] theorem FA26_3 (cs:List AV):fieldAddrA T 26 (.ip cs) 3=some (.ip (cs.drop 3)):=rfl
@[simp] theorem FH26_3 (l k:Nat):fieldAddrA T 26 (.hp l k) 3=some (.hp l (k + 3)):=rfl
@[simp] theorem FA31_0 (cs:List AV):fieldAddrA T 31 (.ip cs) 0=some (.ip (cs.drop 0)):=rfl
@[simp] theorem FH31_0 (l k:Nat):fieldAddrA T 31 (.hp l k) 0=some (.hp l (k + 0)):=rfl
@[simp] theorem FA31_1 (cs:List AV):fieldAddrA T 31 (.ip cs) 1=some (.ip (cs.drop 1)):=rfl
@[simp] theorem FH31_1 (l k:Nat):fieldAddrA T 31 (.hp l k) 1=some (.hp l (k + 1)):=rfl
@[simp] theorem FA31_2 (cs:List AV):fieldAddrA T 31 (.ip cs) 2=some (.ip (cs.drop 2)):=rfl
@[simp] theorem FH31_2 (l k:Nat):fieldAddrA T 31 (.hp l k) 2=some (.hp l (k + 2)):=rfl
@[simp] theorem FA31_3 (cs:List AV):fieldAddrA T 31 (.ip cs) 3=some (.ip (cs.drop 3)):=rfl
@[simp] theorem FH31_3 (l k:Nat):fieldAddrA T 31 (.hp l k) 3=some (.hp l (k + 3)):=rfl
@[simp] theorem FA31_4 (cs:List AV):fieldAddrA T 31 (.ip cs) 4=some (.ip (cs.drop 4)):=rfl
@[simp] theorem FH31_4 (l k:Nat):fieldAddrA T 31 (.hp l k) 4=some (.hp l (k + 4)):=rfl
@[simp] theorem FA31_5 (cs:List AV):fieldAddrA T 31 (.ip cs) 5=some (.ip (cs.drop 5)):=rfl
@[simp] theorem FH31_5 (l k:Nat):fieldAddrA T 31 (.hp l k) 5=some (.hp l (k + 5)):=rfl
@[simp] theorem FA33_1 (cs:List AV):fieldAddrA T 33 (.ip cs) 1=some (.ip (cs.drop 1)):=rfl
@[simp] theorem FH33_1 (l k:Nat):fieldAddrA T 33 (.hp l k) 1=some (.hp l (k + 1)):=rfl
@[simp] theorem FA33_2 (cs:List AV):fieldAddrA T 33 (.ip cs) 2=some (.ip (cs.drop 2)):=rfl
@[simp] theorem FH33_2 (l k:Nat):fieldAddrA T 33 (.hp l k) 2=some (.hp l (k + 2)):=rfl
@[simp] theorem FA33_3 (cs:List AV):fieldAddrA T 33 (.ip cs) 3=some (.ip (cs.drop 3)):=rfl
@[simp] theorem FH33_3 (l k:Nat):fieldAddrA T 33 (.hp l k) 3=some (.hp l (k + 3)):=rfl
@[simp] theorem FA33_4 (cs:List AV):fieldAddrA T 33 (.ip cs) 4=some (.ip (cs.drop 4)):=rfl
@[simp] theorem FH33_4 (l k:Nat):fieldAddrA T 33 (.hp l k) 4=some (.hp l (k + 4)):=rfl
@[simp] theorem FA37_0 (cs:List AV):fieldAddrA T 37 (.ip cs) 0=some (.ip (cs.drop 0)):=rfl
@[simp] theorem FH37_0 (l k:Nat):fieldAddrA T 37 (.hp l k) 0=some (.hp l (k + 0)):=rfl
@[simp] theorem FA37_1 (cs:List AV):fieldAddrA T 37 (.ip cs) 1=some (.ip (cs.drop 1)):=rfl
@[simp] theorem FH37_1 (l k:Nat):fieldAddrA T 37 (.hp l k) 1=some (.hp l (k + 1)):=rfl
@[simp] theorem FA53_0 (cs:List AV):fieldAddrA T 53 (.ip cs) 0=some (.ip (cs.drop 0)):=rfl
@[simp] theorem FH53_0 (l k:Nat):fieldAddrA T 53 (.hp l k) 0=some (.hp l (k + 0)):=rfl
@[simp] theorem FA53_1 (cs:List AV):fieldAddrA T 53 (.ip cs) 1=some (.ip (cs.drop 1)):=rfl
@[simp] theorem FH53_1 (l k:Nat):fieldAddrA T 53 (.hp l k) 1=some (.hp l (k + 1)):=rfl
@[simp] theorem FA53_2 (cs:List AV):fieldAddrA T 53 (.ip cs) 2=some (.ip (cs.drop 2)):=rfl
@[simp] theorem FH53_2 (l k:Nat):fieldAddrA T 53 (.hp l k) 2=some (.hp l (k + 2)):=rfl
@[simp] theorem FA55_0 (cs:List AV):fieldAddrA T 55 (.ip cs) 0=some (.ip (cs.drop 0)):=rfl
@[simp] theorem FH55_0 (l k:Nat):fieldAddrA T 55 (.hp l k) 0=some (.hp l (k + 0)):=rfl
@[simp] theorem FA55_1 (cs:List AV):fieldAddrA T 55 (.ip cs) 1=some (.ip (cs.drop 1)):=rfl
@[simp] theorem FH55_1 (l k:Nat):fieldAddrA T 55 (.hp l k) 1=some (.hp l (k + 1)):=rfl
@[simp] theorem FA55_2 (cs:List AV):fieldAddrA T 55 (.ip cs) 2=some (.ip (cs.drop 2)):=rfl
@[simp] theorem FH55_2 (l k:Nat):fieldAddrA T 55 (.hp l k) 2=some (.hp l (k + 2)):=rfl
@[simp] theorem FA55_3 (cs:List AV):fieldAddrA T 55 (.ip cs) 3=some (.ip (cs.drop 3)):=rfl
@[simp] theorem FH55_3 (l k:Nat):fieldAddrA T 55 (.hp l k) 3=some (.hp l (k + 3)):=rfl
@[simp] theorem FA55_4 (cs:List AV):fieldAddrA T 55 (.ip cs) 4=some (.ip (cs.drop 4)):=rfl
@[simp] theorem FH55_4 (l k:Nat):fieldAddrA T 55 (.hp l k) 4=some (.hp l (k + 4)):=rfl
@[simp] theorem FA55_6 (cs:List AV):fieldAddrA T 55 (.ip cs) 6=some (.ip (cs.drop 6)):=rfl
@[simp] theorem FH55_6 (l k:Nat):fieldAddrA T 55 (.hp l k) 6=some (.hp l (k + 6)):=rfl
@[simp] theorem FA58_0 (cs:List AV):fieldAddrA T 58 (.ip cs) 0=some (.ip (cs.drop 0)):=rfl
@[simp] theorem FH58_0 (l k:Nat):fieldAddrA T 58 (.hp l k) 0=some (.hp l (k + 0)):=rfl
@[simp] theorem FA58_1 (cs:List AV):fieldAddrA T 58 (.ip cs) 1=some (.ip (cs.drop 1)):=rfl
@[simp] theorem FH58_1 (l k:Nat):fieldAddrA T 58 (.hp l k) 1=some (.hp l (k + 1)):=rfl
@[simp] theorem FA58_2 (cs:List AV):fieldAddrA T 58 (.ip cs) 2=some (.ip (cs.drop 2)):=rfl
@[simp] theorem FH58_2 (l k:Nat):fieldAddrA T 58 (.hp l k) 2=some (.hp l (k + 2)):=rfl
@[simp] theorem FA63_0 (cs:List AV):fieldAddrA T 63 (.ip cs) 0=some (.ip (cs.drop 0)):=rfl
@[simp] theorem FH63_0 (l k:Nat):fieldAddrA T 63 (.hp l k) 0=some (.hp l (k + 0)):=rfl
@[simp] theorem FA63_1 (cs:List AV):fieldAddrA T 63 (.ip cs) 1=some (.ip (cs.drop 1)):=rfl
@[simp] theorem FH63_1 (l k:Nat):fieldAddrA T 63 (.hp l k) 1=some (.hp l (k + 1)):=rfl
@[simp] theorem FA63_2 (cs:List AV):fieldAddrA T 63 (.ip cs) 2=some (.ip (cs.drop 2)):=rfl
@[simp] theorem FH63_2 (l k:Nat):fieldAddrA T 63 (.hp l k) 2=some (.hp l (k + 2)):=rfl
@[simp] theorem FA71_0 (cs:List AV):fieldAddrA T 71 (.ip cs) 0=some (.ip (cs.drop 0)):=rfl
@[simp] theorem FH71_0 (l k:Nat):fieldAddrA T 71 (.hp l k) 0=some (.hp l (k + 0)):=rfl
@[simp] theorem FA71_1 (cs:List AV):fieldAddrA T 71 (.ip cs) 1=some (.ip (cs.drop 1)):=rfl
@[simp] theorem FH71_1 (l k:Nat):fieldAddrA T 71 (.hp l k) 1=some (.hp l (k + 1)):=rfl
@[simp] theorem FA71_2 (cs:List AV):fieldAddrA T 71 (.ip cs) 2=some (.ip (cs.drop 2)):=rfl
@[simp] theorem FH71_2 (l k:Nat):fieldAddrA T 71 (.hp l k) 2=some (.hp l (k + 2)):=rfl
@[simp] theorem FA71_3 (cs:List AV):fieldAddrA T 71 (.ip cs) 3=some (.ip (cs.drop 3)):=rfl
@[simp] theorem FH71_3 (l k:Nat):fieldAddrA T 71 (.hp l k) 3=some (.hp l (k + 3)):=rfl
@[simp] theorem FA75_2 (cs:List AV):fieldAddrA T 75 (.ip cs) 2=some (.ip (cs.drop 5)):=rfl
@[simp] theorem FH75_2 (l k:Nat):fieldAddrA T 75 (.hp l k) 2=some (.hp l (k + 5)):=rfl
@[simp] theorem FA75_3 (cs:List AV):fieldAddrA T 75 (.ip cs) 3=some (.ip (cs.drop 6)):=rfl
@[simp] theorem FH75_3 (l k:Nat):fieldAddrA T 75 (.hp l k) 3=some (.hp l (k + 6)):=rfl
@[simp] theorem FA75_4 (cs:List AV):fieldAddrA T 75 (.ip cs) 4=some (.ip (cs.drop 7)):=rfl
@[simp] theorem FH75_4 (l k:Nat):fieldAddrA T 75 (.hp l k) 4=some (.hp l (k + 7)):=rfl
@[simp] theorem FA88_1 (cs:List AV):fieldAddrA T 88 (.ip cs) 1=some (.ip (cs.drop 1)):=rfl
@[simp] theorem FH88_1 (l k:Nat):fieldAddrA T 88 (.hp l k) 1=some (.hp l (k + 1)):=rfl
@[simp] theorem FA90_0 (cs:List AV):fieldAddrA T 90 (.ip cs) 0=some (.ip (cs.drop 0)):=rfl
@[simp] theorem FH90_0 (l k:Nat):fieldAddrA T 90 (.hp l k) 0=some (.hp l (k + 0)):=rfl
@[simp] theorem FA90_1 (cs:List AV):fieldAddrA T 90 (.ip cs) 1=some (.ip (cs.drop 1)):=rfl
@[simp] theorem FH90_1 (l k:Nat):fieldAddrA T 90 (.hp l k) 1=some (.hp l (k + 1)):=rfl
@[simp] theorem FA90_2 (cs:List AV):fieldAddrA T 90 (.ip cs) 2=some (.ip (cs.drop 2)):=rfl
@[simp] theorem FH90_2 (l k:Nat):fieldAddrA T 90 (.hp l k) 2=some (.hp l (k + 2)):=rfl
@[simp] theorem FA90_3 (cs:List AV):fieldAddrA T 90 (.ip cs) 3=some (.ip (cs.drop 3)):=rfl
@[simp] theorem FH90_3 (l k:Nat):fieldAddrA T 90 (.hp l k) 3=some (.hp l (k + 3)):=rfl
@[simp] theorem FA90_5 (cs:List AV):fieldAddrA T 90 (.ip cs) 5=some (.ip (cs.drop 6)):=rfl
@[simp] theorem FH90_5 (l k:Nat):fieldAddrA T 90 (.hp l k) 5=some (.hp l (k + 6)):=rfl
@[simp] theorem FA99_0 (cs:List AV):fieldAddrA T 99 (.ip cs) 0=some (.ip (cs.drop 0)):=rfl
@[simp] theorem FH99_0 (l k:Nat):fieldAddrA T 99 (.hp l k) 0=some (.hp l (k + 0)):=rfl
@[simp] theorem FA99_1 (cs:List AV):fieldAddrA T 99 (.ip cs) 1=some (.ip (cs.drop 3)):=rfl
@[simp] theorem FH99_1 (l k:Nat):fieldAddrA T 99 (.hp l k) 1=some (.hp l (k + 3)):=rfl
@[simp] theorem FA105_0 (cs:List AV):fieldAddrA T 105 (.ip cs) 0=some (.ip (cs.drop 0)):=rfl
@[simp] theorem FH105_0 (l k:Nat):fieldAddrA T 105 (.hp l k) 0=some (.hp l (k + 0)):=rfl
@[simp] theorem FA105_1 (cs:List AV):fieldAddrA T 105 (.ip cs) 1=some (.ip (cs.drop 1)):=rfl
@[simp] theorem FH105_1 (l k:Nat):fieldAddrA T 105 (.hp l k) 1=some (.hp l (k + 1)):=rfl
@[simp] theorem FA141_0 (cs:List AV):fieldAddrA T 141 (.ip cs) 0=some (.ip (cs.drop 0)):=rfl
@[simp] theorem FH141_0 (l k:Nat):fieldAddrA T 141 (.hp l k) 0=some (.hp l (k + 0)):=rfl
@[simp] theorem FA141_1 (cs:List AV):fieldAddrA T 141 (.ip cs) 1=some (.ip (cs.drop 1)):=rfl
@[simp] theorem FH141_1 (l k:Nat):fieldAddrA T 141 (.hp l k) 1=some (.hp l (k + 1)):=rfl
@[simp] theorem FA141_2 (cs:List AV):fieldAddrA T 141 (.ip cs) 2=some (.ip (cs.drop 2)):=rfl
@[simp] theorem FH141_2 (l k:Nat):fieldAddrA T 141 (.hp l k) 2=some (.hp l (k + 2)):=rfl
@[simp] theorem FA141_3 (cs:List AV):fieldAddrA T 141 (.ip cs) 3=some (.ip (cs.drop 3)):=rfl
@[simp] theorem FH141_3 (l k:Nat):fieldAddrA T 141 (.hp l k) 3=some (.hp l (k + 3)):=rfl
@[simp] theorem FA141_4 (cs:List AV):fieldAddrA T 141 (.ip cs) 4=some (.ip (cs.drop 4)):=rfl
@[simp] theorem FH141_4 (l k:Nat):fieldAddrA T 141 (.hp l k) 4=some (.hp l (k + 4)):=rfl
@[simp] theorem FA145_0 (cs:List AV):fieldAddrA T 145 (.ip cs) 0=some (.ip (cs.drop 0)):=rfl
@[simp] theorem FH145_0 (l k:Nat):fieldAddrA T 145 (.hp l k) 0=some (.hp l (k + 0)):=rfl
@[simp] theorem FA145_1 (cs:List AV):fieldAddrA T 145 (.ip cs) 1=some (.ip (cs.drop 1)):=rfl
@[simp] theorem FH145_1 (l k:Nat):fieldAddrA T 145 (.hp l k) 1=some (.hp l (k + 1)):=rfl
@[simp] theorem FA145_2 (cs:List AV):fieldAddrA T 145 (.ip cs) 2=some (.ip (cs.drop 2)):=rfl
@[simp] theorem FH145_2 (l k:Nat):fieldAddrA T 145 (.hp l k) 2=some (.hp l (k + 2)):=rfl
@[simp] theorem FA155_1 (cs:List AV):fieldAddrA T 155 (.ip cs) 1=some (.ip (cs.drop 1)):=rfl
@[simp] theorem FH155_1 (l k:Nat):fieldAddrA T 155 (.hp l k) 1=some (.hp l (k + 1)):=rfl
@[simp] theorem LD3 (x:AV) (l:List AV):loadA T 3 (.ip (x :: l))=some x:=rfl
@[simp] theorem LD4 (x:AV) (l:List AV):loadA T 4 (.ip (x :: l))=some x:=rfl
@[simp] theorem LD9 (x:AV) (l:List AV):loadA T 9 (.ip (x :: l))=some x:=rfl
@[simp] theorem LD22 (x:AV) (l:List AV):loadA T 22 (.ip (x :: l))=some x:=rfl
@[simp] theorem LD23 (x:AV) (l:List AV):loadA T 23 (.ip (x :: l))=some x:=rfl
@[simp] theorem LD24 (x:AV) (l:List AV):loadA T 24 (.ip (x :: l))=some x:=rfl
@[simp] theorem LD26 (cs:List AV):loadA T 26 (.ip cs)=if 4≤cs.length then some (.agg (cs.take 4)) else none:=rfl
@[simp] theorem LD27 (x:AV) (l:List AV):loadA T 27 (.ip (x :: l))=some x:=rfl
@[simp] theorem LD28 (x:AV) (l:List AV):loadA T 28 (.ip (x :: l))=some x:=rfl
@[simp] theorem LD29 (x:AV) (l:List AV):loadA T 29 (.ip (x :: l))=some x:=rfl
@[simp] theorem LD31 (cs:List AV):loadA T 31 (.ip cs)=if 6≤cs.length then some (.agg (cs.take 6)) else none:=rfl
@[simp] theorem LD33 (cs:List AV):loadA T 33 (.ip cs)=if 10≤cs.length then some (.agg (cs.take 10)) else none:=rfl
@[simp] theorem LD37 (cs:List AV):loadA T 37 (.ip cs)=if 2≤cs.length then some (.agg (cs.take 2)) else none:=rfl
@[simp] theorem LD45 (x:AV) (l:List AV):loadA T 45 (.ip (x :: l))=some x:=rfl
@[simp] theorem LD50 (x:AV) (l:List AV):loadA T 50 (.ip (x :: l))=some x:=rfl
@[simp] theorem LD51 (x:AV) (l:List AV):loadA T 51 (.ip (x :: l))=some x:=rfl
@[simp] theorem LD55 (cs:List AV):loadA T 55 (.ip cs)=if 9≤cs.length then some (.agg (cs.take 9)) else none:=rfl
@[simp] theorem LD58 (cs:List AV):loadA T 58 (.ip cs)=if 3≤cs.length then some (.agg (cs.take 3)) else none:=rfl
@[simp] theorem LD61 (x:AV) (l:List AV):loadA T 61 (.ip (x :: l))=some x:=rfl
@[simp] theorem LD63 (cs:List AV):loadA T 63 (.ip cs)=if 3≤cs.length then some (.agg (cs.take 3)) else none:=rfl
@[simp] theorem LD71 (cs:List AV):loadA T 71 (.ip cs)=if 4≤cs.length then some (.agg (cs.take 4)) else none:=rfl
@[simp] theorem LD72 (x:AV) (l:List AV):loadA T 72 (.ip (x :: l))=some x:=rfl
@[simp] theorem LD73 (x:AV) (l:List AV):loadA T 73 (.ip (x :: l))=some x:=rfl
@[simp] theorem LD88 (cs:List AV):loadA T 88 (.ip cs)=if 2≤cs.length then some (.agg (cs.take 2)) else none:=rfl
@[simp] theorem LD90 (cs:List AV):loadA T 90 (.ip cs)=if 12≤cs.length then some (.agg (cs.take 12)) else none:=rfl
@[simp] theorem LD99 (cs:List AV):loadA T 99 (.ip cs)=if 6≤cs.length then some (.agg (cs.take 6)) else none:=rfl
@[simp] theorem LD105 (cs:List AV):loadA T 105 (.ip cs)=if 3≤cs.length then some (.agg (cs.take 3)) else none:=rfl
@[simp] theorem LD110 (x:AV) (l:List AV):loadA T 110 (.ip (x :: l))=some x:=rfl
@[simp] theorem LD139 (x:AV) (l:List AV):loadA T 139 (.ip (x :: l))=some x:=rfl
@[simp] theorem LD145 (cs:List AV):loadA T 145 (.ip cs)=if 3≤cs.length then some (.agg (cs.take 3)) else none:=rfl
@[simp] theorem LD185 (x:AV) (l:List AV):loadA T 185 (.ip (x :: l))=some x:=rfl
@[simp] theorem LEN22 (es:List AV):lenA T 22 (.sl es)=some (.int .i64 es.length):=rfl
@[simp] theorem LENN22:lenA T 22 .hn=some (.int .i64 0):=rfl
@[simp] theorem LENH22 (l k n s:Nat) (a:Bool):lenA T 22 (.hs l k n s a)=some (.int .i64 n):=rfl
@[simp] theorem LENE22 (l:List Mod):lenA T 22 (mods l)=some (.int .i64 l.length):=(LEN22 _).trans (by simp)
@[simp] theorem LEN23 (es:List AV):lenA T 23 (.sl es)=some (.int .i64 es.length):=rfl
@[simp] theorem LENN23:lenA T 23 .hn=some (.int .i64 0):=rfl
@[simp] theorem LENH23 (l k n s:Nat) (a:Bool):lenA T 23 (.hs l k n s a)=some (.int .i64 n):=rfl
@[simp] theorem LENE23 (l:List Ver):lenA T 23 (vers l)=some (.int .i64 l.length):=(LEN23 _).trans (by simp)
@[simp] theorem LEN24 (es:List AV):lenA T 24 (.sl es)=some (.int .i64 es.length):=rfl
@[simp] theorem LENN24:lenA T 24 .hn=some (.int .i64 0):=rfl
@[simp] theorem LENH24 (l k n s:Nat) (a:Bool):lenA T 24 (.hs l k n s a)=some (.int .i64 n):=rfl
@[simp] theorem LENE24 (l:List Ap.Call):lenA T 24 (Ap.calls l)=some (.int .i64 l.length):=(LEN24 _).trans (by simp)
@[simp] theorem LEN27 (es:List AV):lenA T 27 (.sl es)=some (.int .i64 es.length):=rfl
@[simp] theorem LENN27:lenA T 27 .hn=some (.int .i64 0):=rfl
@[simp] theorem LENH27 (l k n s:Nat) (a:Bool):lenA T 27 (.hs l k n s a)=some (.int .i64 n):=rfl
@[simp] theorem LENE27 (l:List Rng):lenA T 27 (rngs l)=some (.int .i64 l.length):=(LEN27 _).trans (by simp)
@[simp] theorem LEN28 (es:List AV):lenA T 28 (.sl es)=some (.int .i64 es.length):=rfl
@[simp] theorem LENN28:lenA T 28 .hn=some (.int .i64 0):=rfl
@[simp] theorem LENH28 (l k n s:Nat) (a:Bool):lenA T 28 (.hs l k n s a)=some (.int .i64 n):=rfl
@[simp] theorem LENE28 (l:List Str):lenA T 28 (strs l)=some (.int .i64 l.length):=(LEN28 _).trans (by simp)
@[simp] theorem LEN29 (es:List AV):lenA T 29 (.sl es)=some (.int .i64 es.length):=rfl
@[simp] theorem LENN29:lenA T 29 .hn=some (.int .i64 0):=rfl
@[simp] theorem LENH29 (l k n s:Nat) (a:Bool):lenA T 29 (.hs l k n s a)=some (.int .i64 n):=rfl
@[simp] theorem LENE29 (l:List Exp):lenA T 29 (exps l)=some (.int .i64 l.length):=(LEN29 _).trans (by simp [expsAv_map])
@[simp] theorem LEN40 (es:List AV):lenA T 40 (.sl es)=some (.int .i64 es.length):=rfl
@[simp] theorem LENN40:lenA T 40 .hn=some (.int .i64 0):=rfl
@[simp] theorem LENH40 (l k n s:Nat) (a:Bool):lenA T 40 (.hs l k n s a)=some (.int .i64 n):=rfl
@[simp] theorem LENE40 (l:List Seen):lenA T 40 (seens l)=some (.int .i64 l.length):=(LEN40 _).trans (by simp)
@[simp] theorem LEN42 (es:List AV):lenA T 42 (.sl es)=some (.int .i64 es.length):=rfl
@[simp] theorem LENN42:lenA T 42 .hn=some (.int .i64 0):=rfl
@[simp] theorem LENH42 (l k n s:Nat) (a:Bool):lenA T 42 (.hs l k n s a)=some (.int .i64 n):=rfl
@[simp] theorem LENE42 (l:List Ref):lenA T 42 (refsA l)=some (.int .i64 l.length):=(LEN42 _).trans (by simp)
@[simp] theorem LEN45 (es:List AV):lenA T 45 (.sl es)=some (.int .i64 es.length):=rfl
@[simp] theorem LENN45:lenA T 45 .hn=some (.int .i64 0):=rfl
@[simp] theorem LENH45 (l k n s:Nat) (a:Bool):lenA T 45 (.hs l k n s a)=some (.int .i64 n):=rfl
@[simp] theorem LENE45 (l:List Int):lenA T 45 (ints l)=some (.int .i64 l.length):=(LEN45 _).trans (by simp)
@[simp] theorem LEN50 (es:List AV):lenA T 50 (.sl es)=some (.int .i64 es.length):=rfl
@[simp] theorem LENN50:lenA T 50 .hn=some (.int .i64 0):=rfl
@[simp] theorem LENH50 (l k n s:Nat) (a:Bool):lenA T 50 (.hs l k n s a)=some (.int .i64 n):=rfl
@[simp] theorem LENE50 (l:List Fld):lenA T 50 (flds l)=some (.int .i64 l.length):=(LEN50 _).trans (by simp [fldsAv_map])
@[simp] theorem LEN51 (es:List AV):lenA T 51 (.sl es)=some (.int .i64 es.length):=rfl
@[simp] theorem LENN51:lenA T 51 .hn=some (.int .i64 0):=rfl
@[simp] theorem LENH51 (l k n s:Nat) (a:Bool):lenA T 51 (.hs l k n s a)=some (.int .i64 n):=rfl
@[simp] theorem LENE51 (l:List Fun):lenA T 51 (funs l)=some (.int .i64 l.length):=(LEN51 _).trans (by simp)
@[simp] theorem LEN61 (es:List AV):lenA T 61 (.sl es)=some (.int .i64 es.length):=rfl
@[simp] theorem LENN61:lenA T 61 .hn=some (.int .i64 0):=rfl
@[simp] theorem LENH61 (l k n s:Nat) (a:Bool):lenA T 61 (.hs l k n s a)=some (.int .i64 n):=rfl
@[simp] theorem LENE61 (l:List Val):lenA T 61 (vals l)=some (.int .i64 l.length):=(LEN61 _).trans (by simp [valsAv_map])
theorem IX22 {l:List Mod} {n:Int} (h0:0≤n) (h:n < (l.length:Int)):indexAddrA T 22 (mods l) (.int .i64 n)=some (.ip (acells (Mod.av l[n.toNat]!))):=indexAddrA_int (T:=T) (t:=22) (e:=55) rfl rfl rfl (fun _=>by first | rfl | (simp; done) | (simp; rfl)) h0 h
theorem IX23 {l:List Ver} {n:Int} (h0:0≤n) (h:n < (l.length:Int)):indexAddrA T 23 (vers l) (.int .i64 n)=some (.ip (acells (Ver.av l[n.toNat]!))):=indexAddrA_int (T:=T) (t:=23) (e:=58) rfl rfl rfl (fun _=>by first | rfl | (simp; done) | (simp; rfl)) h0 h
theorem IX24 {l:List Ap.Call} {n:Int} (h0:0≤n) (h:n < (l.length:Int)):indexAddrA T 24 (Ap.calls l) (.int .i64 n)=some (.ip (acells (Ap.Call.av l[n.toNat]!))):=indexAddrA_int (T:=T) (t:=24) (e:=63) rfl rfl rfl (fun _=>by first | rfl | (simp; done) | (simp; rfl)) h0 h
theorem IX27 {l:List Rng} {n:Int} (h0:0≤n) (h:n < (l.length:Int)):indexAddrA T 27 (rngs l) (.int .i64 n)=some (.ip (acells (Rng.av l[n.toNat]!))):=indexAddrA_int (T:=T) (t:=27) (e:=99) rfl rfl rfl (fun _=>by first | rfl | (simp; done) | (simp; rfl)) h0 h
theorem IX28 {l:List Str} {n:Int} (h0:0≤n) (h:n < (l.length:Int)):indexAddrA T 28 (strs l) (.int .i64 n)=some (.ip (acells (AV.str l[n.toNat]!))):=indexAddrA_int (T:=T) (t:=28) (e:=9) rfl rfl rfl (fun _=>by first | rfl | (simp; done) | (simp; rfl)) h0 h
theorem IX29 {l:List Exp} {n:Int} (h0:0≤n) (h:n < (l.length:Int)):indexAddrA T 29 (exps l) (.int .i64 n)=some (.ip (acells (Exp.av l[n.toNat]!))):=by rw [exps,expsAv_map]; exact indexAddrA_int (T:=T) (t:=29) (e:=31) rfl rfl rfl (fun _=>by first | rfl | (simp; done) | (simp; rfl)) h0 h
theorem IX40 {l:List Seen} {n:Int} (h0:0≤n) (h:n < (l.length:Int)):indexAddrA T 40 (seens l) (.int .i64 n)=some (.ip (acells (Seen.av l[n.toNat]!))):=indexAddrA_int (T:=T) (t:=40) (e:=26) rfl rfl rfl (fun _=>by first | rfl | (simp; done) | (simp; rfl)) h0 h
theorem IX42 {l:List Ref} {n:Int} (h0:0≤n) (h:n < (l.length:Int)):indexAddrA T 42 (refsA l) (.int .i64 n)=some (.ip (acells (refA l[n.toNat]!))):=indexAddrA_int (T:=T) (t:=42) (e:=37) rfl rfl rfl (fun _=>by first | rfl | (simp; done) | (simp; rfl)) h0 h
theorem IX45 {l:List Int} {n:Int} (h0:0≤n) (h:n < (l.length:Int)):indexAddrA T 45 (ints l) (.int .i64 n)=some (.ip (acells (AV.int .i64 l[n.toNat]!))):=indexAddrA_int (T:=T) (t:=45) (e:=3) rfl rfl rfl (fun _=>by first | rfl | (simp; done) | (simp; rfl)) h0 h
theorem IX50 {l:List Fld} {n:Int} (h0:0≤n) (h:n < (l.length:Int)):indexAddrA T 50 (flds l) (.int .i64 n)=some (.ip (acells (fldAv l[n.toNat]!))):=by rw [flds,fldsAv_map]; exact indexAddrA_int (T:=T) (t:=50) (e:=105) rfl rfl rfl (fun _=>by first | rfl | (simp; done) | (simp; rfl)) h0 h
theorem IX51 {l:List Fun} {n:Int} (h0:0≤n) (h:n < (l.length:Int)):indexAddrA T 51 (funs l) (.int .i64 n)=some (.ip (acells (Fun.av l[n.toNat]!))):=indexAddrA_int (T:=T) (t:=51) (e:=90) rfl rfl rfl (fun _=>by first | rfl | (simp; done) | (simp; rfl)) h0 h
theorem IX61 {l:List Val} {n:Int} (h0:0≤n) (h:n < (l.length:Int)):indexAddrA T 61 (vals l) (.int .i64 n)=some (.ip (acells (Val.av l[n.toNat]!))):=by rw [vals,valsAv_map]; exact indexAddrA_int (T:=T) (t:=61) (e:=71) rfl rfl rfl (fun _=>by first | rfl | (simp; done) | (simp; rfl)) h0 h
theorem AP22 {a b:List Mod} (h:(a.length + b.length) * 192≤140737488355328):appA T 22 (mods a) (mods b)=some (mods (a++b)):=by
 have:=appA_map (T:=T) (t:=22) (e:=55) rfl rfl rfl (f:=Mod.av) (fun _=>by first | rfl | (simp; done) | (simp; rfl)) (a:=a) (b:=b) h (by decide)
 simpa [mods] using this
theorem AP28 {a b:List Str} (h:(a.length + b.length) * 16≤140737488355328):appA T 28 (strs a) (strs b)=some (strs (a++b)):=by
 have:=appA_map (T:=T) (t:=28) (e:=9) rfl rfl rfl (f:=AV.str) (fun _=>by first | rfl | (simp; done) | (simp; rfl)) (a:=a) (b:=b) h (by decide)
 simpa [strs] using this
theorem AP29 {a b:List Exp} (h:(a.length + b.length) * 96≤140737488355328):appA T 29 (exps a) (exps b)=some (exps (a++b)):=by
 have:=appA_map (T:=T) (t:=29) (e:=31) rfl rfl rfl (f:=Exp.av) (fun _=>by first | rfl | (simp; done) | (simp; rfl)) (a:=a) (b:=b) h (by decide)
 simpa [exps,expsAv_map] using this
theorem AP42 {a b:List Ref} (h:(a.length + b.length) * 32≤140737488355328):appA T 42 (refsA a) (refsA b)=some (refsA (a++b)):=by
 have:=appA_map (T:=T) (t:=42) (e:=37) rfl rfl rfl (f:=refA) (fun _=>by first | rfl | (simp; done) | (simp; rfl)) (a:=a) (b:=b) h (by decide)
 simpa [refsA] using this
theorem AP45 {a b:List Int} (h:(a.length + b.length) * 8≤140737488355328):appA T 45 (ints a) (ints b)=some (ints (a++b)):=by
 have:=appA_map (T:=T) (t:=45) (e:=3) rfl rfl rfl (f:=AV.int .i64) (fun _=>by first | rfl | (simp; done) | (simp; rfl)) (a:=a) (b:=b) h (by decide)
 simpa [ints] using this
theorem AP61 {a b:List Val} (h:(a.length + b.length) * 64≤140737488355328):appA T 61 (vals a) (vals b)=some (vals (a++b)):=by
 have:=appA_map (T:=T) (t:=61) (e:=71) rfl rfl rfl (f:=Val.av) (fun _=>by first | rfl | (simp; done) | (simp; rfl)) (a:=a) (b:=b) h (by decide)
 simpa [vals,valsAv_map] using this
end Go.Proofs.YtnipfhmghjdnmaaGreat

namespace Go.Proofs.YtnipfhmghjdnmaaGreat
open Go Go.Av Go.Av.Ap
set_option maxRecDepth 100000
theorem eq37 (a b:Ref):eqA T 20 37 (refA a) (refA b)=some (decide (a=b)):=by
 obtain ⟨a1,a2⟩:=a
 obtain ⟨b1,b2⟩:=b
 have h:eqA T 20 37 (refA (a1,a2)) (refA (b1,b2))=(match some (a1 == b1) with | some true=>(match some (a2 == b2) with | some true=>some true | some false=>some false | none=>none) | some false=>some false | none=>none):=rfl
 rw [h]
 by_cases h1:a1=b1
 ·by_cases h2:a2=b2
  ·subst h1 h2; simp
  ·have e2:(a2 == b2)=false:=beq_eq_false_iff_ne.2 h2
   subst h1
   simp [e2,h2]
 ·have e1:(a1 == b1)=false:=beq_eq_false_iff_ne.2 h1
  simp [e1,h1]
def posK {V:Type}:List (Ref×V)→Ref→Nat→Option (Nat×V)
 | [],_,_=>none
 | x :: r,k,i=>if x.1=k then some (i,x.2) else posK r k (i + 1)
theorem find_ent {V:Type} (f:V→AV):∀ (l:List (Ref×V)) (k:Ref) (i:Nat),findA T 37 (refA k) (l.map (entA f)) i=some ((posK l k i).map fun p=>(p.1,refA k,f p.2))
 | [],k,i=>rfl
 | x :: r,k,i=>by
  simp only [List.map_cons,entA,findA,eq37,posK]
  by_cases h:k=x.1
  ·subst h; simp
  ·have h':¬ (x.1=k):=fun e=>h e.symm
   simp only [h,decide_false,h',if_false]
   exact find_ent f r k (i + 1)
theorem posK_get {V:Type}:∀ (l:List (Ref×V)) (k:Ref) (i:Nat),(posK l k i).map (·.2)=getK l k
 | [],_,_=>rfl
 | x :: r,k,i=>by
  simp only [posK,getK]
  by_cases h:x.1=k
  ·simp [h]
  ·simp only [h,if_false]; exact posK_get r k (i + 1)
theorem posK_put {V:Type} (v:V):∀ (l:List (Ref×V)) (k:Ref) (i:Nat),(posK l k i=none∧putK l k v=l++[(k,v)])∨∃ j u,posK l k i=some (i + j,u)∧j < l.length∧putK l k v=l.set j (k,v)
 | [],k,i=>.inl ⟨rfl,rfl⟩
 | x :: r,k,i=>by
  simp only [posK,putK]
  by_cases h:x.1=k
  ·exact .inr ⟨0,x.2,by simp [h],by simp,by simp [h]⟩
  ·simp only [h,if_false]
   rcases posK_put v r k (i + 1) with ⟨h1,h2⟩ | ⟨j,u,h1,h2,h3⟩
   ·exact .inl ⟨h1,by rw [h2]; rfl⟩
   ·exact .inr ⟨j + 1,u,by rw [h1]; congr 2; omega,by simpa using h2,by rw [h3]; rfl⟩
theorem put_ent {V:Type} (f:V→AV) (l:List (Ref×V)) (k:Ref) (v:V):putA T 37 (l.map (entA f)) (refA k) (f v)=some ((putK l k v).map (entA f)):=by
 unfold putA
 rw [find_ent]
 rcases posK_put v l k 0 with ⟨h1,h2⟩ | ⟨j,u,h1,h2,h3⟩
 ·rw [h1,h2]; simp [entA]
 ·rw [h1,h3]
  have hs:sameA (refA k) (refA k)=true:=by
   show (k.1 == k.1&&(k.2 == k.2&&true))=true
   rw [beq_self_eq_true,beq_self_eq_true]; rfl
  simp only [Option.map_some,hs,cond_true,Nat.zero_add,List.map_set]
  rfl
theorem look_ent {V:Type} (f:V→AV) {t et:Nat} {ei:TI} (hm:mapTy T t=some (37,et)) (he:T et=some ei) (l:List (Ref×V)) (k:Ref) (ok:Bool) :
  lookA T t (l.map (entA f)) (refA k) ok=some (match getK l k with | some v=>(bif ok then .tup [f v,.bool true] else f v) | none=>(bif ok then .tup [zeroEl ei,.bool false] else zeroEl ei)):=by
 unfold lookA
 have hc:ckV T 20 37 (refA k)=true:=rfl
 simp only [hm,hc,cond_true,he,find_ent]
 rw [← posK_get l k 0]
 cases posK l k 0 <;> rfl
def seenA (n:Str):AV:=.tup [.str n,.bool true]
theorem eqS (a b:Str):eqA T 20 9 (.str a) (.str b)=some (a == b):=rfl
theorem find_seen:∀ (l:List Str) (n:Str) (i:Nat),∃ r,findA T 9 (.str n) (l.map seenA) i=some r∧((n∈l∧∃ j,r=some (j,.str n,.bool true))∨(n ∉ l∧r=none))
 | [],n,i=>⟨none,rfl,.inr ⟨by simp,rfl⟩⟩
 | x :: l,n,i=>by
  simp only [List.map_cons,seenA,findA,eqS]
  by_cases h:n=x
  ·subst h
   exact ⟨_,by simp,.inl ⟨by simp,i,rfl⟩⟩
  ·have e:(n == x)=false:=beq_eq_false_iff_ne.2 h
   rw [e]
   obtain ⟨r,h1,h2⟩:=find_seen l n (i + 1)
   refine ⟨r,h1,?_⟩
   rcases h2 with ⟨h2,h3⟩ | ⟨h2,h3⟩
   ·exact .inl ⟨by simp [h2],h3⟩
   ·exact .inr ⟨by simp [h,h2],h3⟩
theorem look_seen (l:List Str) (n:Str):lookA T 148 (l.map seenA) (.str n) false=some (.bool (decide (n∈l))):=by
 unfold lookA
 have hm:mapTy T 148=some (9,4):=rfl
 have hc:ckV T 20 9 (.str n)=true:=rfl
 have hz:∃ ei,T 4=some ei∧zeroEl ei = .bool false:=⟨_,rfl,rfl⟩
 obtain ⟨ei,hz1,hz2⟩:=hz
 obtain ⟨r,h1,h2⟩:=find_seen l n 0
 simp only [hm,hc,cond_true,hz1,h1]
 rcases h2 with ⟨h2,j,rfl⟩ | ⟨h2,rfl⟩
 ·simp [h2]
 ·simp [h2,hz2]
theorem put_seen (l:List Str) (n:Str) (h:n ∉ l):putA T 9 (l.map seenA) (.str n) (.bool true)=some ((l++[n]).map seenA):=by
 unfold putA
 obtain ⟨r,h1,h2⟩:=find_seen l n 0
 rcases h2 with ⟨h2,_⟩ | ⟨_,rfl⟩
 ·exact absurd h2 h
 ·rw [h1]; simp [seenA]
theorem mt110:mapTy T 110=some (37,90):=rfl
theorem mt108:mapTy T 108=some (37,37):=rfl
theorem mt185:mapTy T 185=some (37,4):=rfl
theorem mt148:mapTy T 148=some (9,4):=rfl
end Go.Proofs.YtnipfhmghjdnmaaGreat

namespace Go.Proofs.YtnipfhmghjdnmaaGreat
open Go Go.Av
set_option maxRecDepth 1000000
instance dr0:Dr:=⟨False⟩
theorem noDr {p:Prop} (h:Dr.on):p:=False.elim h
theorem tab_ok:(tab.map fun x=>tiOf Tryz.prog x.1)=tab.map fun x=>some x.2:=by kernel_rfl
theorem findT_mem:(l:List (Nat×TI))→(t:Nat)→(ti:TI)→findT l t=some ti→(t,ti)∈l
 | [],t,ti,h=>by cases h
 | (k,x) :: r,t,ti,h=>by
  simp only [findT] at h
  cases hk:Nat.beq k t with
  | true =>
   rw [hk] at h
   simp only [cond_true,Option.some.injEq] at h
   have:=Nat.eq_of_beq_eq_true hk
   subst this h
   exact List.mem_cons_self
  | false =>
   rw [hk] at h
   exact List.mem_cons_of_mem _ (findT_mem r t ti h)
theorem mem_of_map {α β:Type} {f g:α→β}:{l:List α} → l.map f=l.map g→∀ x∈l,f x=g x
 | [],_,x,hx=>by cases hx
 | a :: l,h,x,hx=>by
  simp only [List.map_cons,List.cons.injEq] at h
  rcases List.mem_cons.1 hx with rfl | hx
  ·exact h.1
  ·exact mem_of_map h.2 x hx
theorem tok:TOK Tryz.prog T:=⟨fun t ti h=>mem_of_map tab_ok (t,ti) (findT_mem tab t ti h),by kernel_rfl⟩
theorem tabF_ok:(tabF.map fun x=>Tryz.prog.funcs[x.1]?)=tabF.map fun x=>some x.2.1:=by kernel_rfl
theorem tabF_names:(tabF.map fun x=>x.2.1.name == "runtime.NumGoroutine")=tabF.map fun _=>false:=by kernel_rfl
theorem findF_mem:(l:List (Nat×(Func×Ann)))→(t:Nat)→(x:Func×Ann)→findF l t=some x→(t,x)∈l
 | [],t,ti,h=>by cases h
 | (k,x) :: r,t,ti,h=>by
  simp only [findF] at h
  cases hk:Nat.beq k t with
  | true =>
   rw [hk] at h
   simp only [cond_true,Option.some.injEq] at h
   have:=Nat.eq_of_beq_eq_true hk
   subst this h
   exact List.mem_cons_self
  | false =>
   rw [hk] at h
   exact List.mem_cons_of_mem _ (findF_mem r t ti h)
theorem funcs_ok:∀ f fn a,pg.funcs f=some (fn,a)→Tryz.prog.funcs[f]? = some fn∧(fn.name == "runtime.NumGoroutine")=false:=by
 intro f fn a h
 have:=findF_mem tabF f (fn,a) h
 exact ⟨mem_of_map tabF_ok _ this,mem_of_map tabF_names _ this⟩
end Go.Proofs.YtnipfhmghjdnmaaGreat

namespace Go.Proofs.YtnipfhmghjdnmaaGreat
open Go Go.Av Go.Av.Ap Go.RowKit Go.Shelf
attribute [local go_sem] Oper.semAt_some
set_option maxRecDepth 100000
structure M9 where
 n:ByteArray
 a1:Value
 a2:Value
 a3:Value
 a4:Value
 a5:Value
 a6:Value
 a7:Value
 a8:Value
instance:Inhabited M9:=⟨⟨⟨#[]⟩,undef,undef,undef,undef,undef,undef,undef,undef⟩⟩
def Cells9 (W:World) (b off:Nat) (zs:List M9):Prop:=∀ j,j < zs.length→W.cell? ⟨b,off + j * 9,none⟩=some (.string (zs[j]?.getD default).n)∧W.cell? ⟨b,off + j * 9 + 1,none⟩=some (zs[j]?.getD default).a1∧W.cell? ⟨b,off + j * 9 + 2,none⟩=some (zs[j]?.getD default).a2∧W.cell? ⟨b,off + j * 9 + 3,none⟩=some (zs[j]?.getD default).a3∧W.cell? ⟨b,off + j * 9 + 4,none⟩=some (zs[j]?.getD default).a4∧W.cell? ⟨b,off + j * 9 + 5,none⟩=some (zs[j]?.getD default).a5∧W.cell? ⟨b,off + j * 9 + 6,none⟩=some (zs[j]?.getD default).a6∧W.cell? ⟨b,off + j * 9 + 7,none⟩=some (zs[j]?.getD default).a7∧W.cell? ⟨b,off + j * 9 + 8,none⟩=some (zs[j]?.getD default).a8
theorem Cells9.keep {n₀ bo:Nat} {A B:World} (h:KeepX n₀ bo A B) {b off:Nat} (hb:b < n₀) (hn:b≠bo) {zs:List M9} (c:Cells9 A b off zs):Cells9 B b off zs:=fun j hj=>by
 have:=c j hj
 simpa only [h.cell hb hn] using this
section
variable (S:Stab) (β:List Blk)
def IsSl (v:Value):Prop:=∃ p l c,v = .slice p l c
def FunR (y:Str×AV) (z:F12):Prop:=z.n.data.toList=y.1∧VR S β y.2 z.v∧(∃ p,z.a1 = .bool p)∧IsSl z.a2∧(∃ k,z.a3 = .int .i64 k)∧IsSl z.a4∧(∃ k,z.a5 = .int .i64 k)∧(∃ k,z.a6 = .int .i64 k)∧(∃ k,z.a7 = .int .i64 k)∧(∃ x,z.a8 = .string x)∧(∃ x,z.a9 = .string x)∧IsSl z.a10∧IsSl z.a11
def FunsR:List (Str×AV)→List F12→Prop
 | [],zs=>zs = []
 | y :: l,zs=>∃ z r,zs=z :: r∧FunR S β y z∧FunsR l r
def ModR (w:World) (m:Str×List (Str×AV)) (z:M9):Prop:=z.n.data.toList=m.1∧∃ zs,FunsR S β m.2 zs∧Funs12 w.heap.size w.heap.size w z.a4 zs∧IsSl z.a4∧IsSl z.a1∧IsSl z.a2∧IsSl z.a3∧(∃ p,z.a5 = .bool p)∧IsSl z.a6∧IsSl z.a7∧IsSl z.a8
def ModsR (w:World):List (Str×List (Str×AV))→List M9→Prop
 | [],zs=>zs = []
 | m :: l,zs=>∃ z r,zs=z :: r∧ModR S β w m z∧ModsR w l r
end
theorem FunsR.length {S:Stab} {β:List Blk}:{l:List (Str×AV)} → {zs:List F12} → FunsR S β l zs→zs.length=l.length
 | [],_,h=>by simp only [FunsR] at h; simp [h]
 | y :: l,zs,h=>by
  simp only [FunsR] at h
  obtain ⟨z,r,rfl,_,h⟩:=h
  simp [FunsR.length h]
theorem FunsR.get {S:Stab} {β:List Blk}:{l:List (Str×AV)} → {zs:List F12} → FunsR S β l zs→∀ {i:Nat},i < l.length→∃ y,l[i]? = some y∧FunR S β y (zs[i]?.getD default)
 | [],_,_,i,hi=>by simp at hi
 | y :: l,zs,h,i,hi=>by
  simp only [FunsR] at h
  obtain ⟨z,r,rfl,h1,h⟩:=h
  cases i with
  | zero=>exact ⟨y,rfl,by simpa using h1⟩
  | succ i=>simpa using FunsR.get h (i:=i) (by simpa using hi)
theorem ModsR.length {S:Stab} {β:List Blk} {w:World}:{l:List (Str×List (Str×AV))} → {zs:List M9} → ModsR S β w l zs→zs.length=l.length
 | [],_,h=>by simp only [ModsR] at h; simp [h]
 | y :: l,zs,h=>by
  simp only [ModsR] at h
  obtain ⟨z,r,rfl,_,h⟩:=h
  simp [ModsR.length h]
theorem ModsR.get {S:Stab} {β:List Blk} {w:World}:{l:List (Str×List (Str×AV))} → {zs:List M9} → ModsR S β w l zs→∀ {i:Nat},i < l.length→∃ y,l[i]? = some y∧ModR S β w y (zs[i]?.getD default)
 | [],_,_,i,hi=>by simp at hi
 | y :: l,zs,h,i,hi=>by
  simp only [ModsR] at h
  obtain ⟨z,r,rfl,h1,h⟩:=h
  cases i with
  | zero=>exact ⟨y,rfl,by simpa using h1⟩
  | succ i=>simpa using ModsR.get h (i:=i) (by simpa using hi)
def MapIs (S:Stab) (β:List Blk) (W:World) (b:Nat) (es:List AV):Prop:=MapAt S β W b es
theorem MapIs.kept {S:Stab} {β:List Blk} {W W':World} {b:Nat} {es:List AV} (h:MapIs S β W b es) (hb:W'.heap[b]? = W.heap[b]?):MapIs S β W' b es:=by
 obtain ⟨ents,clock,h1,h2,h3⟩:=h
 exact ⟨ents,clock,hb.trans h1,h2,h3⟩
theorem MapIs.lt {S:Stab} {β:List Blk} {W:World} {b:Nat} {es:List AV} (h:MapIs S β W b es):b < W.heap.size:=by
 obtain ⟨ents,clock,h1,_⟩:=h
 exact (Array.getElem?_eq_some_iff.1 h1).1
theorem MapIs.not_cells {S:Stab} {β:List Blk} {W:World} {b:Nat} {es:List AV} (h:MapIs S β W b es):∃ o,W.heap[b]? = some o∧o.isCells=false:=by
 obtain ⟨ents,clock,h1,_⟩:=h
 exact ⟨_,h1,rfl⟩
theorem MapIs.put {S:Stab} {β:List Blk} {W:World} {b:Nat} {es es':List AV} {t kt et:Nat} {k v:AV} {vk vv:Value} (h:MapIs S β W b es) (hmt:mapTy T t=some (kt,et)) (hck:ckV T 20 kt k=true) (hp:putA T kt es k v=some es') (hk:VR S β k vk) (hv:VR S β v vv) :
  ∃ o,(Instr.mapUpdate t (.map (some b)) vk vv).run Tryz.prog W = .ok () (setBlk W b o)∧o.isCells=false∧MapIs S β (setBlk W b o) b es':=by
 obtain ⟨ents,clock,h1,h2,h3⟩:=h
 obtain ⟨ents',clock',k1,k2,k3,_⟩:=put_ok (P:=Tryz.prog) (w:=W) tok hmt hck hp hk hv h2 h3 h1
 exact ⟨.map ents' clock',k1,rfl,ents',clock',setBlk_new _ (Array.getElem?_eq_some_iff.1 h1).1,k2,k3⟩
theorem MapIs.look {S:Stab} {β:List Blk} {W:World} {b:Nat} {es:List AV} {t:Nat} {ok:Bool} {k r:AV} {vk:Value} (h:MapIs S β W b es) (hl:lookA T t es k ok=some r) (hk:VR S β k vk):Pur Tryz.prog W S β (Instr.lookup t (.map (some b)) vk ok) r:=by
 obtain ⟨ents,clock,h1,h2,h3⟩:=h
 exact look_ok tok hl hk h2 (.inr ⟨b,clock,rfl,h1⟩)
theorem leaves_marks {F:Fence} {n:Nat} {P:Program} {fn:Func} {tmps:Array Value} {R:Ending→World→Prop} (n₀:Nat) (I:World→Prop) (hI:∀ W D,n₀≤D→I W→W.heap[D]? = some (.deferred (some []))→I (W.putObj D (.deferred none)))
  (hend:∀ W,I W→LeavesInM F n P fn tmps R [] .returning W):∀ (Ds:List Nat) (W:World),Ds.Nodup→(∀ D∈Ds,n₀≤D∧W.heap[D]? = some (.deferred (some [])))→I W →
  LeavesInM F n P fn tmps R (Ds.map fun D=>{ target:=.collected D,args:=#[] }) .returning W
 | [],W,_,_,hW=>hend W hW
 | D :: Ds,W,hn,hD,hW=>by
  have hn':=List.nodup_cons.1 hn
  have hk:=(hD D (by simp)).2
  refine ⟨by simp,.inl ⟨D,_,rfl,run_takeDeferred hk,?_⟩⟩
  refine leaves_marks n₀ I hI hend Ds _ hn'.2 (fun E hE=>⟨(hD E (by simp [hE])).1,?_⟩) (hI W D (hD D (by simp)).1 hW hk)
  rw [World.putObj_heap_other (fun e=>hn'.1 (by rw [← e]; exact hE))]
  exact (hD E (by simp [hE])).2
theorem idx_step {V:Type} {l:List (Str×List (Str×V))} {k:Nat} {m:Str×List (Str×V)} (h:l[k]? = some m) (seen:List Str) (out:List (Ref×V)) :
  idxG (l.drop k) seen out=(if m.1∈seen then idxG (l.drop (k + 1)) seen out else idxG (l.drop (k + 1)) (seen++[m.1]) (idxF m.1 m.2 out)):=by
 obtain ⟨hlt,rfl⟩:=List.getElem?_eq_some_iff.1 h
 rw [List.drop_eq_getElem_cons hlt]
 rfl
abbrev PF (S:Stab) (β:List Blk):={ p:(Nat×F12)×(Str×AV) // FunR S β p.2 p.1.2 }
def outOfI {S:Stab} {β:List Blk} (mn:Str) (pre:List (PF S β)) (out:List (Ref×AV)):List (Ref×AV):=pre.foldl (fun o x=>putK o (mn,x.1.2.1) x.1.2.2) out
theorem pfs_ex {S:Stab} {β:List Blk} {l:List (Str×AV)} {zs:List F12} (h:FunsR S β l zs):∃ yl:List (PF S β),yl.length=zs.length∧(∀ k (hk:k < yl.length),(yl[k]).1.1=(zs.length - 1 - k,zs[zs.length - 1 - k]?.getD default))∧∀ mn out,outOfI mn yl out=idxF mn l out:=by
 have hl:=h.length
 have hget:∀ j,j < l.length→FunR S β (l[l.length - 1 - j]?.getD default) (zs[l.length - 1 - j]?.getD default):=fun j hj=>by
  obtain ⟨y,h1,h2⟩:=h.get (i:=l.length - 1 - j) (by omega)
  rw [h1]; exact h2
 let yl:List (PF S β):=(List.range l.length).pmap (fun j hj=>⟨((l.length - 1 - j,zs[l.length - 1 - j]?.getD default),l[l.length - 1 - j]?.getD default),hget j hj⟩) (fun j hj=>by simpa using hj)
 have hyl:yl.length=l.length:=by simp [yl]
 have hk:∀ k (hk:k < yl.length),(yl[k]).1=((l.length - 1 - k,zs[l.length - 1 - k]?.getD default),l[l.length - 1 - k]?.getD default):=fun k hk=>by simp [yl]
 refine ⟨yl,by rw [hyl,hl],fun k h=>by rw [hk k h,hl],fun mn out=>?_⟩
 have hrev:yl.map (fun x=>x.1.2)=l.reverse:=by
  apply List.ext_getElem
  ·simp [hyl]
  ·intro i h1 h2
   have hi:i < l.length:=by simpa using h2
   rw [List.getElem_map,hk i (by rw [hyl]; exact hi),List.getElem_reverse]
   simp [List.getElem?_eq_getElem (show l.length - 1 - i < l.length by omega)]
 unfold outOfI idxF
 rw [← List.foldl_reverse,← hrev,List.foldl_map]
structure IdxI (S:Stab) (β:List Blk) (w:World) (l:List (Str×List (Str×AV))) (B3 bs bo k:Nat) (Ds:List Nat) (W:World):Prop where
 below:Below w.heap.size w W
 b3:W.heap[B3]? = some (.cells #[.map (some bo)] 110 (0,0))
 maps:∃ seen out,MapIs S β W bs (seen.map seenA)∧MapIs S β W bo (out.map (entA id))∧idxG (l.drop k) seen out=idxG l [] []
 marks:Ds.Nodup∧∀ D∈Ds,w.heap.size≤D∧W.heap[D]? = some (.deferred (some []))
set_option maxHeartbeats 8000000 in
theorem idx_in (F:Fence) (n:Nat) (f1:F.fn 53) (f2:F.fn 92) (f3:F.fn 132) (hro:F.round=none) (hn:5≤n) (S:Stab) (β:List Blk) (a:Option Addr) (len cap:Nat) (zs:List M9) (l:List (Str×List (Str×AV))) (w:World) (hR:ModsR S β w l zs) (hlen:len=zs.length) (hmax:l.length≤1000000∧∀ m∈l,m.2.length≤1000000)
  (hcells:zs = []∨∃ b off,a=some ⟨b,off,none⟩∧b < w.heap.size∧Cells9 w b off zs) :
  CallsIn F n Tryz.prog 53 #[.slice a len cap] w fun e W'=>∃ bo,e = .returned (.map (some bo))∧w.heap.size≤bo∧MapIs S β W' bo ((idxG l [] []).map (entA id))∧Below w.heap.size w W':=by
 have h1:1≤n:=by omega
 have hll:=hR.length
 obtain rfl:len=l.length:=by omega
 clear hlen
 have hmk:∀ t W,(Instr.makeMap t none).run Tryz.prog W = .ok (.map (some W.heap.size)) (W.alloc (.map #[] 0)):=fun t W=>by simp [Instr.makeMap]
 refine callsIn_of_wp_marks Tryz.func53 rfl f1 ?_ hro
 simp only [Tryz.ntmps53,List.size_toArray,List.length_cons,List.length_nil,Nat.reduceAdd,Nat.reduceSub,Array.replicate_succ,Array.replicate_zero,List.push_toArray,List.append_toArray,List.nil_append,List.cons_append]
 gi_wp2
 have e3:=World.alloc_heap_new (w.alloc (.map #[] 0)) (.cells #[.map (some w.heap.size)] 110)
 have e4:=World.alloc_heap_new ((w.alloc (.map #[] 0)).alloc (.cells #[.map (some w.heap.size)] 110)) (.map #[] 0)
 have e2:=World.alloc_heap_new w (.map #[] 0)
 simp only [World.size_alloc] at e3 e4
 have hB0:Below w.heap.size w (((w.alloc (.map #[] 0)).alloc (.cells #[.map (some w.heap.size)] 110)).alloc (.map #[] 0)) :=
  (((Below.refl _ w).alloc (Nat.le_refl _) _).alloc (by simp) _).alloc (by simp; omega) _
 have hb3:(((w.alloc (.map #[] 0)).alloc (.cells #[.map (some w.heap.size)] 110)).alloc (.map #[] 0)).heap[w.heap.size + 1]? = some (.cells #[.map (some w.heap.size)] 110 (0,0)):=(alloc_old _ _ (by simp)).trans e3
 have hm2:MapIs S β (((w.alloc (.map #[] 0)).alloc (.cells #[.map (some w.heap.size)] 110)).alloc (.map #[] 0)) w.heap.size [] :=
  ⟨#[],0,(alloc_old _ _ (by simp; omega)).trans ((alloc_old _ _ (by simp)).trans e2),⟨rfl,fun i e x he=>by simp at he⟩,fun x hx=>by simp at hx,by simp⟩
 have hm4:MapIs S β (((w.alloc (.map #[] 0)).alloc (.cells #[.map (some w.heap.size)] 110)).alloc (.map #[] 0)) (w.heap.size + 1 + 1) [] :=
  ⟨#[],0,e4,⟨rfl,fun i e x he=>by simp at he⟩,fun x hx=>by simp at hx,by simp⟩
 generalize (((w.alloc (.map #[] 0)).alloc (.cells #[.map (some w.heap.size)] 110)).alloc (.map #[] 0))=W0 at hB0 hb3 hm2 hm4 ⊢
 clear e2 e3 e4
 refine wpIn_loop (fun a' W=>∃ (k:Nat) (Ds:List Nat) (j1 j5 j6 j7 j8 j14 j15 j16 j17 j18 j19 j20 j21 j22 j23 j24 j25 j26 j27 j28 j29 j30 j31 j32 j33 j34 j35 j36 j37:Value),IdxI S β w l (w.heap.size + 1) (w.heap.size + 1 + 1) w.heap.size k Ds W∧k≤l.length∧a' = { tmps:=#[.slice a l.length cap,j1,.map none,.pointer (some ⟨w.heap.size + 1,0,none⟩),.map (some (w.heap.size + 1 + 1)),j5,j6,j7,j8,.map (some w.heap.size),.map (some (w.heap.size + 1 + 1)),.slice a l.length cap,.int .i64 (l.length:Int),.int .i64 (k:Int),j14,j15,j16,j17,j18,j19,j20,j21,j22,j23,j24,j25,j26,j27,j28,j29,j30,j31,j32,j33,j34,j35,j36,j37],defers:=Ds.map fun D=>{ target:=.collected D,args:=#[] } })
  (fun a' _=>((l.length:Int) - intOf (a'.tmps.getD 13 undef)).toNat) ⟨0,[],undef,undef,undef,undef,undef,undef,undef,undef,undef,undef,undef,undef,undef,undef,undef,undef,undef,undef,undef,undef,undef,undef,undef,undef,undef,undef,undef,undef,undef,⟨hB0,hb3,⟨[],[],hm4,hm2,by simp⟩,by simp,by simp⟩,Nat.zero_le _,rfl⟩ ?_
 rintro a1 W ⟨k,Ds,j1,j5,j6,j7,j8,j14,j15,j16,j17,j18,j19,j20,j21,j22,j23,j24,j25,j26,j27,j28,j29,j30,j31,j32,j33,j34,j35,j36,j37,hI,hk,rfl⟩
 by_cases hlt:k < l.length
 ·obtain ⟨m,hm,hMn,fz,hfz,hfuns,hsl,hs1',hs2',hs3',hs5',hs6',hs7',hs8'⟩:=hR.get hlt
  have hkz:k < zs.length:=by omega
  obtain ⟨b,off,rfl,hb,hcs⟩:=hcells.resolve_left (by rintro rfl; simp at hkz)
  have hkl:k < l.length:=by omega
  obtain ⟨seen,out,hs,ho,hidx⟩:=hI.maps
  rw [idx_step hm] at hidx
  have hK0:KeepX w.heap.size w.heap.size w W:=KeepX.of_below hI.below
  obtain ⟨c0,c1,c2,c3,c4,c5,c6,c7,c8⟩:=(hcs.keep hK0 hb (by omega)) k hkz
  generalize hz:zs[k]?.getD default=z at hMn hfuns hsl hs1' hs2' hs3' hs5' hs6' hs7' hs8' c0 c1 c2 c3 c4 c5 c6 c7 c8
  obtain ⟨z0,z1,z2,z3,z4,z5,z6,z7,z8⟩:=z
  simp only at hMn hfuns hsl hs1' hs2' hs3' hs5' hs6' hs7' hs8' c0 c1 c2 c3 c4 c5 c6 c7 c8
  obtain ⟨sp,sl,sc,rfl⟩:=hsl
  obtain ⟨p1,l1,q1,rfl⟩:=hs1'
  obtain ⟨p2,l2,q2,rfl⟩:=hs2'
  obtain ⟨p3,l3,q3,rfl⟩:=hs3'
  obtain ⟨p5,rfl⟩:=hs5'
  obtain ⟨p6,l6,q6,rfl⟩:=hs6'
  obtain ⟨p7,l7,q7,rfl⟩:=hs7'
  obtain ⟨p8,l8,q8,rfl⟩:=hs8'
  have hn1:W.heap.size < (W.alloc (.cells #[.string z0,.slice p1 l1 q1,.slice p2 l2 q2,.slice p3 l3 q3,.slice sp sl sc,.bool p5,.slice p6 l6 q6,.slice p7 l7 q7,.slice p8 l8 q8] 55)).heap.size:=by simp
  have hB1:Below w.heap.size w (W.alloc (.cells #[.string z0,.slice p1 l1 q1,.slice p2 l2 q2,.slice p3 l3 q3,.slice sp sl sc,.bool p5,.slice p6 l6 q6,.slice p7 l7 q7,.slice p8 l8 q8] 55)):=hI.below.alloc hI.below.size _
  have hr1:(W.alloc (.cells #[.string z0,.slice p1 l1 q1,.slice p2 l2 q2,.slice p3 l3 q3,.slice sp sl sc,.bool p5,.slice p6 l6 q6,.slice p7 l7 q7,.slice p8 l8 q8] 55)).heap[W.heap.size]? = some (.cells #[.string z0,.slice p1 l1 q1,.slice p2 l2 q2,.slice p3 l3 q3,.slice sp sl sc,.bool p5,.slice p6 l6 q6,.slice p7 l7 q7,.slice p8 l8 q8] 55 (0,0)):=World.alloc_heap_new W _
  have hb31:(W.alloc (.cells #[.string z0,.slice p1 l1 q1,.slice p2 l2 q2,.slice p3 l3 q3,.slice sp sl sc,.bool p5,.slice p6 l6 q6,.slice p7 l7 q7,.slice p8 l8 q8] 55)).heap[w.heap.size + 1]? = some (.cells #[.map (some w.heap.size)] 110 (0,0)):=(alloc_old W _ (Array.getElem?_eq_some_iff.1 hI.b3).1).trans hI.b3
  have hs1:=hs.kept (alloc_old W (.cells #[.string z0,.slice p1 l1 q1,.slice p2 l2 q2,.slice p3 l3 q3,.slice sp sl sc,.bool p5,.slice p6 l6 q6,.slice p7 l7 q7,.slice p8 l8 q8] 55) hs.lt)
  have ho1:=ho.kept (alloc_old W (.cells #[.string z0,.slice p1 l1 q1,.slice p2 l2 q2,.slice p3 l3 q3,.slice sp sl sc,.bool p5,.slice p6 l6 q6,.slice p7 l7 q7,.slice p8 l8 q8] 55) ho.lt)
  have hk1:∀ D∈Ds,w.heap.size≤D∧(W.alloc (.cells #[.string z0,.slice p1 l1 q1,.slice p2 l2 q2,.slice p3 l3 q3,.slice sp sl sc,.bool p5,.slice p6 l6 q6,.slice p7 l7 q7,.slice p8 l8 q8] 55)).heap[D]? = some (.deferred (some [])):=fun D hD=>⟨(hI.marks.2 D hD).1,(alloc_old W _ (Array.getElem?_eq_some_iff.1 (hI.marks.2 D hD).2).1).trans (hI.marks.2 D hD).2⟩
  have hname:VR S β (.str m.1) (.string z0):=by simp only [VR]; exact ⟨z0,rfl,hMn⟩
  obtain ⟨v,hlook,hvr⟩:=hs1.look (t:=148) (look_seen seen m.1) hname
  simp only [VR] at hvr
  subst hvr
  by_cases hse:m.1∈seen
  ·rw [if_pos hse] at hidx
   simp only [hse,decide_true] at hlook
   gi_wp2_with (first
    | (gi_at_lookup; refine wpListIn_lookup_run rfl _ _ 148 false rfl hlook ?_)
    | gi_in)
   refine ⟨⟨k + 1,Ds,_,_,_,_,_,_,_,_,_,_,_,_,_,_,_,_,_,_,_,_,_,_,_,_,_,_,_,_,_,⟨hB1,hb31,⟨seen,out,hs1,ho1,hidx⟩,hI.marks.1,hk1⟩,by omega,rfl⟩,?_⟩
   simp [intOf]
   omega
  ·rw [if_neg hse] at hidx
   simp only [hse,decide_false] at hlook
   obtain ⟨os,hupd,hos,hs2⟩:=hs1.put (t:=148) mt148 rfl (put_seen seen m.1 hse) hname (vv:=.bool true) (by simp only [VR])
   have hx1:W.heap.size≠w.heap.size + 1 + 1:=fun e=>by have:=hs.lt; omega
   obtain ⟨W2,hW2⟩:∃ W2,setBlk (W.alloc (.cells #[.string z0,.slice p1 l1 q1,.slice p2 l2 q2,.slice p3 l3 q3,.slice sp sl sc,.bool p5,.slice p6 l6 q6,.slice p7 l7 q7,.slice p8 l8 q8] 55)) (w.heap.size + 1 + 1) os=W2:=⟨_,rfl⟩
   have hr2:W2.heap[W.heap.size]? = some (.cells #[.string z0,.slice p1 l1 q1,.slice p2 l2 q2,.slice p3 l3 q3,.slice sp sl sc,.bool p5,.slice p6 l6 q6,.slice p7 l7 q7,.slice p8 l8 q8] 55 (0,0)):=by rw [← hW2,setBlk_old _ _ _ hx1]; exact hr1
   have hb32:W2.heap[w.heap.size + 1]? = some (.cells #[.map (some w.heap.size)] 110 (0,0)):=by rw [← hW2,setBlk_old _ _ _ (by omega)]; exact hb31
   have ho2:MapIs S β W2 w.heap.size (out.map (entA id)):=ho1.kept (by rw [← hW2,setBlk_old _ _ _ (by omega)])
   have hB2:Below w.heap.size w W2:=by rw [← hW2]; exact hB1.grown (grown_setBlk _ _ _) hB1.size (fun j e=>by cases e; omega)
   have hk2:∀ D∈Ds,w.heap.size≤D∧W2.heap[D]? = some (.deferred (some [])):=fun D hD=>⟨(hk1 D hD).1,by
    rw [← hW2,setBlk_old _ _ _ (fun e=>by obtain ⟨en,cl,k1,_⟩:=hs1; rw [← e,(hk1 D hD).2] at k1; cases k1)]; exact (hk1 D hD).2⟩
   rw [hW2] at hupd hs2
   have hsz2:W2.heap.size=W.heap.size + 1:=by rw [← hW2]; simp [setBlk]
   clear hW2
   have hcm0:W2.cell? ⟨W.heap.size,0,none⟩=some (.string z0):=by simp [World.cell?,hr2]
   have hcm4:W2.cell? ⟨W.heap.size,4,none⟩=some (.slice sp sl sc):=by simp [World.cell?,hr2]
   gi_wp2_with (first
    | (gi_at_lookup; refine wpListIn_lookup_run rfl _ _ 148 false rfl hlook ?_)
    | (gi_at_mapUpdate; refine wpListIn_update_run rfl _ _ _ 148 rfl hupd ?_)
    | (gi_at_call 92; refine (back_in F (n - 1) f2 hro _ _ _ _).mono ?_; rintro e w' ⟨rfl,rfl⟩)
    | gi_in)
   obtain ⟨yl,hyl,hye,hyo⟩:=pfs_ex hfz
   have hD:∀ D∈Ds,D < W.heap.size:=fun D hD=>(Array.getElem?_eq_some_iff.1 (hI.marks.2 D hD).2).1
   have hs3:=hs2.kept (alloc_old W2 (.cells #[.slice sp sl sc] 51) hs2.lt)
   have ho3:=ho2.kept (alloc_old W2 (.cells #[.slice sp sl sc] 51) ho2.lt)
   have hB3:Below w.heap.size w (W2.alloc (.cells #[.slice sp sl sc] 51)):=hB2.alloc hB2.size _
   have hr3:(W2.alloc (.cells #[.slice sp sl sc] 51)).heap[W.heap.size]? = some (.cells #[.string z0,.slice p1 l1 q1,.slice p2 l2 q2,.slice p3 l3 q3,.slice sp sl sc,.bool p5,.slice p6 l6 q6,.slice p7 l7 q7,.slice p8 l8 q8] 55 (0,0)):=(alloc_old W2 _ (by omega)).trans hr2
   have hb33:(W2.alloc (.cells #[.slice sp sl sc] 51)).heap[w.heap.size + 1]? = some (.cells #[.map (some w.heap.size)] 110 (0,0)):=(alloc_old W2 _ (Array.getElem?_eq_some_iff.1 hb32).1).trans hb32
   have hbx3:(W2.alloc (.cells #[.slice sp sl sc] 51)).cell? ⟨W.heap.size + 1,0,none⟩=some (.slice sp sl sc):=by
    have:=World.alloc_heap_new W2 (.cells #[.slice sp sl sc] 51)
    rw [hsz2] at this
    simp [World.cell?,this]
   have hk3:∀ D∈Ds,w.heap.size≤D∧(W2.alloc (.cells #[.slice sp sl sc] 51)).heap[D]? = some (.deferred (some [])):=fun D hd=>⟨(hk2 D hd).1,(alloc_old W2 _ (by have:=hD D hd; omega)).trans (hk2 D hd).2⟩
   have hsz3:(W2.alloc (.cells #[.slice sp sl sc] 51)).heap.size=W.heap.size + 2:=by simp [hsz2]
   have hwW:=hI.below.size
   have hbsW:=hs.lt
   generalize (W2.alloc (.cells #[.slice sp sl sc] 51))=W3 at hs3 ho3 hB3 hr3 hb33 hbx3 hk3 hsz3 ⊢
   clear hs2 ho2 hB2 hr2 hb32 hk2 hsz2 hupd hcm0 hcm4 hlook hs1 ho1 hB1 hr1 hb31 hk1 hn1 W2
   have hfl:=hfz.length
   have hfm:=hmax.2 m (List.mem_of_getElem? hm)
   have hF3:Funs12 W3.heap.size w.heap.size W3 (.slice sp sl sc) fz:=(hfuns.keep (KeepX.of_below hB3)).mono (by omega)
   have keepO:∀ (j:Nat) (X Y:World) (row:Option Nat) (o:Obj),X.heap[j]? = some o→j < W3.heap.size→X.grownBy Y row→(∀ r,row=some r→W3.heap.size≤r∧∃ o:Obj,X.heap[r]? = some o∧o.isCells=false)→Y.heap[j]? = X.heap[j]?:=fun j X Y row o hj hlt hg hr =>
    hg.block j (Array.getElem?_eq_some_iff.1 hj).1 (fun e=>by have:=(hr j e.symm).1; omega)
   refine wpIn_rangeFunc_ownH hro h1 (gf:=132) (lb:=#[.pointer (some ⟨W.heap.size + 1,0,none⟩)]) rfl f3 (enters_of Tryz.func132 (by kernel_rfl) rfl)
    (back_stops F (n - 1) f3 hro (by omega) (W.heap.size + 1) w.heap.size (.slice sp sl sc) fz (by omega) (fun x:PF S β=>#[Value.int .i64 (x.1.1.1:Int),x.1.1.2.v]) yl hyl (fun k hk=>by rw [hye k hk]) W3 (by omega) (by omega) hbx3 hF3)
    keepX_t (keepX_b (Nat.le_refl _)) (Below.refl _ _) (fun _=>rfl)
    (fun pre W'=>W3.heap.size≤W'.heap.size∧Below w.heap.size w W'∧W'.heap[w.heap.size + 1]? = some (.cells #[.map (some w.heap.size)] 110 (0,0))∧W'.heap[W.heap.size]? = some (.cells #[.string z0,.slice p1 l1 q1,.slice p2 l2 q2,.slice p3 l3 q3,.slice sp sl sc,.bool p5,.slice p6 l6 q6,.slice p7 l7 q7,.slice p8 l8 q8] 55 (0,0)) ∧
     MapIs S β W' (w.heap.size + 1 + 1) ((seen++[m.1]).map seenA)∧MapIs S β W' w.heap.size ((outOfI m.1 pre out).map (entA id))∧∀ D∈Ds,w.heap.size≤D∧W'.heap[D]? = some (.deferred (some [])))
    (fun _ _ _=>False) ?hI (fun c s A B row h=>h.elim) ⟨Nat.le_refl _,hB3,hb33,hr3,hs3,ho3,hk3⟩
    (fun y a' W'=>∃ Bx,W.heap.size + 2≤Bx∧W'.heap[Bx]? = some (.cells y.1.1.2.arr 90 (0,0))∧a' = { tmps:=#[.slice (some ⟨b,off,none⟩) l.length cap,j1,.map none,.pointer (some ⟨w.heap.size + 1,0,none⟩),.map (some (w.heap.size + 1 + 1)),j5,.pointer (some ⟨W.heap.size,0,none⟩),j7,.pointer (some ⟨Bx,0,none⟩),.map (some w.heap.size),.map (some (w.heap.size + 1 + 1)),.slice (some ⟨b,off,none⟩) l.length cap,.int .i64 (l.length:Int),.int .i64 (k:Int),.bool true,.pointer (some ⟨b,off + k * 9,none⟩),.agg #[.string z0,.slice p1 l1 q1,.slice p2 l2 q2,.slice p3 l3 q3,.slice sp sl sc,.bool p5,.slice p6 l6 q6,.slice p7 l7 q7,.slice p8 l8 q8],.map (some (w.heap.size + 1 + 1)),.pointer (some ⟨W.heap.size,0,none⟩),.string z0,.bool false,.map (some (w.heap.size + 1 + 1)),.pointer (some ⟨W.heap.size,0,none⟩),.string z0,.pointer (some ⟨W.heap.size,4,none⟩),.slice sp sl sc,.func (.func 132) #[] #[.pointer (some ⟨W.heap.size + 1,0,none⟩)],.int .i64 (y.1.1.1:Int),y.1.1.2.v,j29,j30,j31,j32,j33,j34,j35,j36,j37],defers:=[] })
    ?hAx ?assign ?body ?done ?stop
   case hI =>
    rintro s X Y row ⟨i0,i1,i2,i3,i4,i5,i6⟩ hg hr
    refine ⟨Nat.le_trans i0 hg.size,i1.grown hg i1.size (fun k e=>by have:=(hr k e).1; omega),(keepO _ X Y row _ i2 (by omega) hg hr).trans i2,(keepO _ X Y row _ i3 (by omega) hg hr).trans i3,?_,?_,fun D hd=>⟨(i6 D hd).1,(keepO _ X Y row _ (i6 D hd).2 (by have:=hD D hd; omega) hg hr).trans (i6 D hd).2⟩⟩
    ·obtain ⟨o,ho,_⟩:=i4.not_cells
     exact i4.kept (keepO _ X Y row _ ho (by omega) hg hr)
    ·obtain ⟨o,ho,_⟩:=i5.not_cells
     exact i5.kept (keepO _ X Y row _ ho (by omega) hg hr)
   case hAx =>
    rintro y a' _ X Y row ⟨Bx,x1,x2,x3⟩ hg hr
    exact ⟨Bx,x1,(hg.block Bx (Array.getElem?_eq_some_iff.1 x2).1 (fun e=>by obtain ⟨_,o,ho,hc⟩:=hr Bx e.symm; rw [x2] at ho; cases ho; cases hc)).trans x2,x3⟩
   case assign =>
    rintro lo pre y W' K ⟨i0,i1,i2,i3,i4,i5,i6⟩ hK
    obtain ⟨⟨⟨yi,⟨y0,y1,y2,y3,y4,y5,y6,y7,y8,y9,y10,y11⟩⟩,yn,ya⟩,hy1,hy2,g1,g2,g3,g4,g5,g6,g7,g8,g9,g10,g11⟩:=y
    simp only at hy1 hy2 g1 g2 g3 g4 g5 g6 g7 g8 g9 g10 g11
    obtain ⟨yv1,rfl⟩:=g1
    obtain ⟨yp2,yl2,yc2,rfl⟩:=g2
    obtain ⟨yv3,rfl⟩:=g3
    obtain ⟨yp4,yl4,yc4,rfl⟩:=g4
    obtain ⟨yv5,rfl⟩:=g5
    obtain ⟨yv6,rfl⟩:=g6
    obtain ⟨yv7,rfl⟩:=g7
    obtain ⟨yv8,rfl⟩:=g8
    obtain ⟨yv9,rfl⟩:=g9
    obtain ⟨yp10,yl10,yc10,rfl⟩:=g10
    obtain ⟨yp11,yl11,yc11,rfl⟩:=g11
    simp only [F12.v,F12.arr] at hK ⊢
    gi_wp2
    exact hK _ _ ((KeepsOthers.alloc _ _).from _) (fun k hk _=>alloc_old W' _ (by omega)) ⟨by simp; omega,i1.alloc i1.size _,(alloc_old W' _ (Array.getElem?_eq_some_iff.1 i2).1).trans i2,(alloc_old W' _ (Array.getElem?_eq_some_iff.1 i3).1).trans i3,i4.kept (alloc_old W' _ i4.lt),i5.kept (alloc_old W' _ i5.lt),fun D hd=>⟨(i6 D hd).1,(alloc_old W' _ (Array.getElem?_eq_some_iff.1 (i6 D hd).2).1).trans (i6 D hd).2⟩⟩ ⟨W'.heap.size,by omega,World.alloc_heap_new W' _,rfl⟩
   case body =>
    rintro lo pre y a' W' hl ⟨r,hr⟩ ⟨i0,i1,i2,i3,i4,i5,i6⟩ ⟨Bx,hbx,rx,rfl⟩ hlen
    obtain ⟨⟨⟨yi,⟨y0,y1,y2,y3,y4,y5,y6,y7,y8,y9,y10,y11⟩⟩,yn,ya⟩,hy1,hy2,g1,g2,g3,g4,g5,g6,g7,g8,g9,g10,g11⟩:=y
    simp only at hy1 hy2 g1 g2 g3 g4 g5 g6 g7 g8 g9 g10 g11 rx
    obtain ⟨yv1,rfl⟩:=g1
    obtain ⟨yp2,yl2,yc2,rfl⟩:=g2
    obtain ⟨yv3,rfl⟩:=g3
    obtain ⟨yp4,yl4,yc4,rfl⟩:=g4
    obtain ⟨yv5,rfl⟩:=g5
    obtain ⟨yv6,rfl⟩:=g6
    obtain ⟨yv7,rfl⟩:=g7
    obtain ⟨yv8,rfl⟩:=g8
    obtain ⟨yv9,rfl⟩:=g9
    obtain ⟨yp10,yl10,yc10,rfl⟩:=g10
    obtain ⟨yp11,yl11,yc11,rfl⟩:=g11
    simp only [F12.arr] at rx
    simp only [F12.v] at hy2 ⊢
    have hc3:W'.cell? ⟨w.heap.size + 1,0,none⟩=some (.map (some w.heap.size)):=by simp [World.cell?,i2]
    have hcm0:W'.cell? ⟨W.heap.size,0,none⟩=some (.string z0):=by simp [World.cell?,i3]
    have hcy0:W'.cell? ⟨Bx,0,none⟩=some (.string y0):=by simp [World.cell?,rx]
    have hcy1:W'.cell? ⟨Bx,1,none⟩=some (.bool yv1):=by simp [World.cell?,rx]
    have hcy2:W'.cell? ⟨Bx,2,none⟩=some (.slice yp2 yl2 yc2):=by simp [World.cell?,rx]
    have hcy3:W'.cell? ⟨Bx,3,none⟩=some (.int .i64 yv3):=by simp [World.cell?,rx]
    have hcy4:W'.cell? ⟨Bx,4,none⟩=some (.slice yp4 yl4 yc4):=by simp [World.cell?,rx]
    have hcy5:W'.cell? ⟨Bx,5,none⟩=some (.int .i64 yv5):=by simp [World.cell?,rx]
    have hcy6:W'.cell? ⟨Bx,6,none⟩=some (.int .i64 yv6):=by simp [World.cell?,rx]
    have hcy7:W'.cell? ⟨Bx,7,none⟩=some (.int .i64 yv7):=by simp [World.cell?,rx]
    have hcy8:W'.cell? ⟨Bx,8,none⟩=some (.string yv8):=by simp [World.cell?,rx]
    have hcy9:W'.cell? ⟨Bx,9,none⟩=some (.string yv9):=by simp [World.cell?,rx]
    have hcy10:W'.cell? ⟨Bx,10,none⟩=some (.slice yp10 yl10 yc10):=by simp [World.cell?,rx]
    have hcy11:W'.cell? ⟨Bx,11,none⟩=some (.slice yp11 yl11 yc11):=by simp [World.cell?,rx]
    have hkr:VR S β (refA (m.1,yn)) (.agg #[.string z0,.string y0]):=by
     simp only [refA,VR,VRs]
     exact ⟨_,rfl,_,_,rfl,⟨z0,rfl,hMn⟩,_,_,rfl,⟨y0,rfl,hy1⟩,rfl⟩
    obtain ⟨om,hupd,hom,ho'⟩:=i5.put (t:=110) mt110 rfl (put_ent id (outOfI m.1 pre out) (m.1,yn) ya) hkr hy2
    gi_wp2_with (first
     | (gi_at_mapUpdate; refine wpListIn_update_run rfl _ _ _ 110 rfl hupd ?_)
     | gi_in)
    refine ⟨⟨by simp [setBlk],fun k o hk hko _=>(setBlk_old _ _ _ (by omega)).trans hko⟩,fun k hk hn=>setBlk_old _ _ _ hn,by simp [setBlk]; omega,i1.grown (grown_setBlk _ _ _) i1.size (fun j e=>by cases e; omega),(setBlk_old _ _ _ (by omega)).trans i2,(setBlk_old _ _ _ (by omega)).trans i3,i4.kept (setBlk_old _ _ _ (by omega)),?_,fun D hd=>⟨(i6 D hd).1,(setBlk_old _ _ _ (fun e=>?_)).trans (i6 D hd).2⟩⟩
    ·have hout:∀ (x:PF S β),outOfI m.1 (pre++[x]) out=putK (outOfI m.1 pre out) (m.1,x.1.2.1) x.1.2.2:=fun x=>by simp [outOfI]
     rw [hout]
     exact ho'
    ·obtain ⟨o,hoo,_⟩:=i5.not_cells
     obtain ⟨en,cl,k1,_⟩:=i5
     rw [← e,(i6 D hd).2] at k1
     cases k1
   case done =>
    rintro D ys W' hDl rfl ⟨i0,i1,i2,i3,i4,i5,i6⟩ hK
    gi_wp2
    rw [hyo] at i5
    refine ⟨⟨k + 1,D :: Ds,_,_,_,_,_,_,_,_,_,_,_,_,_,_,_,_,_,_,_,_,_,_,_,_,_,_,_,_,_,⟨i1,i2,⟨seen++[m.1],_,i4,i5,hidx⟩,List.nodup_cons.2 ⟨fun hd=>by have:=hD D hd; omega,hI.marks.1⟩,fun E hE=>?_⟩,by omega,rfl⟩,?_⟩
    ·rcases List.mem_cons.1 hE with rfl | hE
     ·exact ⟨by omega,hK⟩
     ·exact i6 E hE
    ·simp [intOf]
     omega
   case stop =>
    rintro D c pre W' hD _ h hK
    exact h.elim
 ·obtain rfl:k=l.length:=by omega
  have hc3:W.cell? ⟨w.heap.size + 1,0,none⟩=some (.map (some w.heap.size)):=by simp [World.cell?,hI.b3]
  gi_wp2
  obtain ⟨seen,out,hs,ho,hidx⟩:=hI.maps
  have hout:out=idxG l [] []:=by simpa [idxG] using hidx
  subst hout
  refine leaves_marks w.heap.size (fun W'=>Below w.heap.size w W'∧MapIs S β W' w.heap.size ((idxG l [] []).map (entA id))) (fun W' D hD ⟨i1,i2⟩ hk=>⟨i1.trans (belowK_b (w:=w) (Nat.le_refl _) W' D _ _ hD hk rfl rfl),i2.kept ?_⟩) (fun W' ⟨i1,i2⟩=>?_) Ds W hI.marks.1 hI.marks.2 ⟨hI.below,ho⟩
  ·refine World.putObj_heap_other (fun e=>?_)
   obtain ⟨ents,clock,k1,_⟩:=i2
   have:W'.heap[D]? = some (.map ents clock):=by first | (rw [e]; exact k1) | (rw [← e]; exact k1)
   rw [this] at hk
   cases hk
  ·exact ⟨_,results_tmp rfl _ _ _,w.heap.size,rfl,Nat.le_refl _,i2,i1⟩
end Go.Proofs.YtnipfhmghjdnmaaGreat

namespace Go.Proofs.YtnipfhmghjdnmaaGreat
open Go Go.Av Go.RowKit Go.Shelf
attribute [local go_sem] Oper.semAt_some
abbrev Row2:=ByteArray×ByteArray
def row2 (x:Row2):Value:=.agg #[.string x.1,.string x.2]
set_option maxRecDepth 100000 in
set_option maxHeartbeats 2000000 in
theorem keys104_in (F:Fence) (n:Nat) (h10:F.fn 104) (hro:F.round=none) (hn:1≤n) (l Bm Bo b:Nat) (es:Array MapEntry) (clock:Nat) (ks:List Row2) (hks:es.toList.map (·.key)=ks.map row2) (hst:Stamps es.toList clock) (J Jx:List Row2→World→Prop)
  (hY:∀ pre x W,J pre W→pre.length < ks.length→YieldAt F (n - 1) Tryz.prog l #[row2 x] W fun e W' =>
   (e = .returned (.bool true)∧J (pre++[x]) W'∧KeepsWalks W W')∨(e = .returned (.bool false)∧Jx (pre++[x]) W'))
  (W:World) (hJ:AbidesFrom W.heap.size J) (hm:W.cell? ⟨Bm,Bo,none⟩=some (.map (some b))) (hmap:W.heap[b]? = some (.map es clock)) (h0:J [] W) :
  CallsIn F n Tryz.prog 104 #[.func (.yield l) #[] #[],.pointer (some ⟨Bm,Bo,none⟩)] W fun e W'=>(∃ v,e = .returned v) ∧
   ((∃ ss:List Row2,ss.Perm ks∧J ss W')∨(∃ pre:List Row2,True∧Jx pre W')):=by
 have hbl:b < W.heap.size:=(Array.getElem?_eq_some_iff.1 hmap).1
 have hlen:es.toList.length=ks.length:=by have:=congrArg List.length hks; simpa using this
 have hrg:(Instr.range 108 (.map (some b))).run Tryz.prog W = .ok (.pointer (some ⟨W.heap.size,0,none⟩)) (W.alloc (.mapIter (some b) clock #[] clock)):=by
  simp [Instr.range,run_underlying Tryz.underlying108,run_getI hmap (by simp)]
 refine callsIn_of_wp Tryz.func104 rfl h10 ?_ hro
 simp only [Tryz.ntmps104,List.size_toArray,List.length_cons,List.length_nil,Nat.reduceAdd,Nat.reduceSub,Array.replicate_succ,Array.replicate_zero,List.push_toArray,List.append_toArray,List.nil_append,List.cons_append]
 gi_wp2_with (first
  | (gi_at_range; refine wpListIn_range_run rfl _ 108 rfl hrg ?_)
  | gi_in)
 have hg0:W.grownBy (W.alloc (.mapIter (some b) clock #[] clock)) none:=World.grownBy_alloc W _ none
 have hit0:(W.alloc (.mapIter (some b) clock #[] clock)).heap[W.heap.size]? = some (.mapIter (some b) clock #[] clock):=World.alloc_heap_new W _
 have hmp0:(W.alloc (.mapIter (some b) clock #[] clock)).heap[b]? = some (.map es clock):=(alloc_old W _ hbl).trans hmap
 have hJ0:=hJ [] W _ none h0 hg0 (fun r e=>by cases e)
 generalize (W.alloc (.mapIter (some b) clock #[] clock))=W0 at hit0 hmp0 hJ0 ⊢
 go_frame
 gi_loopw [3] (fun _ wr=>∃ (seen:Array Nat) (last:Nat) (ss:List Row2),wr.heap[W.heap.size]? = some (.mapIter (some b) clock seen last)∧clock≤last∧wr.heap[b]? = some (.map es clock)∧(ss++(leftPos es.toList seen).map (fun i=>ks[i]!)).Perm ks∧J ss wr)
  (fun _ wr=>leftNum wr W.heap.size b)
 case atStart =>
  refine ⟨#[],clock,[],hit0,Nat.le_refl _,hmp0,?_,hJ0⟩
  rw [leftPos_nil,hlen,List.nil_append]
  have:(List.range ks.length).map (fun i=>ks[i]!)=ks:=by
   apply List.ext_getElem
   ·simp
   ·intro i h1 h2; simp [List.getElem?_eq_getElem h2]
  rw [this]
 case round =>
  obtain ⟨seen,last,ss,hit,hcl,hmp,hpm,hJs⟩:=hrel
  have hls:ss.length + (leftPos es.toList seen).length=ks.length:=by have:=hpm.length_eq; simpa using this
  have hiW:W.heap.size < wr.heap.size:=(Array.getElem?_eq_some_iff.1 hit).1
  gi_wp2_with (first
   | (gi_at_next; refine wpListIn_next_map rfl _ rfl rfl hit hmp hst.1 hcl ?_ ?_)
   | gi_in)
  ·intro i1
   gi_wp2
   go_end0
   rw [i1] at hpm
   exact ⟨⟨_,rfl⟩,.inl ⟨ss,by simpa using hpm,hJs⟩⟩
  ·intro i u w1 i1 i2 i3
   have i2:es.toList[i]? = some u:=by simpa using i2
   have hil:i < ks.length:=by rw [← hlen]; exact lt_of_get i2
   have hue:u.key=row2 ks[i]!:=by
    have:(es.toList.map (·.key))[i]? = (ks.map row2)[i]?:=by rw [hks]
    rw [List.getElem?_map,List.getElem?_map,i2,List.getElem?_eq_getElem hil] at this
    simp only [Option.map_some,Option.some.injEq] at this
    rw [this,getElem!_pos ks i hil]
   have hperm:=filter_perm (leftPos_nodup es.toList seen) i1
   have hpush:=leftPos_push hst.2 (seen:=seen) i2
   have hg1:wr.grownBy w1 none:=by rcases i3 with rfl | rfl; exact ⟨rfl,rfl,rfl,Nat.le_refl _,fun _ _ _=>rfl⟩; exact grown_drew _
   obtain ⟨w2,hw2⟩:∃ w2,setBlk w1 W.heap.size (.mapIter (some b) clock (seen.push u.born) clock)=w2:=⟨_,rfl⟩
   have hw1:w1.heap=wr.heap:=by rcases i3 with rfl | rfl <;> rfl
   have hit2:w2.heap[W.heap.size]? = some (.mapIter (some b) clock (seen.push u.born) clock):=by rw [← hw2]; exact setBlk_new _ (by rw [hw1]; exact hiW)
   have hmp2:w2.heap[b]? = some (.map es clock):=by rw [← hw2,setBlk_old _ _ _ (by omega),hw1]; exact hmp
   have hJ1:J ss w1:=hJ ss wr w1 none hJs hg1 (fun r e=>by cases e)
   have hJ2:J ss w2:=by
    rw [← hw2]
    exact hJ ss w1 _ (some W.heap.size) hJ1 (grown_setBlk w1 _ _) (fun r e=>by cases e; exact ⟨Nat.le_refl _,_,by rw [hw1]; exact hit,rfl⟩)
   have hen:=run_entryM (P:=Tryz.prog) hit2 hmp2 hst i2
   rw [hue] at hen
   rw [hw2,hue]
   clear hw2
   have hsl:ss.length < ks.length:=by have:=hperm.length_eq; simp at this; omega
   generalize hkx:ks[i]! = kx at hen hue ⊢
   obtain ⟨k1,k2⟩:=kx
   have hJ3:J ss (w2.alloc (.cells #[.string k1,.string k2] 37)):=hJ ss w2 _ none hJ2 (World.grownBy_alloc w2 _ none) (fun r e=>by cases e)
   have hit3:(w2.alloc (.cells #[.string k1,.string k2] 37)).heap[W.heap.size]? = some (.mapIter (some b) clock (seen.push u.born) clock):=(alloc_old w2 _ (Array.getElem?_eq_some_iff.1 hit2).1).trans hit2
   have hmp3:(w2.alloc (.cells #[.string k1,.string k2] 37)).heap[b]? = some (.map es clock):=(alloc_old w2 _ (Array.getElem?_eq_some_iff.1 hmp2).1).trans hmp2
   obtain ⟨fn,tmps,assign,body,hy,hR⟩:=hY ss (k1,k2) _ hJ3 hsl
   simp only [row2] at hen hy ⊢
   gi_wp2
   refine hR.mono ?_
   rintro e W3 (⟨rfl,hJ3,hk3⟩ | ⟨rfl,hJx3⟩)
   ·gi_wp2
    have hit3:=hk3.same _ _ hit3 rfl
    have hmp3:=hk3.same _ _ hmp3 rfl
    go_roundw
    case rel =>
     refine ⟨_,_,ss++[(k1,k2)],hit3,Nat.le_refl _,hmp3,?_,hJ3⟩
     rw [hpush]
     refine List.Perm.trans ?_ hpm
     rw [List.append_assoc]
     refine List.Perm.append_left ss ?_
     exact ((hperm.map fun i=>ks[i]!).trans (by rw [List.map_cons,hkx]; rfl)).symm
    case measure =>
     simp only [leftNum,hit3,hmp3,hit,hmp,hpush]
     have:=hperm.length_eq
     simp at this
     omega
   ·gi_wp2
    refine bodyPost_ret (results_none rfl _ _ _) rfl ?_
    exact ⟨⟨_,rfl⟩,.inr ⟨ss++[(k1,k2)],trivial,hJx3⟩⟩
set_option maxRecDepth 100000 in
set_option maxHeartbeats 1000000 in
theorem keysN104_in (F:Fence) (n:Nat) (h10:F.fn 104) (hro:F.round=none) (l Bm Bo:Nat) (J:List Row2→World→Prop) (W:World) (hJ:AbidesFrom W.heap.size J) (hm:W.cell? ⟨Bm,Bo,none⟩=some (.map none)) (h0:J [] W) :
  CallsIn F n Tryz.prog 104 #[.func (.yield l) #[] #[],.pointer (some ⟨Bm,Bo,none⟩)] W fun e W'=>(∃ v,e = .returned v)∧J [] W':=by
 have hrg:(Instr.range 108 (.map none)).run Tryz.prog W = .ok (.pointer (some ⟨W.heap.size,0,none⟩)) (W.alloc (.mapIter none 0 #[] 0)):=by
  simp [Instr.range,run_underlying Tryz.underlying108]
 refine callsIn_of_wp Tryz.func104 rfl h10 ?_ hro
 simp only [Tryz.ntmps104,List.size_toArray,List.length_cons,List.length_nil,Nat.reduceAdd,Nat.reduceSub,Array.replicate_succ,Array.replicate_zero,List.push_toArray,List.append_toArray,List.nil_append,List.cons_append]
 gi_wp2_with (first
  | (gi_at_range; refine wpListIn_range_run rfl _ 108 rfl hrg ?_)
  | gi_in)
 have hit0:(W.alloc (.mapIter none 0 #[] 0)).heap[W.heap.size]? = some (.mapIter none 0 #[] 0):=World.alloc_heap_new W _
 have hJ0:=hJ [] W _ none h0 (World.grownBy_alloc W (.mapIter none 0 #[] 0) none) (fun r e=>by cases e)
 generalize (W.alloc (.mapIter none 0 #[] 0))=W0 at hit0 hJ0 ⊢
 have hnx:∀ ty,(Instr.next (.pointer (some ⟨W.heap.size,0,none⟩)) false ty).run Tryz.prog W0 = .ok (.tuple #[.bool false]) W0:=fun ty=>by
  simp [Instr.next,run_getI hit0 (by simp)]
 go_frame
 gi_loopw [3] (fun _ wr=>wr=W0) (fun _ _=>0)
 case atStart=>rfl
 case round =>
  subst hrel
  gi_wp2_with (first
   | (gi_at_next; refine wpListIn_next_run rfl _ rfl (hnx _) ?_)
   | gi_in)
  go_end0
  exact ⟨⟨_,rfl⟩,hJ0⟩
theorem keys104_stops (F:Fence) (n:Nat) (h10:F.fn 104) (hro:F.round=none) (hn:1≤n) (Bm Bo:Nat) (ks:List Row2) (w:World) (hBm:Bm < w.heap.size)
  (hc:(w.cell? ⟨Bm,Bo,none⟩=some (.map none)∧ks = [])∨∃ b es clock,w.cell? ⟨Bm,Bo,none⟩=some (.map (some b))∧w.heap[b]? = some (.map es clock)∧Stamps es.toList clock∧es.toList.map (·.key)=ks.map row2) :
  SeqStopsK F n Tryz.prog 104 #[.pointer (some ⟨Bm,Bo,none⟩)] (fun x:Row2=>#[row2 x]) KeepsWalks (fun ss=>ss.Perm ks) (fun _=>True) ks.length w:=fun l J Jx W hW hJ _ hY h0=>by
 rcases hc with ⟨hc,rfl⟩ | ⟨b,es,clock,hc,hmap,hst,hks⟩
 ·exact (keysN104_in F n h10 hro l Bm Bo J W hJ ((hW.cell (p:=⟨Bm,Bo,none⟩) hBm).trans hc) h0).mono fun e W' ⟨he,hj⟩=>⟨he,.inl ⟨[],.refl _,hj⟩⟩
 ·exact keys104_in F n h10 hro hn l Bm Bo b es clock ks hks hst J Jx hY W hJ ((hW.cell (p:=⟨Bm,Bo,none⟩) hBm).trans hc) ((hW.block b (Array.getElem?_eq_some_iff.1 hmap).1).trans hmap) h0
set_option maxRecDepth 100000 in
set_option maxHeartbeats 2000000 in
theorem keys173_in (F:Fence) (n:Nat) (h10:F.fn 173) (hro:F.round=none) (hn:1≤n) (l Bm Bo b:Nat) (es:Array MapEntry) (clock:Nat) (ks:List Row2) (hks:es.toList.map (·.key)=ks.map row2) (hst:Stamps es.toList clock) (J Jx:List Row2→World→Prop)
  (hY:∀ pre x W,J pre W→pre.length < ks.length→YieldAt F (n - 1) Tryz.prog l #[row2 x] W fun e W' =>
   (e = .returned (.bool true)∧J (pre++[x]) W'∧KeepsWalks W W')∨(e = .returned (.bool false)∧Jx (pre++[x]) W'))
  (W:World) (hJ:AbidesFrom W.heap.size J) (hm:W.cell? ⟨Bm,Bo,none⟩=some (.map (some b))) (hmap:W.heap[b]? = some (.map es clock)) (h0:J [] W) :
  CallsIn F n Tryz.prog 173 #[.func (.yield l) #[] #[],.pointer (some ⟨Bm,Bo,none⟩)] W fun e W'=>(∃ v,e = .returned v) ∧
   ((∃ ss:List Row2,ss.Perm ks∧J ss W')∨(∃ pre:List Row2,True∧Jx pre W')):=by
 have hbl:b < W.heap.size:=(Array.getElem?_eq_some_iff.1 hmap).1
 have hlen:es.toList.length=ks.length:=by have:=congrArg List.length hks; simpa using this
 have hrg:(Instr.range 185 (.map (some b))).run Tryz.prog W = .ok (.pointer (some ⟨W.heap.size,0,none⟩)) (W.alloc (.mapIter (some b) clock #[] clock)):=by
  simp [Instr.range,run_underlying Tryz.underlying185,run_getI hmap (by simp)]
 refine callsIn_of_wp Tryz.func173 rfl h10 ?_ hro
 simp only [Tryz.ntmps173,List.size_toArray,List.length_cons,List.length_nil,Nat.reduceAdd,Nat.reduceSub,Array.replicate_succ,Array.replicate_zero,List.push_toArray,List.append_toArray,List.nil_append,List.cons_append]
 gi_wp2_with (first
  | (gi_at_range; refine wpListIn_range_run rfl _ 185 rfl hrg ?_)
  | gi_in)
 have hg0:W.grownBy (W.alloc (.mapIter (some b) clock #[] clock)) none:=World.grownBy_alloc W _ none
 have hit0:(W.alloc (.mapIter (some b) clock #[] clock)).heap[W.heap.size]? = some (.mapIter (some b) clock #[] clock):=World.alloc_heap_new W _
 have hmp0:(W.alloc (.mapIter (some b) clock #[] clock)).heap[b]? = some (.map es clock):=(alloc_old W _ hbl).trans hmap
 have hJ0:=hJ [] W _ none h0 hg0 (fun r e=>by cases e)
 generalize (W.alloc (.mapIter (some b) clock #[] clock))=W0 at hit0 hmp0 hJ0 ⊢
 go_frame
 gi_loopw [3] (fun _ wr=>∃ (seen:Array Nat) (last:Nat) (ss:List Row2),wr.heap[W.heap.size]? = some (.mapIter (some b) clock seen last)∧clock≤last∧wr.heap[b]? = some (.map es clock)∧(ss++(leftPos es.toList seen).map (fun i=>ks[i]!)).Perm ks∧J ss wr)
  (fun _ wr=>leftNum wr W.heap.size b)
 case atStart =>
  refine ⟨#[],clock,[],hit0,Nat.le_refl _,hmp0,?_,hJ0⟩
  rw [leftPos_nil,hlen,List.nil_append]
  have:(List.range ks.length).map (fun i=>ks[i]!)=ks:=by
   apply List.ext_getElem
   ·simp
   ·intro i h1 h2; simp [List.getElem?_eq_getElem h2]
  rw [this]
 case round =>
  obtain ⟨seen,last,ss,hit,hcl,hmp,hpm,hJs⟩:=hrel
  have hls:ss.length + (leftPos es.toList seen).length=ks.length:=by have:=hpm.length_eq; simpa using this
  have hiW:W.heap.size < wr.heap.size:=(Array.getElem?_eq_some_iff.1 hit).1
  gi_wp2_with (first
   | (gi_at_next; refine wpListIn_next_map rfl _ rfl rfl hit hmp hst.1 hcl ?_ ?_)
   | gi_in)
  ·intro i1
   gi_wp2
   go_end0
   rw [i1] at hpm
   exact ⟨⟨_,rfl⟩,.inl ⟨ss,by simpa using hpm,hJs⟩⟩
  ·intro i u w1 i1 i2 i3
   have i2:es.toList[i]? = some u:=by simpa using i2
   have hil:i < ks.length:=by rw [← hlen]; exact lt_of_get i2
   have hue:u.key=row2 ks[i]!:=by
    have:(es.toList.map (·.key))[i]? = (ks.map row2)[i]?:=by rw [hks]
    rw [List.getElem?_map,List.getElem?_map,i2,List.getElem?_eq_getElem hil] at this
    simp only [Option.map_some,Option.some.injEq] at this
    rw [this,getElem!_pos ks i hil]
   have hperm:=filter_perm (leftPos_nodup es.toList seen) i1
   have hpush:=leftPos_push hst.2 (seen:=seen) i2
   have hg1:wr.grownBy w1 none:=by rcases i3 with rfl | rfl; exact ⟨rfl,rfl,rfl,Nat.le_refl _,fun _ _ _=>rfl⟩; exact grown_drew _
   obtain ⟨w2,hw2⟩:∃ w2,setBlk w1 W.heap.size (.mapIter (some b) clock (seen.push u.born) clock)=w2:=⟨_,rfl⟩
   have hw1:w1.heap=wr.heap:=by rcases i3 with rfl | rfl <;> rfl
   have hit2:w2.heap[W.heap.size]? = some (.mapIter (some b) clock (seen.push u.born) clock):=by rw [← hw2]; exact setBlk_new _ (by rw [hw1]; exact hiW)
   have hmp2:w2.heap[b]? = some (.map es clock):=by rw [← hw2,setBlk_old _ _ _ (by omega),hw1]; exact hmp
   have hJ1:J ss w1:=hJ ss wr w1 none hJs hg1 (fun r e=>by cases e)
   have hJ2:J ss w2:=by
    rw [← hw2]
    exact hJ ss w1 _ (some W.heap.size) hJ1 (grown_setBlk w1 _ _) (fun r e=>by cases e; exact ⟨Nat.le_refl _,_,by rw [hw1]; exact hit,rfl⟩)
   have hen:=run_entryM (P:=Tryz.prog) hit2 hmp2 hst i2
   rw [hue] at hen
   rw [hw2,hue]
   clear hw2
   have hsl:ss.length < ks.length:=by have:=hperm.length_eq; simp at this; omega
   generalize hkx:ks[i]! = kx at hen hue ⊢
   obtain ⟨k1,k2⟩:=kx
   have hJ3:J ss (w2.alloc (.cells #[.string k1,.string k2] 37)):=hJ ss w2 _ none hJ2 (World.grownBy_alloc w2 _ none) (fun r e=>by cases e)
   have hit3:(w2.alloc (.cells #[.string k1,.string k2] 37)).heap[W.heap.size]? = some (.mapIter (some b) clock (seen.push u.born) clock):=(alloc_old w2 _ (Array.getElem?_eq_some_iff.1 hit2).1).trans hit2
   have hmp3:(w2.alloc (.cells #[.string k1,.string k2] 37)).heap[b]? = some (.map es clock):=(alloc_old w2 _ (Array.getElem?_eq_some_iff.1 hmp2).1).trans hmp2
   obtain ⟨fn,tmps,assign,body,hy,hR⟩:=hY ss (k1,k2) _ hJ3 hsl
   simp only [row2] at hen hy ⊢
   gi_wp2
   refine hR.mono ?_
   rintro e W3 (⟨rfl,hJ3,hk3⟩ | ⟨rfl,hJx3⟩)
   ·gi_wp2
    have hit3:=hk3.same _ _ hit3 rfl
    have hmp3:=hk3.same _ _ hmp3 rfl
    go_roundw
    case rel =>
     refine ⟨_,_,ss++[(k1,k2)],hit3,Nat.le_refl _,hmp3,?_,hJ3⟩
     rw [hpush]
     refine List.Perm.trans ?_ hpm
     rw [List.append_assoc]
     refine List.Perm.append_left ss ?_
     exact ((hperm.map fun i=>ks[i]!).trans (by rw [List.map_cons,hkx]; rfl)).symm
    case measure =>
     simp only [leftNum,hit3,hmp3,hit,hmp,hpush]
     have:=hperm.length_eq
     simp at this
     omega
   ·gi_wp2
    refine bodyPost_ret (results_none rfl _ _ _) rfl ?_
    exact ⟨⟨_,rfl⟩,.inr ⟨ss++[(k1,k2)],trivial,hJx3⟩⟩
set_option maxRecDepth 100000 in
set_option maxHeartbeats 1000000 in
theorem keysN173_in (F:Fence) (n:Nat) (h10:F.fn 173) (hro:F.round=none) (l Bm Bo:Nat) (J:List Row2→World→Prop) (W:World) (hJ:AbidesFrom W.heap.size J) (hm:W.cell? ⟨Bm,Bo,none⟩=some (.map none)) (h0:J [] W) :
  CallsIn F n Tryz.prog 173 #[.func (.yield l) #[] #[],.pointer (some ⟨Bm,Bo,none⟩)] W fun e W'=>(∃ v,e = .returned v)∧J [] W':=by
 have hrg:(Instr.range 185 (.map none)).run Tryz.prog W = .ok (.pointer (some ⟨W.heap.size,0,none⟩)) (W.alloc (.mapIter none 0 #[] 0)):=by
  simp [Instr.range,run_underlying Tryz.underlying185]
 refine callsIn_of_wp Tryz.func173 rfl h10 ?_ hro
 simp only [Tryz.ntmps173,List.size_toArray,List.length_cons,List.length_nil,Nat.reduceAdd,Nat.reduceSub,Array.replicate_succ,Array.replicate_zero,List.push_toArray,List.append_toArray,List.nil_append,List.cons_append]
 gi_wp2_with (first
  | (gi_at_range; refine wpListIn_range_run rfl _ 185 rfl hrg ?_)
  | gi_in)
 have hit0:(W.alloc (.mapIter none 0 #[] 0)).heap[W.heap.size]? = some (.mapIter none 0 #[] 0):=World.alloc_heap_new W _
 have hJ0:=hJ [] W _ none h0 (World.grownBy_alloc W (.mapIter none 0 #[] 0) none) (fun r e=>by cases e)
 generalize (W.alloc (.mapIter none 0 #[] 0))=W0 at hit0 hJ0 ⊢
 have hnx:∀ ty,(Instr.next (.pointer (some ⟨W.heap.size,0,none⟩)) false ty).run Tryz.prog W0 = .ok (.tuple #[.bool false]) W0:=fun ty=>by
  simp [Instr.next,run_getI hit0 (by simp)]
 go_frame
 gi_loopw [3] (fun _ wr=>wr=W0) (fun _ _=>0)
 case atStart=>rfl
 case round =>
  subst hrel
  gi_wp2_with (first
   | (gi_at_next; refine wpListIn_next_run rfl _ rfl (hnx _) ?_)
   | gi_in)
  go_end0
  exact ⟨⟨_,rfl⟩,hJ0⟩
theorem keys173_stops (F:Fence) (n:Nat) (h10:F.fn 173) (hro:F.round=none) (hn:1≤n) (Bm Bo:Nat) (ks:List Row2) (w:World) (hBm:Bm < w.heap.size)
  (hc:(w.cell? ⟨Bm,Bo,none⟩=some (.map none)∧ks = [])∨∃ b es clock,w.cell? ⟨Bm,Bo,none⟩=some (.map (some b))∧w.heap[b]? = some (.map es clock)∧Stamps es.toList clock∧es.toList.map (·.key)=ks.map row2) :
  SeqStopsK F n Tryz.prog 173 #[.pointer (some ⟨Bm,Bo,none⟩)] (fun x:Row2=>#[row2 x]) KeepsWalks (fun ss=>ss.Perm ks) (fun _=>True) ks.length w:=fun l J Jx W hW hJ _ hY h0=>by
 rcases hc with ⟨hc,rfl⟩ | ⟨b,es,clock,hc,hmap,hst,hks⟩
 ·exact (keysN173_in F n h10 hro l Bm Bo J W hJ ((hW.cell (p:=⟨Bm,Bo,none⟩) hBm).trans hc) h0).mono fun e W' ⟨he,hj⟩=>⟨he,.inl ⟨[],.refl _,hj⟩⟩
 ·exact keys173_in F n h10 hro hn l Bm Bo b es clock ks hks hst J Jx hY W hJ ((hW.cell (p:=⟨Bm,Bo,none⟩) hBm).trans hc) ((hW.block b (Array.getElem?_eq_some_iff.1 hmap).1).trans hmap) h0
end Go.Proofs.YtnipfhmghjdnmaaGreat

namespace Go.Proofs.YtnipfhmghjdnmaaGreat
open Go Go.Av Go.RowKit Go.Shelf
attribute [local go_sem] Oper.semAt_some
def cells2 (x:Row2):List Value:=[.string x.1,.string x.2]
theorem info37:(Tryz.prog.info? 37).map (fun i=>(i.zero,i.size,i.bytes))=some (some (.agg #[.string ⟨#[]⟩,.string ⟨#[]⟩]),2,32):=by kernel_rfl
theorem cell_two_new (w:World) (x y:Value) (t:TypeId):∀ j u,[x,y][j]? = some u→(w.alloc (.cells #[x,y] t)).cell? ((⟨w.heap.size,0,none⟩:Addr).add j)=some u:=by
 intro j u hj
 match j,hj with
 | 0,hj=>simp at hj; subst hj; simp [Addr.add]
 | 1,hj=>simp at hj; subst hj; simp [Addr.add]
set_option maxRecDepth 100000 in
set_option maxHeartbeats 4000000 in
theorem app_in (F:Fence) (n:Nat) (h3:F.fn 140) (hro:F.round=none) (hn:3≤n) (g:Nat) (lb:Array Value) (hFg:F.fn g) (eg:∀ args w,(callFunc g args).run Tryz.prog w = .ok (.enter g args) w) (S Sp:List Row2→Prop) (N:Nat) (hN:N≤1000000) (w:World)
  (hseq:SeqStopsK F (n - 1) Tryz.prog g lb (fun x:Row2=>#[row2 x]) KeepsWalks S Sp N w) :
  CallsIn F n Tryz.prog 140 #[.slice none 0 0,.func (.func g) #[] lb] w fun e w'=>∃ v ss,e = .returned v∧S ss∧w'.ownsRow w.heap.size 37 2 v ss.length (ss.flatMap cells2)∧(v = .slice none 0 0 ↔ ss = [])∧Below w.heap.size w w':=by
 have h1:1≤n:=by omega
 obtain ⟨i0,hi,hz0,hz1,hz2⟩:=info_parts info37
 refine callsIn_of_wp_marks Tryz.func140 rfl h3 ?_ hro
 simp only [Tryz.ntmps140,List.size_toArray,List.length_cons,List.length_nil,Nat.reduceAdd,Nat.reduceSub,Array.replicate_succ,Array.replicate_zero,List.push_toArray,List.append_toArray,List.nil_append,List.cons_append]
 gi_wp2
 have b0:=Boxed.new w 42 (.slice none 0 0)
 have hB0:Below w.heap.size w (w.alloc (.cells #[.slice none 0 0] 42)):=(Below.refl _ w).alloc (Nat.le_refl _) _
 have hsz:(w.alloc (.cells #[.slice none 0 0] 42)).heap.size=w.heap.size + 1:=by simp
 obtain ⟨W0,hW0⟩:∃ W0,w.alloc (.cells #[.slice none 0 0] 42)=W0:=⟨_,rfl⟩
 rw [hW0] at b0 hB0 hsz ⊢
 clear hW0
 refine wpIn_rangeFunc_ownH hro h1 (gf:=g) (lb:=lb) rfl hFg eg hseq walksK_t walksK_b hB0 (fun _=>rfl)
  (fun pre W=>(∃ v,Boxed W w.heap.size 42 v∧W.ownsRow w.heap.size 37 2 v pre.length (pre.flatMap cells2)∧(v = .slice none 0 0 ↔ pre = []))∧Below w.heap.size w W)
  (fun _ _ _=>False)
  ?hI (fun c s A B row h=>h.elim) ⟨⟨_,b0,World.ownsRow_nil _ _ _ _,by simp⟩,hB0⟩
  (fun y a' W=>∃ Bx,w.heap.size < Bx∧W.heap[Bx]? = some (.cells #[.string y.1,.string y.2] 37 (0,0))∧a' = { tmps:=#[.slice none 0 0,.func (.func g) #[] lb,.pointer (some ⟨w.heap.size,0,none⟩),undef,.slice none 0 0,.pointer (some ⟨Bx,0,none⟩),.func (.func g) #[] lb,row2 y,undef,undef,undef,undef,undef],defers:=[] })
  (fun y a' _ X Y row hs hg hr=>by
   obtain ⟨Bx,h1,h2,h3⟩:=hs
   exact ⟨Bx,h1,(hg.block Bx (Array.getElem?_eq_some_iff.1 h2).1 (fun e=>by obtain ⟨_,o,ho,hc⟩:=hr Bx e.symm; rw [h2] at ho; cases ho; cases hc)).trans h2,h3⟩)
  ?assign ?body ?done ?stop
 case hI =>
  exact OwnFrom.and (Own.from (holdsRow_own w.heap.size w.heap.size 42 37 2 (fun pre:List Row2=>pre.length) (fun pre=>pre.flatMap cells2) (fun pre v=>(v = .slice none 0 0 ↔ pre = []))) _) (ownFrom_below (Nat.le_refl _) (by omega))
 case assign =>
  rintro l pre y W K ⟨⟨v,hv,hr,hnl⟩,hB⟩ hK
  obtain ⟨y1,y2⟩:=y
  simp only [row2] at hK ⊢
  gi_wp2
  exact hK _ _ ((KeepsOthers.alloc _ _).from _) (KeepsWalks.alloc _ _) ⟨⟨v,hv.alloc _,hr.alloc _,hnl⟩,hB.alloc hB.size _⟩ ⟨W.heap.size,hv.lt,World.alloc_heap_new W _,rfl⟩
 case body =>
  rintro l pre y a' W hl ⟨r,hr⟩ ⟨⟨v,hv,hrow,hnl⟩,hB⟩ ⟨Bx,hlt,rx,rfl⟩ hlen
  obtain ⟨y1,y2⟩:=y
  simp only at rx ⊢
  have cx0:W.cell? ⟨Bx,0,none⟩=some (.string y1):=by simp [World.cell?,rx]
  have cx1:W.cell? ⟨Bx,1,none⟩=some (.string y2):=by simp [World.cell?,rx]
  have hvc:=hv.cell
  gi_wp2_with (first
   | (gi_at_builtin; refine wpListIn_append_own _ rfl _ _ 42 rfl w.heap.size 37 i0 (.agg #[.string ⟨#[]⟩,.string ⟨#[]⟩]) 2 32 Tryz.underlying42 hi hz0 hz1 hz2 rfl (by decide) _ _ _ rfl (hrow.alloc _) ⟨W.heap.size,0,none⟩ 1 1 [.string y1,.string y2] rfl rfl (cell_two_new _ _ _ _) (by simp [Value.oneCell']) (by unfold maxLen; omega) (by omega) (by have:=hB.size; simp; omega) ?_; intro v' w1 hown' hgrow _; obtain ⟨g',cap',rfl⟩:=ownsRow_succ hown'; obtain ⟨hv1,hv2,hr2,hk2,hb2⟩:=hv.appended (by decide) hrow hB.size (Nat.le_refl _) hown' hgrow; have hc1:=hv1.cell; have hf1:=hv1.frozen)
   | gi_in)
  refine ⟨hk2.from _,⟨hk2.size,fun k o h hw=>hk2.same k o h (Obj.not_cells_of_walk hw)⟩,⟨_,hv2,?_,by simp⟩,hB.trans hb2⟩
  have e1:(pre++[(y1,y2)]).length=pre.length + 1:=by simp
  have e2:(pre++[(y1,y2)]).flatMap cells2=pre.flatMap cells2++[.string y1,.string y2]:=by simp [cells2]
  rw [e1,e2]
  exact hr2
 case done =>
  rintro D ys W hD hS ⟨⟨v,hv,hrow,hnl⟩,hB⟩ hK
  have hvc:=hv.cell
  gi_wp2
  refine ⟨by simp,.inl ⟨_,_,rfl,run_takeDeferred hK,?_⟩⟩
  exact ⟨_,results_tmp rfl _ _ _,v,ys,rfl,hS,ownsRow_putObj hrow _ hK rfl,hnl,hB.trans (belowK_b (w:=w) (Nat.le_refl _) W D _ _ (by omega) hK rfl rfl)⟩
 case stop =>
  rintro D c pre W hD _ h hK
  exact h.elim
end Go.Proofs.YtnipfhmghjdnmaaGreat
