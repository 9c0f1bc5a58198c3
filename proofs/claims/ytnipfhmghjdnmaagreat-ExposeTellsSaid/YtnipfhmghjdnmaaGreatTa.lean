/- What the functions of the seat compute, part 1: the texts of the claim, one behind the other. Conditions: bounds, as each theorem names them. -/
import Derived.RangeFuncNested
import Derived.RangeFuncBound
import Derived.RangeFuncCalls
import Derived.RangeFuncLeaves
import Derived.RangeFuncBox
import Derived.Shelf.Abstract
import Derived.Shelf.RegionOpen
import Derived.OwnWalkIn
import Derived.TacticsInMore
import Derived.LoopNIn
import Derived.LoopIn
import Derived.Test.YtnipfhmghjdnmaaGreatProg
import Derived.Test.YtnipfhmghjdnmaaGreatLd
set_option linter.defProp false
set_option linter.unusedSimpArgs false
set_option linter.unusedVariables false
namespace Go.Proofs.YtnipfhmghjdnmaaGreat
open Go Go.Av Go.RowKit Go.Shelf
attribute [local go_sem] Oper.semAt_some
structure F12 where
 n:ByteArray
 a1:Value
 a2:Value
 a3:Value
 a4:Value
 a5:Value
 a6:Value
 a7:Value
 a8:Value
 a9:Value
 a10:Value
 a11:Value
instance:Inhabited F12:=⟨⟨⟨#[]⟩,undef,undef,undef,undef,undef,undef,undef,undef,undef,undef,undef⟩⟩
def F12.arr(x:F12):Array Value:=#[.string x.n,x.a1,x.a2,x.a3,x.a4,x.a5,x.a6,x.a7,x.a8,x.a9,x.a10,x.a11]
def F12.v(x:F12):Value:=.agg #[.string x.n,x.a1,x.a2,x.a3,x.a4,x.a5,x.a6,x.a7,x.a8,x.a9,x.a10,x.a11]
def m9(W:World)(b off:Nat)(zs:List F12):Prop:=∀j,j<zs.length->W.cell? ⟨b,off+j*12,none⟩=some (.string (zs[j]?.getD default).n)/\W.cell? ⟨b,off+j*12+1,none⟩=some (zs[j]?.getD default).a1/\W.cell? ⟨b,off+j*12+2,none⟩=some (zs[j]?.getD default).a2/\W.cell? ⟨b,off+j*12+3,none⟩=some (zs[j]?.getD default).a3/\W.cell? ⟨b,off+j*12+4,none⟩=some (zs[j]?.getD default).a4/\W.cell? ⟨b,off+j*12+5,none⟩=some (zs[j]?.getD default).a5/\W.cell? ⟨b,off+j*12+6,none⟩=some (zs[j]?.getD default).a6/\W.cell? ⟨b,off+j*12+7,none⟩=some (zs[j]?.getD default).a7/\W.cell? ⟨b,off+j*12+8,none⟩=some (zs[j]?.getD default).a8/\W.cell? ⟨b,off+j*12+9,none⟩=some (zs[j]?.getD default).a9/\W.cell? ⟨b,off+j*12+10,none⟩=some (zs[j]?.getD default).a10/\W.cell? ⟨b,off+j*12+11,none⟩=some (zs[j]?.getD default).a11
def ew(n₀ bo:Nat)(A B:World):Prop:=∀k,k<n₀->k≠bo->B.heap[k]? = A.heap[k]?
def ew.refl(n₀ bo:Nat)(A:World):ew n₀ bo A A:=fun _ _ _=>rfl
def ew.trans{n₀ bo:Nat}{A B C:World}(h:ew n₀ bo A B)(k:ew n₀ bo B C):ew n₀ bo A C:=fun i hi hn=>(k i hi hn).trans (h i hi hn)
def ew.cell{n₀ bo:Nat}{A B:World}(h:ew n₀ bo A B){b o:Nat}(hb:b<n₀)(hn:b≠bo):B.cell? ⟨b,o,none⟩=A.cell? ⟨b,o,none⟩:=cell_of_heap (h b hb hn) o
def Nw{n₀ bo:Nat}{A B:World}(h:Below n₀ A B):ew n₀ bo A B:=fun k hk _=>h.block k hk
def m9.keep{n₀ bo:Nat}{A B:World}(h:ew n₀ bo A B){b off:Nat}(hb:b<n₀)(hn:b≠bo){zs:List F12}(c:m9 A b off zs):m9 B b off zs:=fun j hj=>by
 have:=c j hj
 simpa only[h.cell hb hn]using this
def GP{n₀ bo:Nat}{A B C:World}(h:ew n₀ bo A B)(k:ew n₀ bo B C):ew n₀ bo A C:=h.trans k
def GO{n₀ bo:Nat}{w:World}(hn:n₀<=w.heap.size)(W:World)(l:Nat)(o o':Obj)(hl:w.heap.size<=l)(_h:W.heap[l]? = some o)(_:o.isCells=false)(_:o.isWalk=false):ew n₀ bo W (W.putObj l o'):=
 fun k hk _=>World.putObj_heap_other (by omega)
set_option maxRecDepth 100000 in
set_option maxHeartbeats 4000000 in
def D2(F:Fence)(n:Nat)(h7:F.fn 132)(hro:F.round=none)(hn:1<=n)(l Bs n₀ bo b off cap:Nat)(zs:List F12)(hreach:zs.length<=1000000000)(hb:b<n₀)(hbo:b≠bo)(hBn:Bs<n₀)(hBo:Bs≠bo)(J:Nat->World->Prop)(Jx:World->Prop)
  (hY:∀k W,J k W->k<zs.length->YieldAt F (n-1) Tryz.prog l #[.int .i64 ((zs.length-1-k:Nat):Int),(zs[zs.length-1-k]?.getD default).v] W fun e W'=>
   (e= .returned (.bool true)/\J (k+1) W'/\ew n₀ bo W W')\/(e= .returned (.bool false)/\Jx W'))
  (W:World) (hBs:W.cell? ⟨Bs,0,none⟩=some (.slice (some ⟨b,off,none⟩) zs.length cap)) (hc:m9 W b off zs) (h0:J 0 W):
  CallsIn F n Tryz.prog 132 #[.func (.yield l) #[] #[],.pointer (some ⟨Bs,0,none⟩)] W fun e W'=>(∃v,e= .returned v)/\(J zs.length W'\/Jx W'):=by
 refine callsIn_of_wp Tryz.func132 rfl h7 ?_ hro;simp only[Tryz.ntmps132,OQ,Of,Ot,Nat.reduceAdd,Nat.reduceSub,O6,O7,Pi,O8,N4,Ob]
 gi_wp2
 gi_loopw [3] (fun i wr=>∃k:Nat,k<=zs.length/\i= .int .i64 ((zs.length:Int)-1-k)/\J k wr/\ew n₀ bo W wr)
  (fun i _=>(intOf i+1).toNat)
 case atStart=>exact⟨0,OX _,by simp,h0,ew.refl _ _ _⟩
 case round=>
  obtain⟨k,hk,rfl,hJs,hnx⟩:=hrel;have hbs:wr.cell? ⟨Bs,0,none⟩=some (.slice (some ⟨b,off,none⟩) zs.length cap):=(hnx.cell hBn hBo).trans hBs;by_cases hlt:k<zs.length
  ·obtain⟨fn,tmps,assign,body,hy,hR⟩:=hY k wr hJs hlt;obtain⟨m,hm⟩:∃m:Nat,(zs.length:Int)-1-k=m:=⟨zs.length-1-k,by omega⟩;have hm':zs.length-1-k=m:=by omega
   rw[hm']at hy;rw[hm];obtain⟨c0,c1,c2,c3,c4,c5,c6,c7,c8,c9,c10,c11⟩:=(hc.keep hnx hb hbo) m (by omega);generalize hz:zs[m]?.getD default=z at hy c0 c1 c2 c3 c4 c5 c6 c7 c8 c9 c10 c11;obtain⟨z0,z1,z2,z3,z4,z5,z6,z7,z8,z9,z10,z11⟩:=z;have hml:m<zs.length:=by omega
   simp only[F12.v]at hy;simp only at c0 c1 c2 c3 c4 c5 c6 c7 c8 c9 c10 c11
   gi_wp2
   refine hR.mono ?_;rintro e W3 (⟨rfl,hJ3,hk3⟩|⟨rfl,hJx3⟩)
   ·gi_wp2
    go_roundw
    case rel=>exact⟨k+1,by omega,by congr 1;omega,hJ3,hnx.trans hk3⟩
    case measure=>simp[intOf]<;>omega
   ·gi_wp2
    refine bodyPost_ret (results_none rfl _ _ _) rfl ?_;exact⟨⟨_,rfl⟩,.inr hJx3⟩
  ·obtain rfl:k=zs.length:=by omega
   gi_wp2
   go_end0
   exact⟨⟨_,rfl⟩,.inl hJs⟩
set_option maxRecDepth 100000 in
set_option maxHeartbeats 1000000 in
def uy(F:Fence)(n:Nat)(h7:F.fn 132)(hro:F.round=none)(l Bs:Nat)(p:Option Addr)(cap:Nat)(J:World->Prop)(W:World)(hBs:W.cell? ⟨Bs,0,none⟩=some (.slice p 0 cap))(h0:J W):
  CallsIn F n Tryz.prog 132 #[.func (.yield l) #[] #[],.pointer (some ⟨Bs,0,none⟩)] W fun e W'=>(∃v,e= .returned v)/\J W':=by
 refine callsIn_of_wp Tryz.func132 rfl h7 ?_ hro;simp only[Tryz.ntmps132,OQ,Of,Ot,Nat.reduceAdd,Nat.reduceSub,O6,O7,Pi,O8,N4,Ob]
 gi_wp2
 gi_loopw [3] (fun i wr=>i= .int .i64 (-1)/\J wr) (fun _ _=>0)
 case atStart=>exact⟨rfl,h0⟩
 case round=>
  obtain⟨rfl,hJs⟩:=hrel
  gi_wp2
  go_end0
  exact⟨⟨_,rfl⟩,hJs⟩
set_option maxHeartbeats 1000000 in
def Gf(F:Fence)(n:Nat)(h5:F.fn 92)(hro:F.round=none)(a:Option Addr)(len cap:Nat)(w:World):
  CallsIn F n Tryz.prog 92 #[.slice a len cap] w fun e w'=>e= .returned (.func (.func 132) #[] #[.pointer (some ⟨w.heap.size,0,none⟩)])/\w'=w.alloc (.cells #[.slice a len cap] 51):=by
 refine callsIn_of_wp Tryz.func92 rfl h5 ?_ hro;simp only[Tryz.ntmps92,OQ,Of,Ot,Nat.reduceAdd,Nat.reduceSub,O6,O7,Pi,O8,N4,Ob]
 gi_wp2
 go_ret
 exact⟨rfl,rfl⟩
def jr(n₀ bo:Nat)(W:World)(sv:Value)(zs:List F12):Prop:=
 (zs=[]/\∃p cap,sv= .slice p 0 cap)\/∃b off cap,sv= .slice (some ⟨b,off,none⟩) zs.length cap/\b<n₀/\b≠bo/\m9 W b off zs
theorem jr.keep{n₀ bo:Nat}{A B:World}(h:ew n₀ bo A B){sv:Value}{zs:List F12}:jr n₀ bo A sv zs->jr n₀ bo B sv zs
 |.inl e=>.inl e
 |.inr ⟨b,off,cap,e,hb,hn,hc⟩=>.inr ⟨b,off,cap,e,hb,hn,hc.keep h hb hn⟩
theorem jr.mono{n n' bo:Nat}(h:n<=n'){W:World}{sv:Value}{zs:List F12}:jr n bo W sv zs->jr n' bo W sv zs
 |.inl e=>.inl e
 |.inr ⟨b,off,cap,e,hb,hn,hc⟩=>.inr ⟨b,off,cap,e,On hb h,hn,hc⟩
def yL(F:Fence)(n:Nat)(h8:F.fn 132)(hro:F.round=none)(hn:1<=n)(Bs bo:Nat)(sv:Value)(zs:List F12)(hreach:zs.length<=1000000000){α:Type}(encs:α->Array Value)(yl:List α)(hl:yl.length=zs.length)(he:∀k (h:k<yl.length),encs (yl[k])= #[.int .i64 ((zs.length-1-k:Nat):Int),(zs[zs.length-1-k]?.getD default).v])(w:World)(hBs:Bs<w.heap.size)(hBo:Bs≠bo)(hc:w.cell? ⟨Bs,0,none⟩=some sv)(hI:jr w.heap.size bo w sv zs):
  SeqStopsK F n Tryz.prog 132 #[.pointer (some ⟨Bs,0,none⟩)] encs (ew w.heap.size bo) (fun ys=>ys=yl) (fun _=>True) zs.length w:=fun l J Jx W hW _ _ hY h0=>by
 have hc':=(hW.cell (p:=⟨Bs,0,none⟩) hBs).trans hc;rcases hI.keep (Nw hW)with⟨rfl,p,cap,rfl⟩|⟨b,off,cap,rfl,hb,hb2,hcs⟩
 ·have:yl=[]:=PW.1 (by simpa using hl);subst this;exact (uy F n h8 hro l Bs p cap (J []) W hc' h0).mono fun e W' ⟨he,hj⟩=>⟨he,.inl ⟨_,rfl,hj⟩⟩
 ·refine (D2 F n h8 hro hn l Bs w.heap.size bo b off cap zs hreach hb hb2 hBs hBo (fun k W=>J (yl.take k) W) (fun W=>∃pre,True/\Jx pre W) (fun k W hJ hk=>?_) W hc' hcs (by simpa using h0)).mono fun e W' ⟨he,hj⟩=>⟨he,?_⟩
  ·have hka:k<yl.length:=by omega
   have h1:=hY (yl.take k) (yl[k]) W hJ (by rw[Pb];omega);rw[he k hka]at h1;obtain⟨fn,tmps,assign,body,hy,hR⟩:=h1;refine⟨fn,tmps,assign,body,hy,hR.mono fun e W' h=>?_⟩;rcases h with⟨h2,h3,h4⟩|⟨h2,h3⟩
   ·exact .inl ⟨h2,by rw[List.take_add_one,NH hka];exact h3,h4⟩
   ·exact .inr ⟨h2,_,trivial,h3⟩
  ·rcases hj with hj|hj
   ·exact .inl ⟨yl,rfl,by rwa [<- hl,Pp]at hj⟩
   ·exact .inr hj
end Go.Proofs.YtnipfhmghjdnmaaGreat
namespace Go.Proofs.YtnipfhmghjdnmaaGreat
open Go Go.Av Go.Av.Ap
abbrev CC:=FuncId->List AV->M AV
abbrev RR:=List AV->M AV
def lb{α β:Type}{m:M α}{f:α->M β}{fs:Nat->α->M β}(hf:bz f fs):aS (ae m f) fun n=>ae m (fs n):=aS.bnd (aS.const _) hf
abbrev vN(l:List Nat):List (Nat×Option Nat):=l.map fun x=>(x,none)
abbrev tF:TI:=TI.mk false 1 8 .func [] [.nilf] false
noncomputable def tab:List (Nat×TI):=[
(0,(TI.mk false 1 0 .other [] [.any] false)),
(1,tF),
(2,(TI.mk false 1 8 (.int .i64) [] [.int .i64 0] false)),
(3,(TI.mk false 1 8 (.int .i64) [] [.int .i64 0] false)),
(4,(TI.mk false 1 1 .bool [] [.bool false] false)),
(5,(TI.mk false 1 1 (.int .u8) [] [.int .u8 0] false)),
(6,(TI.mk false 1 1 (.int .u8) [] [.int .u8 0] false)),
(7,(TI.mk true 4 24 .struct [(0,((2,true))),(1,((3,true))),(2,((4,true))),(3,((6,true)))] [.int .i64 0,.int .i64 0,.bool false,.int .u8 0] true)),
(8,(TI.mk true 4 24 .struct [(0,((2,true))),(1,((3,true))),(2,((4,true))),(3,((6,true)))] [.int .i64 0,.int .i64 0,.bool false,.int .u8 0] true)),
(9,(TI.mk false 1 16 .str [] [.str []] false)),
(10,(TI.mk false 1 16 .str [] [.str []] false)),
(11,(TI.mk false 1 16 .str [] [.str []] false)),
(12,(TI.mk false 1 8 (.int .u64) [] [.int .u64 0] false)),
(13,(TI.mk true 2 24 .struct [(0,((9,true))),(1,((12,true)))] [.str [],.int .u64 0] false)),
(14,(TI.mk true 2 24 .struct [(0,((9,true))),(1,((12,true)))] [.str [],.int .u64 0] false)),
(15,(TI.mk false 1 8 .ptr [] [.nilp] false)),
(16,(TI.mk false 1 8 .ptr [] [.nilp] false)),
(17,(TI.mk false 1 8 .ptr [] [.nilp] false)),
(18,(TI.mk true 1 8 .struct [(0,((17,true)))] [.nilp] false)),
(19,(TI.mk true 1 8 .struct [(0,((17,true)))] [.nilp] false)),
(20,(TI.mk false 1 16 .iface [] [.nili] false)),
(21,(TI.mk false 1 4 (.int .i32) [] [.int .i32 0] false)),
(22,(TI.mk false 1 24 (.slice 55) [] [.sl []] false)),
(23,(TI.mk false 1 24 (.slice 58) [] [.sl []] false)),
(24,(TI.mk false 1 24 (.slice 63) [] [.sl []] false)),
(25,(TI.mk true 4 80 .struct [(0,((22,true))),(1,((23,true))),(2,((24,true))),(3,((4,true)))] [.sl [],.sl [],.sl [],.bool false] true)),
(26,(TI.mk true 4 80 .struct [(0,((22,true))),(1,((23,true))),(2,((24,true))),(3,((4,true)))] [.sl [],.sl [],.sl [],.bool false] true)),
(27,(TI.mk false 1 24 (.slice 99) [] [.sl []] false)),
(28,(TI.mk false 1 24 (.slice 9) [] [.sl []] false)),
(29,(TI.mk false 1 24 (.slice 31) [] [.sl []] false)),
(30,(TI.mk true 6 96 .struct [(0,((3,true))),(1,((3,true))),(2,((9,true))),(3,((9,true))),(4,((28,true))),(5,((29,true)))] [.int .i64 0,.int .i64 0,.str [],.str [],.sl [],.sl []] true)),
(31,(TI.mk true 6 96 .struct [(0,((3,true))),(1,((3,true))),(2,((9,true))),(3,((9,true))),(4,((28,true))),(5,((29,true)))] [.int .i64 0,.int .i64 0,.str [],.str [],.sl [],.sl []] true)),
(32,(TI.mk true 10 160 .struct [(0,((3,true))),(1,((9,true))),(2,((27,true))),(3,((9,true))),(4,((31,true)))] [.int .i64 0,.str [],.sl [],.str [],.int .i64 0,.int .i64 0,.str [],.str [],.sl [],.sl []] true)),
(33,(TI.mk true 10 160 .struct [(0,((3,true))),(1,((9,true))),(2,((27,true))),(3,((9,true))),(4,((31,true)))] [.int .i64 0,.str [],.sl [],.str [],.int .i64 0,.int .i64 0,.str [],.str [],.sl [],.sl []] true)),
(34,tF),
(35,tF),
(36,(TI.mk true 2 32 .struct [(0,((9,true))),(1,((9,true)))] [.str [],.str []] true)),
(37,(TI.mk true 2 32 .struct [(0,((9,true))),(1,((9,true)))] [.str [],.str []] true)),
(38,(TI.mk false 1 0 .other [] [.any] false)),
(39,tF),
(40,(TI.mk false 1 24 (.slice 26) [] [.sl []] false)),
(41,tF),
(42,(TI.mk false 1 24 (.slice 37) [] [.sl []] false)),
(43,tF),
(44,tF),
(45,(TI.mk false 1 24 (.slice 3) [] [.sl []] false)),
(46,tF),
(47,tF),
(48,tF),
(49,tF),
(50,(TI.mk false 1 24 (.slice 105) [] [.sl []] false)),
(51,(TI.mk false 1 24 (.slice 90) [] [.sl []] false)),
(52,(TI.mk true 3 72 .struct [(0,((50,true))),(1,((29,true))),(2,((29,true)))] [.sl [],.sl [],.sl []] true)),
(53,(TI.mk true 3 72 .struct [(0,((50,true))),(1,((29,true))),(2,((29,true)))] [.sl [],.sl [],.sl []] true)),
(54,(TI.mk true 9 192 .struct [(0,((9,true))),(1,((28,true))),(2,((50,true))),(3,((29,true))),(4,((51,true))),(5,((4,true))),(6,((53,true)))] [.str [],.sl [],.sl [],.sl [],.sl [],.bool false,.sl [],.sl [],.sl []] true)),
(55,(TI.mk true 9 192 .struct [(0,((9,true))),(1,((28,true))),(2,((50,true))),(3,((29,true))),(4,((51,true))),(5,((4,true))),(6,((53,true)))] [.str [],.sl [],.sl [],.sl [],.sl [],.bool false,.sl [],.sl [],.sl []] true)),
(56,tF),
(57,(TI.mk true 3 24 .struct [(0,((3,true))),(1,((3,true))),(2,((3,true)))] [.int .i64 0,.int .i64 0,.int .i64 0] true)),
(58,(TI.mk true 3 24 .struct [(0,((3,true))),(1,((3,true))),(2,((3,true)))] [.int .i64 0,.int .i64 0,.int .i64 0] true)),
(59,tF),
(60,tF),
(61,(TI.mk false 1 24 (.slice 71) [] [.sl []] false)),
(62,(TI.mk true 3 56 .struct [(0,((9,true))),(1,((9,true))),(2,((61,true)))] [.str [],.str [],.sl []] true)),
(63,(TI.mk true 3 56 .struct [(0,((9,true))),(1,((9,true))),(2,((61,true)))] [.str [],.str [],.sl []] true)),
(64,(TI.mk false 1 0 .other [] [.any] false)),
(65,tF),
(66,tF),
(67,tF),
(68,tF),
(69,(TI.mk false 1 8 (.int .i64) [] [.int .i64 0] false)),
(70,(TI.mk true 4 64 .struct [(0,((3,true))),(1,((3,true))),(2,((28,true))),(3,((61,true)))] [.int .i64 0,.int .i64 0,.sl [],.sl []] true)),
(71,(TI.mk true 4 64 .struct [(0,((3,true))),(1,((3,true))),(2,((28,true))),(3,((61,true)))] [.int .i64 0,.int .i64 0,.sl [],.sl []] true)),
(72,(TI.mk false 1 24 (.slice 80) [] [.sl []] false)),
(73,(TI.mk false 1 24 (.slice 155) [] [.sl []] false)),
(74,(TI.mk true 8 144 .struct [(0,((69,true))),(1,((71,true))),(5,((72,true))),(6,((24,true))),(7,((73,true)))] [.int .i64 0,.int .i64 0,.int .i64 0,.sl [],.sl [],.sl [],.sl [],.sl []] true)),
(75,(TI.mk true 8 144 .struct [(0,((69,true))),(1,((71,true))),(5,((72,true))),(6,((24,true))),(7,((73,true)))] [.int .i64 0,.int .i64 0,.int .i64 0,.sl [],.sl [],.sl [],.sl [],.sl []] true)),
(76,tF),
(77,tF),
(78,tF),
(79,(TI.mk true 3 24 .struct [(0,((3,true))),(1,((3,true))),(2,((3,true)))] [.int .i64 0,.int .i64 0,.int .i64 0] true)),
(80,(TI.mk true 3 24 .struct [(0,((3,true))),(1,((3,true))),(2,((3,true)))] [.int .i64 0,.int .i64 0,.int .i64 0] true)),
(81,tF),
(82,tF),
(83,tF),
(84,tF),
(85,tF),
(86,tF),
(87,(TI.mk true 2 32 .struct [(0,((3,true))),(1,((50,true)))] [.int .i64 0,.sl []] true)),
(88,(TI.mk true 2 32 .struct [(0,((3,true))),(1,((50,true)))] [.int .i64 0,.sl []] true)),
(89,(TI.mk true 12 184 .struct [(0,((9,true))),(1,((4,true))),(2,((50,true))),(3,((88,true))),(5,((3,true))),(6,((31,true)))] [.str [],.bool false,.sl [],.int .i64 0,.sl [],.int .i64 0,.int .i64 0,.int .i64 0,.str [],.str [],.sl [],.sl []] true)),
(90,(TI.mk true 12 184 .struct [(0,((9,true))),(1,((4,true))),(2,((50,true))),(3,((88,true))),(5,((3,true))),(6,((31,true)))] [.str [],.bool false,.sl [],.int .i64 0,.sl [],.int .i64 0,.int .i64 0,.int .i64 0,.str [],.str [],.sl [],.sl []] true)),
(91,tF),
(92,(TI.mk false 1 0 .other [] [.any] false)),
(93,tF),
(94,(TI.mk false 1 0 .other [] [.any] false)),
(95,tF),
(96,tF),
(97,tF),
(98,(TI.mk true 6 48 .struct [(0,((58,true))),(3,((58,true)))] [.int .i64 0,.int .i64 0,.int .i64 0,.int .i64 0,.int .i64 0,.int .i64 0] true)),
(99,(TI.mk true 6 48 .struct [(0,((58,true))),(3,((58,true)))] [.int .i64 0,.int .i64 0,.int .i64 0,.int .i64 0,.int .i64 0,.int .i64 0] true)),
(100,tF),
(101,tF),
(102,tF),
(103,tF),
(104,(TI.mk true 3 48 .struct [(0,((9,true))),(1,((88,true)))] [.str [],.int .i64 0,.sl []] true)),
(105,(TI.mk true 3 48 .struct [(0,((9,true))),(1,((88,true)))] [.str [],.int .i64 0,.sl []] true)),
(106,(TI.mk false 1 0 .other [] [.any] false)),
(107,tF),
(108,(TI.mk false 1 8 (.map 37 37) [] [.nilm] false)),
(109,tF),
(110,(TI.mk false 1 8 (.map 37 90) [] [.nilm] false)),
(111,tF),
(112,tF),
(113,tF),
(114,tF),
(115,tF),
(116,tF),
(117,(TI.mk false 1 0 .other [] [.any] false)),
(118,tF),
(119,tF),
(120,tF),
(121,tF),
(122,tF),
(123,tF),
(124,tF),
(125,tF),
(126,tF),
(127,tF),
(128,tF),
(129,tF),
(130,tF),
(131,tF),
(132,tF),
(133,tF),
(134,tF),
(135,tF),
(136,tF),
(137,tF),
(138,tF),
(139,(TI.mk false 1 8 .ptr [] [.nilp] false)),
(140,(TI.mk true 12 208 .struct [(0,((22,true))),(1,((45,true))),(2,((3,true))),(3,((3,true))),(4,((75,true)))] [.sl [],.sl [],.int .i64 0,.int .i64 0,.int .i64 0,.int .i64 0,.int .i64 0,.sl [],.sl [],.sl [],.sl [],.sl []] true)),
(141,(TI.mk true 12 208 .struct [(0,((22,true))),(1,((45,true))),(2,((3,true))),(3,((3,true))),(4,((75,true)))] [.sl [],.sl [],.int .i64 0,.int .i64 0,.int .i64 0,.int .i64 0,.int .i64 0,.sl [],.sl [],.sl [],.sl [],.sl []] true)),
(142,tF),
(143,tF),
(144,(TI.mk true 3 56 .struct [(0,((3,true))),(1,((28,true))),(2,((61,true)))] [.int .i64 0,.sl [],.sl []] true)),
(145,(TI.mk true 3 56 .struct [(0,((3,true))),(1,((28,true))),(2,((61,true)))] [.int .i64 0,.sl [],.sl []] true)),
(146,tF),
(147,tF),
(148,(TI.mk false 1 8 (.map 9 4) [] [.nilm] false)),
(149,tF),
(150,tF),
(151,tF),
(152,tF),
(153,tF),
(154,(TI.mk true 2 40 .struct [(0,((9,true))),(1,((61,true)))] [.str [],.sl []] true)),
(155,(TI.mk true 2 40 .struct [(0,((9,true))),(1,((61,true)))] [.str [],.sl []] true)),
(156,tF),
(157,tF),
(158,tF),
(159,tF),
(160,tF),
(161,tF),
(162,tF),
(163,tF),
(164,tF),
(165,tF),
(166,tF),
(167,(TI.mk false 1 8 (.int .u64) [] [.int .u64 0] false)),
(168,tF),
(169,(TI.mk false 1 8 .ptr [] [.nilp] false)),
(170,(TI.mk true 13 216 .struct [(0,((22,true))),(1,((75,true))),(9,((45,true))),(10,((3,true))),(11,((3,true))),(12,((3,true)))] [.sl [],.int .i64 0,.int .i64 0,.int .i64 0,.sl [],.sl [],.sl [],.sl [],.sl [],.sl [],.int .i64 0,.int .i64 0,.int .i64 0] true)),
(171,(TI.mk true 13 216 .struct [(0,((22,true))),(1,((75,true))),(9,((45,true))),(10,((3,true))),(11,((3,true))),(12,((3,true)))] [.sl [],.int .i64 0,.int .i64 0,.int .i64 0,.sl [],.sl [],.sl [],.sl [],.sl [],.sl [],.int .i64 0,.int .i64 0,.int .i64 0] true)),
(172,tF),
(173,(TI.mk true 3 56 .struct [(0,((3,true))),(1,((28,true))),(2,((61,true)))] [.int .i64 0,.sl [],.sl []] true)),
(174,(TI.mk true 3 56 .struct [(0,((3,true))),(1,((28,true))),(2,((61,true)))] [.int .i64 0,.sl [],.sl []] true)),
(175,tF),
(176,tF),
(177,tF),
(178,tF),
(179,tF),
(180,tF),
(181,tF),
(182,tF),
(183,tF),
(184,tF),
(185,(TI.mk false 1 8 (.map 37 4) [] [.nilm] false)),
(186,tF),
(187,tF),
(188,tF),
(189,tF),
(190,tF),
(191,tF),
(192,tF),
(193,tF),
(194,tF),
(195,(TI.mk false 1 8 (.int .i64) [] [.int .i64 0] false)),
(196,(TI.mk false 1 0 .other [] [.any] false)),
(197,tF),
(198,tF),
(199,tF),
(200,(TI.mk false 1 0 .other [] [.any] false)),
(201,tF),
(202,tF),
(203,(TI.mk false 1 4 (.int .u32) [] [.int .u32 0] false)),
(204,tF),
(205,(TI.mk false 1 8 (.int .u64) [] [.int .u64 0] false)),
(206,tF),
(207,tF),
(208,tF),
(209,tF),
(210,tF),
(211,tF),
(212,tF),
(213,tF),
(214,tF),
(215,(TI.mk false 1 8 (.int .u64) [] [.int .u64 0] false)),
(216,tF),
(217,tF),
(218,tF),
(219,(TI.mk false 1 8 .ptr [] [.nilp] false)),
(220,tF),
(221,(TI.mk false 1 8 .ptr [] [.nilp] false)),
(222,(TI.mk false 1 0 .other [] [.any] false)),
(223,tF),
(224,tF),
(225,tF),
(226,(TI.mk true 4 40 .struct [(0,((17,true))),(1,((17,true))),(2,((17,true))),(3,((9,true)))] [.nilp,.nilp,.nilp,.str []] false)),
(227,(TI.mk true 4 40 .struct [(0,((17,true))),(1,((17,true))),(2,((17,true))),(3,((9,true)))] [.nilp,.nilp,.nilp,.str []] false)),
(228,(TI.mk true 0 0 (.array 0 16) [] [] false)),
(229,(TI.mk true 0 0 .struct [(0,((228,false)))] [] false)),
(230,(TI.mk true 0 0 .struct [(0,((228,false)))] [] false)),
(231,tF),
(232,(TI.mk false 1 1 (.int .u8) [] [.int .u8 0] false)),
(233,(TI.mk false 1 1 (.int .u8) [] [.int .u8 0] false)),
(234,tF),
(235,(TI.mk false 1 8 .ptr [] [.nilp] false)),
(236,(TI.mk false 1 4 (.int .i32) [] [.int .i32 0] false)),
(237,(TI.mk false 1 4 (.int .i32) [] [.int .i32 0] false)),
(238,(TI.mk true 11 48 .struct [(0,((12,true))),(1,((12,true))),(2,((203,true))),(3,((232,true))),(4,((5,true))),(5,((5,true))),(6,((233,true))),(7,((234,true))),(8,((235,true))),(9,((236,true))),(10,((237,true)))] [.int .u64 0,.int .u64 0,.int .u32 0,.int .u8 0,.int .u8 0,.int .u8 0,.int .u8 0,.nilf,.nilp,.int .i32 0,.int .i32 0] false)),
(239,(TI.mk true 11 48 .struct [(0,((12,true))),(1,((12,true))),(2,((203,true))),(3,((232,true))),(4,((5,true))),(5,((5,true))),(6,((233,true))),(7,((234,true))),(8,((235,true))),(9,((236,true))),(10,((237,true)))] [.int .u64 0,.int .u64 0,.int .u32 0,.int .u8 0,.int .u8 0,.int .u8 0,.int .u8 0,.nilf,.nilp,.int .i32 0,.int .i32 0] false)),
(240,(TI.mk false 1 8 .other [] [.nilp] false))]
def AD:List (Nat×TI)->Nat->Option TI
 |[],_=>none
 |(k,x):: r,t=>bif Nat.beq k t then some x else AD r t
noncomputable def T:TT:=AD tab
def Le:Ann:={kinds:=[(8,.S),(10,.S)],no:=[41],nl:=[15,16,20,21,27,28,33,34,38,39,40,42,43,51,52,54,55,60,61,63,64,73,74,76,77,83,86],lw:=[8,10]}
def Lf:Ann:={kinds:=[(1,.S),(2,.S),(6,.S)],no:=[16,21,26,36,73,102,105],nl:=[29,30,39,42,46,47,53,54,60,66,71,77,83,90,100,103],lw:=[1,2,3,4,5,6,17,22,27]}
def Lg:Ann:={nl:=[12,22,26,31,35,41,45,51,54,60,64,70,74,77,82,86,92,96,100,105,109,113,119,129,133,138,142,148,152,155,159,164,170,176,182],loops:=[(0,{vals:=vN [2,3,5]}),(2,{vals:=vN [2,3,5,6]}),(4,{vals:=vN [2,3,5,7]}),(6,{vals:=vN [2,3,8]}),(8,{vals:=vN [2,3,8,9]})]}
def HA:Ann:={kinds:=[(6,.S)],nl:=[9,10,18,20],lw:=[4,6]}
def HB:Ann:={kinds:=[(6,.S)],nl:=[9,10,18,20],lw:=[4,6]}
def HC:Ann:={nl:=[20,24],loops:=[(0,{vals:=vN [0,1,5]})]}
def HD:Ann:={kinds:=[(5,.S)],nl:=[8,9,16,17],lw:=[5]}
def HE:Ann:={kinds:=[(5,.S)],nl:=[8,9,16,17],lw:=[5]}
def HF:Ann:={nl:=[20,24],loops:=[(0,{vals:=vN [0,1,5]})]}
def HG:Ann:={kinds:=[(5,.S),(9,.S)],no:=[38],nl:=[13,14,21,27,29,30,31],lw:=[5,9],loops:=[(0,{vals:=[(3,none),(5,none),(7,some 1),(21,none),(22,none),(23,none)]})]}
def HH:Ann:={no:=[25],nl:=[9,14,15,17,20],joins:=[(1000001,{vals:=[(2,none),(3,none),(5,some 1),(6,none)]})],loops:=[(0,{vals:=[(2,none),(3,none),(5,some 1),(6,none)]})]}
def HI:Ann:={kinds:=[(5,.S),(9,.S)],nl:=[13,14,18,19,23,24,34,37,42,44,45,46,53,58,60],lw:=[5,9],loops:=[(0,{vals:=vN [3,5,7,37,38,39]})]}
def HJ:Ann:={kinds:=[(7,.S)],nl:=[13,19,20,22,25,31,32,36,37,47,55,60,67,71,73,77],lw:=[7],loops:=[(0,{vals:=vN [2,3,5,6]}),(2,{vals:=vN [2,7,9,10]})]}
def HK:Ann:={kinds:=[(7,.S)],no:=[26],nl:=[14,16,19,20],lw:=[7],loops:=[(0,{vals:=[(3,none),(5,some 1),(8,none),(9,none),(10,none)]})]}
def HL:Ann:={no:=[30],nl:=[16,17,25],joins:=[(1000001,{vals:=[(0,none),(3,none),(5,some 1),(6,none)]})],loops:=[(0,{vals:=[(0,none),(3,none),(5,some 1),(6,none)]})]}
def HM:Ann:={}
def HN:Ann:={nl:=[15,16],loops:=[(0,{vals:=vN [0,3,5]})]}
def HO:Ann:={nl:=[15,16],loops:=[(0,{vals:=vN [0,3,5]})]}
def HP:Ann:={kinds:=[(1,.S)],no:=[4,9],nl:=[10],lw:=[0,1]}
def HQ:Ann:={kinds:=[(3,.S),(4,.S),(5,.S)],no:=[9,13,15,18,20,23,25,29],nl:=[10,14,19,22],lw:=[2,3,4,5]}
def HR:Ann:={no:=[11],lw:=[6]}
def HS:Ann:={nl:=[8,18,22,27,31,38,41,48,51,65,69,74,80,86,93],loops:=[(0,{vals:=vN [1,3]}),(2,{vals:=vN [1,4,5]})]}
def HT:Ann:={nl:=[15,27,30],loops:=[(0,{vals:=vN [1,2,3,7,8]})]}
def HU:Ann:={nl:=[15,27,30],loops:=[(0,{vals:=vN [1,2,3,7,8]})]}
def HV:Ann:={nl:=[9,17,23,25,28,34,38,45,49,52],lw:=[4]}
def HW:Ann:={nl:=[9,11,14,17,24,30,32,35,40,44,47],lw:=[4]}
def HX:Ann:={kinds:=[(7,.S),(8,.S),(9,.S)],ha:=[36],hb:=[6],no:=[35],nl:=[22,24,31,34],lw:=[7,8,9],rz:=true,loops:=[(0,{vals:=vN [3,5,6,14]})],ords:=[(6,[0,1,3,8,2,4,5,6,7,9,10])]}
def HY:Ann:={kinds:=[(8,.S),(9,.S)],nl:=[22,31,36,40,44,51,55,61,63,67],lw:=[8,9],joins:=[(1000003,{vals:=vN [0,3,5,6,7]})],loops:=[(0,{vals:=vN [0,3,5,6]}),(2,{vals:=vN [0,3,5,6,7]})]}
def HZ:Ann:={kinds:=[(10,.S),(11,.S)],no:=[44],nl:=[14,16,20,22,27,30,35,40,43,49,52,60,64],lw:=[10,11],loops:=[(0,{vals:=[(4,none),(5,none),(8,some 1),(35,none),(36,none),(37,none)]})]}
def H3:Ann:={kinds:=[(7,.S),(11,.S)],no:=[58],nl:=[14,15,23,25,30,32,37,40,46,53,57,62,65,73,77],lw:=[7,11],loops:=[(0,{vals:=[(4,none),(5,none),(7,none),(9,some 1),(10,none)]})]}
def H4:Ann:={nl:=[6]}
def H5:Ann:={}
def H6:Ann:={nl:=[4,5]}
def H7:Ann:={nl:=[6,7,11,13]}
def H8:Ann:={nl:=[16],loops:=[(0,{vals:=vN [0,1,5]})]}
def H9:Ann:={nl:=[15,24,28],loops:=[(0,{vals:=vN [0,1,2,7]})]}
def Ia:Ann:={kinds:=[(8,.S),(20,.H)],hb:=[19],nl:=[9,11,15],lw:=[6,8]}
def Ib:Ann:={iso:=false,kinds:=[(5,.S),(10,.S),(11,.S)],no:=[57],nl:=[15,22,23,25,35,41,44,51,54,56],lw:=[5,10,11],so:=[31],loops:=[(0,{vals:=[(0,none),(7,none),(8,some 2)]}),(2,{vals:=[(0,none),(7,none),(8,some 2),(36,none),(37,none),(38,none)]})]}
def DV:Ann:={no:=[15],nl:=[6,8,11,13]}
def Ic:Ann:={iso:=false,kinds:=[(5,.S)],nl:=[7,10,15,16],lw:=[5],loops:=[(0,{vals:=vN [1,10,11,12]})]}
def Ie:Ann:={lw:=[2]}
def Ig:Ann:={nl:=[18],loops:=[(0,{vals:=vN [0,3]})]}
def Ih:Ann:={nl:=[15,27,31],loops:=[(0,{vals:=vN [1,2,3,7,8]})]}
def Ii:Ann:={nl:=[15],loops:=[(0,{vals:=vN [0,1,7,8]})]}
def Ij:Ann:={nl:=[5,7]}
def Ik:Ann:={nl:=[15],loops:=[(0,{vals:=vN [0,1,7,8]})]}
def Il:Ann:={nl:=[5,7]}
def Im:Ann:={nl:=[16,17,21,26],loops:=[(0,{vals:=vN [0,3,5]})]}
def Io:Ann:={nl:=[19,21,27,38,40,45],lw:=[4],loops:=[(0,{vals:=vN [0,3,6,5000,5001,5002,5003,5004,5005,5006,5007,5008,5009,5010,5011],locs:=[(4,5000,0)],lbs:=[(5000,12)]}),(2,{vals:=vN [3,7,8,5000,5001,5002,5003,5004,5005,5006,5007,5008,5009,5010,5011],locs:=[(4,5000,0)],lbs:=[(5000,12)]})]}
def Ip:Ann:={kinds:=[(5,.S)],no:=[23,60],nl:=[14,20,22,34,46,53,59],lw:=[5],joins:=[(1000003,{vals:=[(0,none),(7,some 2),(8,none),(9,none),(10,none),(11,none)]})],loops:=[(0,{vals:=[(0,none),(7,some 2),(8,none),(9,none)]}),(2,{vals:=[(0,none),(7,some 2),(8,none),(9,none),(10,none),(11,none)]})]}
def Iq:Ann:={no:=[24,30],nl:=[15,16,23,29,40,41],joins:=[(43,{vals:=[(0,none),(5,some 2),(6,none)]})],loops:=[(0,{vals:=[(0,none),(3,none),(5,some 2),(6,none)]})]}
def Ir:Ann:={kinds:=[(9,.S),(22,.H)],hl:=[33,40],hb:=[21],nl:=[27,33,40,41],lw:=[6,9]}
def Is:Ann:={nl:=[11,15],loops:=[(0,{vals:=vN [0,3,7,8]})]}
def It:Ann:={nl:=[15],loops:=[(0,{vals:=vN [0,1,7,8]})]}
def Iu:Ann:={no:=[20],nl:=[6,8,11,13,16,18]}
def Iv:Ann:={}
def Iw:Ann:={nl:=[3]}
def Ix:Ann:={nl:=[3]}
def Iy:Ann:={iso:=false,nl:=[5,6,7,9],lw:=[4]}
def Iz:Ann:={iso:=false,kinds:=[(9,.S)],hl:=[14,20],nl:=[14,20,25,35,42,46,51,55,60,66,74,77,79,82,85,94,96,98,100,103,105,107,114,116,118,121,125,129,131,133,139,141,143,150,152,154,157,159,161,164,166,168,173,175,177,179,181,185,187,192,193,198,200,202,205,207,210,218,221,225,226,229,230],lw:=[6,9],joins:=[(87,{vals:=vN [0,4,5,42,87,7000,7001,7002,7003],locs:=[(6,7000,0)],lbs:=[(7000,4)]}),(110,{vals:=vN [0,4,5,42,110,7000,7001,7002,7003],locs:=[(6,7000,0)],lbs:=[(7000,4)]}),(1000000,{vals:=vN [0,4,5,7000,7001,7002,7003],locs:=[(6,7000,0)],lbs:=[(7000,4)]})],loops:=[(1,{vals:=vN [0,4,5,8,7000,7001,7002,7003],locs:=[(6,7000,0)],lbs:=[(7000,4)]})],ords:=[(23,[0,1,2,3,4,5,6,7,9,10,11,12,13,14,8,15,16,17]),(26,[0,1,2,3,4,5,7,8,9,6,10]),(36,[0,1,2,3,4,5,6,7,8,9,12,13,14,15,10,11,16,17]),(40,[0,1,2,3,4,5,7,6,8])]}
def IA:Ann:={iso:=false,kinds:=[(5,.S)],nl:=[7,8,13],lw:=[5]}
def ID:Ann:={iso:=false,hl:=[8],nl:=[8]}
def IF:Ann:={iso:=false,hl:=[16],nl:=[16,20,30],lw:=[6]}
def uw:Ann:={iso:=false,ha:=[7]}
def CS:Ann:={iso:=false,kinds:=[(11,.S),(12,.S)],hl:=[16,26,30,67,79],ha:=[41],no:=[40],nl:=[16,20,26,30,34,36,48,54,57,61,67,74,79,83],lw:=[8,9,11,12],joins:=[(20,{vals:=vN [0,1,3,6,9000,9001,9002,9003],locs:=[(8,9000,0)],lbs:=[(9000,4)]})],loops:=[(0,{vals:=vN [0,3,6,48,49,50,9000,9001,9002,9003,10000,10001,10002],locs:=[(8,9000,0),(9,10000,0)],lbs:=[(9000,4),(10000,3)]})]}
def yG:Ann:={nl:=[11],loops:=[(0,{vals:=vN [3,6,7,8]})]}
def yH:Ann:={}
def CU:Ann:={nl:=[6,8,11,13,16,18,21,23,26,28]}
def CV:Ann:={kinds:=[(5,.S)],nl:=[9,17,19],lw:=[5]}
def CW:Ann:={nl:=[6,8,12,14,18,20]}
def CX:Ann:={nl:=[13],loops:=[(0,{vals:=vN [0,3]})]}
def CY:Ann:={iso:=false,kinds:=[(9,.S)],hl:=[14,20,27],nl:=[14,20,27,32,42,50,54,59,63,69,75,83,86,88,91,94,100,101,106,107,112,113,119,120,125,127,129,132,134,135,138,140,143,144],lw:=[6,9],joins:=[(115,{vals:=vN [0,4,5,50,115,7000,7001,7002,7003],locs:=[(6,7000,0)],lbs:=[(7000,4)]})],loops:=[(1,{vals:=vN [0,4,5,8,7000,7001,7002,7003],locs:=[(6,7000,0)],lbs:=[(7000,4)]})],ords:=[(33,[0,1,2,3,4,5,7,6,8])]}
def CZ:Ann:={}
def C0:Ann:={nl:=[15],loops:=[(0,{vals:=vN [0,1,7,8]})]}
def C1:Ann:={nl:=[5,8,12,16,21,27,31,36,41,45,50,53,59,65,70]}
def C2:Ann:={}
def C4:Ann:={joins:=[(4,{vals:=vN [3,4]}),(9,{vals:=vN [3,9]}),(14,{vals:=vN [3,14]}),(25,{vals:=[(25,none)]})]}
def C5:Ann:={lw:=[2]}
def C6:Ann:={lw:=[2]}
def C7:Ann:={iso:=false,nl:=[10,12,16,21,23,27,31,39,41,47,49,55,57,61,63],lw:=[6]}
def Da:Ann:={iso:=false,kinds:=[(7,.S)],nl:=[9,10,13,17],lw:=[7]}
def Db:Ann:={no:=[13,19],nl:=[8,10,16,18],lw:=[6]}
def Dc:Ann:={iso:=false,kinds:=[(9,.S)],hb:=[7,31],no:=[45],nl:=[11,14,19,24,29,33,38,42,43],lw:=[6,7,9,47],loops:=[(0,{vals:=[(0,none),(4,none),(33,none),(34,none),(35,none),(7000,none),(7001,none),(7002,none),(7003,none),(8000,none),(8001,none),(8002,none),(8003,some 4)],locs:=[(6,7000,0),(7,8000,0)],lbs:=[(7000,4),(8000,4)]})],nils:=[(7,[3])]}
def Dd:Ann:={nl:=[15],loops:=[(0,{vals:=vN [0,1,7,8]})]}
def De:Ann:={iso:=false,kinds:=[(8,.S),(12,.S)],no:=[61],nl:=[14,16,20,26,33,37,42,45,50,55,58,59,66],lw:=[6,8,12],joins:=[(17,{vals:=vN [0,4,5,7,7000,7001,7002,7003],locs:=[(6,7000,0)],lbs:=[(7000,4)]})],loops:=[(0,{vals:=[(0,none),(4,none),(7,none),(8,none),(10,some 4),(50,none),(51,none),(52,none),(7000,none),(7001,none),(7002,none),(7003,none)],locs:=[(6,7000,0)],lbs:=[(7000,4)]})]}
def Df:Ann:={iso:=false,kinds:=[(7,.S)],hl:=[47,54,60,69,90,105,110,127],ha:=[77],no:=[76],nl:=[12,15,17,19,22,26,30,35,40,47,54,56,60,69,71,73,84,90,92,95,105,107,110,112,117,119,121,127],lw:=[6,7],joins:=[(49,{vals:=vN [0,5,7,8,7000,7001,7002,7003],locs:=[(6,7000,0)],lbs:=[(7000,4)]}),(113,{vals:=vN [9,10,7000,7001,7002,7003],locs:=[(6,7000,0)],lbs:=[(7000,4)]})],ords:=[(2,[0,1,2,3,4,5,7,6,8])]}
def Dg:Ann:={iso:=false,kinds:=[(5,.S),(6,.S)],no:=[12],nl:=[9,11,15,18,19,24,31,35,38,39],lw:=[5,6]}
def Dh:Ann:={nl:=[11],loops:=[(0,{vals:=vN [3,6,7,8]})]}
def Di:Ann:={iso:=false}
def Dj:Ann:={nl:=[5,6]}
def Dk:Ann:={nl:=[5,6]}
def yI:Ann:={}
def Dl:Ann:={}
def Dm:Ann:={kinds:=[(10,.S)],nl:=[14,17,19,22,35,39,47,55,58],lw:=[9,10,25],joins:=[(15,{vals:=vN [0,1,3,6]}),(23,{vals:=vN [0,1,3,6,10000,10001],locs:=[(9,10000,0)],lbs:=[(10000,2)]})],loops:=[(0,{vals:=vN [0,1,3,6,12]})]}
def Dn:Ann:={nl:=[3]}
def Do:Ann:={iso:=false,hl:=[9],nl:=[9],lw:=[4],joins:=[(10,{vals:=vN [5000,5001,5002,5003],locs:=[(4,5000,0)],lbs:=[(5000,4)]})]}
def Dp:Ann:={joins:=[(4,{vals:=vN [0,3,4]}),(9,{vals:=vN [0,3,9]}),(16,{vals:=vN [0,16]})]}
def Dq:Ann:={lw:=[2,3,6],joins:=[(5,{vals:=vN [3000,3001,3002,3003,4000,4001,4002,4003],locs:=[(2,3000,0),(3,4000,0)],lbs:=[(3000,4),(4000,4)]})]}
def Dt:Ann:={iso:=false,hl:=[59],hb:=[7,34],no:=[52],nl:=[10,13,18,25,32,37,45,47,50,59],lw:=[6,7,54],loops:=[(0,{vals:=[(0,none),(4,none),(5,none),(8,none),(7000,none),(7001,none),(7002,none),(7003,none),(8000,none),(8001,none),(8002,none),(8003,some 4)],locs:=[(6,7000,0),(7,8000,0)],lbs:=[(7000,4),(8000,4)]})],nils:=[(7,[3])]}
def Du:Ann:={iso:=false,kinds:=[(9,.S)],hl:=[20,27,39],no:=[82],nl:=[13,15,20,22,27,30,39,43,46,48,52,58,61,68,75,77,80,86],lw:=[6,9],joins:=[(16,{vals:=vN [0,4,5,7,7000,7001,7002,7003],locs:=[(6,7000,0)],lbs:=[(7000,4)]})],loops:=[(0,{vals:=[(0,none),(4,none),(5,none),(7,none),(9,none),(10,some 4),(11,none),(7000,none),(7001,none),(7002,none),(7003,none)],locs:=[(6,7000,0)],lbs:=[(7000,4)]})]}
def Dv:Ann:={iso:=false,kinds:=[(7,.S)],hl:=[20,51,55,61,65,71,80],ha:=[88],no:=[87],nl:=[10,12,14,20,22,24,29,33,38,43,51,55,61,65,67,71,80,82,84],lw:=[6,7],joins:=[(57,{vals:=vN [0,5,7,8,7000,7001,7002,7003],locs:=[(6,7000,0)],lbs:=[(7000,4)]})],ords:=[(1,[0,1,2,3,4,5,7,6,8])]}
def Dw:Ann:={iso:=false,kinds:=[(9,.S)],hl:=[18,53,58,61,73,79,84],nl:=[11,18,20,23,33,35,47,53,55,58,61,63,65,67,73,79,81,84,86,88],lw:=[6,9],joins:=[(74,{vals:=vN [9,7000,7001,7002,7003],locs:=[(6,7000,0)],lbs:=[(7000,4)]})],loops:=[(0,{vals:=vN [0,4,5,7,8,7000,7001,7002,7003],locs:=[(6,7000,0)],lbs:=[(7000,4)]})],ords:=[(11,[0,1,2,3,4,5,7,6,8])]}
def Dx:Ann:={kinds:=[(3,.L)],no:=[12,20],nl:=[19],lw:=[6,14,22]}
def Dy:Ann:={iso:=false,kinds:=[(7,.S),(9,.S),(10,.S)],hl:=[22,100,121],nl:=[12,14,16,22,24,26,31,37,40,42,45,48,57,62,65,69,72,74,76,79,82,85,88,90,92,94,100,104,109,111,113,115,121,123,126,127,128],lw:=[6,7,9,10],joins:=[(51,{vals:=vN [0,4,5,7,51,7000,7001,7002,7003],locs:=[(6,7000,0)],lbs:=[(7000,4)]})],loops:=[(1,{vals:=vN [0,5,7,8,7000,7001,7002,7003],locs:=[(6,7000,0)],lbs:=[(7000,4)]})],ords:=[(1,[0,1,2,3,4,5,7,6,8]),(24,[0,1,2,3,4,5,7,6,8]),(28,[0,1,2,3,4,5,7,6,8])]}
def Dz:Ann:={}
def DC:Ann:={nl:=[14,18],loops:=[(0,{vals:=vN [0,3]})]}
def DD:Ann:={nl:=[4,5]}
def DF:Ann:={}
def DG:Ann:={}
def ux:Ann:={}
def DI:Ann:={kinds:=[(5,.S)],nl:=[7,12,14],lw:=[5],loops:=[(0,{vals:=vN [3,7,8,9]})]}
def DJ:Ann:={nl:=[15],loops:=[(0,{vals:=vN [0,1,7,8]})]}
def DK:Ann:={nl:=[5,7]}
def I5:Ann:={kinds:=[(3,.S)],nl:=[4,11],lw:=[3],loops:=[(0,{vals:=vN [0,5]})]}
def DL:Ann:={nl:=[10,15,20,23,28,31,35,38,43,48,52,56,62,68,74,77],loops:=[(0,{vals:=vN [1,2,5]})]}
def DN:Ann:={nl:=[14,18],loops:=[(0,{vals:=vN [0,3]})]}
def DO:Ann:={nl:=[3]}
def DR:Ann:={iso:=false,kinds:=[(11,.S)],hl:=[16,22,33,37,76,88],ha:=[49],no:=[48],nl:=[16,22,27,33,37,41,43,63,67,71,76,83,88,92],lw:=[8,9,11],joins:=[(27,{vals:=vN [0,1,3,6,9000,9001,9002,9003],locs:=[(8,9000,0)],lbs:=[(9000,4)]})],loops:=[(0,{vals:=vN [0,3,6,10,9000,9001,9002,9003,10000,10001,10002],locs:=[(8,9000,0),(9,10000,0)],lbs:=[(9000,4),(10000,3)]})]}
def DT:Ann:={iso:=false,kinds:=[(6,.L)],nl:=[15,26,38,47,55,63,71],lw:=[8,49,65,73],joins:=[(1000000,{vals:=vN [7000,7001,7002,7003,9000,9001,9002,9003],locs:=[(6,7000,0),(8,9000,0)],lbs:=[(7000,4),(9000,4)]})]}
def DU:Ann:={nl:=[11,18,21],loops:=[(0,{vals:=vN [1,2,5,6]})]}
noncomputable def Ac:List (Nat×(Func×Ann)):=[
(3,(Tryz.f3,Le)),
(8,(Tryz.f8,Lf)),
(9,(Tryz.f9,Lg)),
(10,(Tryz.f10,HA)),
(11,(Tryz.f11,HB)),
(12,(Tryz.f12,HC)),
(13,(Tryz.f13,HD)),
(14,(Tryz.f14,HE)),
(15,(Tryz.f15,HF)),
(16,(Tryz.f16,HG)),
(17,(Tryz.f17,HH)),
(18,(Tryz.f18,HI)),
(19,(Tryz.f19,HJ)),
(20,(Tryz.f20,HK)),
(21,(Tryz.f21,HL)),
(22,(Tryz.f22,HM)),
(23,(Tryz.f23,HN)),
(32,(Tryz.f32,HO)),
(33,(Tryz.f33,HP)),
(34,(Tryz.f34,HQ)),
(35,(Tryz.f35,HR)),
(36,(Tryz.f36,HS)),
(37,(Tryz.f37,HT)),
(38,(Tryz.f38,HU)),
(39,(Tryz.f39,HV)),
(40,(Tryz.f40,HW)),
(41,(Tryz.f41,HX)),
(42,(Tryz.f42,HY)),
(43,(Tryz.f43,HZ)),
(44,(Tryz.f44,H3)),
(45,(Tryz.f45,H4)),
(46,(Tryz.f46,H5)),
(47,(Tryz.f47,H6)),
(48,(Tryz.f48,H7)),
(49,(Tryz.f49,H8)),
(50,(Tryz.f50,H9)),
(51,(Tryz.f51,Ia)),
(52,(Tryz.f52,Ib)),
(66,(Tryz.f66,DV)),
(67,(Tryz.f67,Ic)),
(69,(Tryz.f69,Ie)),
(70,(Tryz.f70,Ig)),
(71,(Tryz.f71,Ih)),
(72,(Tryz.f72,Ii)),
(73,(Tryz.f73,Ij)),
(74,(Tryz.f74,Ik)),
(75,(Tryz.f75,Il)),
(76,(Tryz.f76,Im)),
(78,(Tryz.f78,Io)),
(79,(Tryz.f79,Ip)),
(80,(Tryz.f80,Iq)),
(81,(Tryz.f81,Ir)),
(82,(Tryz.f82,Is)),
(83,(Tryz.f83,It)),
(84,(Tryz.f84,Iu)),
(85,(Tryz.f85,Iv)),
(86,(Tryz.f86,Iw)),
(87,(Tryz.f87,Ix)),
(89,(Tryz.f89,Iy)),
(90,(Tryz.f90,Iz)),
(91,(Tryz.f91,IA)),
(97,(Tryz.f97,ID)),
(98,(Tryz.f98,IF)),
(102,(Tryz.f102,CS)),
(105,(Tryz.f105,yG)),
(106,(Tryz.f106,yH)),
(107,(Tryz.f107,CU)),
(110,(Tryz.f110,CV)),
(111,(Tryz.f111,CW)),
(112,(Tryz.f112,CX)),
(113,(Tryz.f113,CY)),
(114,(Tryz.f114,CZ)),
(115,(Tryz.f115,C0)),
(116,(Tryz.f116,C1)),
(118,(Tryz.f118,C2)),
(119,(Tryz.f119,C4)),
(120,(Tryz.f120,C5)),
(121,(Tryz.f121,C6)),
(122,(Tryz.f122,C7)),
(123,(Tryz.f123,Da)),
(124,(Tryz.f124,Db)),
(125,(Tryz.f125,Dc)),
(126,(Tryz.f126,Dd)),
(127,(Tryz.f127,De)),
(128,(Tryz.f128,Df)),
(129,(Tryz.f129,Dg)),
(130,(Tryz.f130,Dh)),
(131,(Tryz.f131,Di)),
(138,(Tryz.f138,Dj)),
(139,(Tryz.f139,Dk)),
(141,(Tryz.f141,yI)),
(142,(Tryz.f142,Dl)),
(153,(Tryz.f153,Dm)),
(154,(Tryz.f154,Dn)),
(155,(Tryz.f155,Do)),
(156,(Tryz.f156,Dp)),
(157,(Tryz.f157,Dq)),
(158,(Tryz.f158,Dt)),
(159,(Tryz.f159,Du)),
(160,(Tryz.f160,Dv)),
(161,(Tryz.f161,Dw)),
(162,(Tryz.f162,Dx)),
(163,(Tryz.f163,Dy)),
(164,(Tryz.f164,Dz)),
(165,(Tryz.f165,DC)),
(166,(Tryz.f166,DD)),
(167,(Tryz.f167,DF)),
(168,(Tryz.f168,DG)),
(170,(Tryz.f170,DI)),
(171,(Tryz.f171,DJ)),
(172,(Tryz.f172,DK)),
(173,(Tryz.f173,I5)),
(179,(Tryz.f179,DL)),
(180,(Tryz.f180,DN)),
(181,(Tryz.f181,DO)),
(182,(Tryz.f182,DR)),
(183,(Tryz.f183,DT)),
(185,(Tryz.f185,DU))]
def wF:List (Nat×(Func×Ann))->Nat->Option (Func×Ann)
 |[],_=>none
 |(k,x):: r,t=>bif Nat.beq k t then some x else wF r t
def own:FuncId->Option Nat:=fun f=>bif Nat.beq f 167 then some 1 else bif Nat.beq f 168 then some 4 else none
noncomputable def other:FuncId->Option ((FuncId->List AV->M AV)->List AV->M AV):=fun f=>
 bif Nat.beq f 53 then some (rA)else bif Nat.beq f 64 then some (oc [173,173] 66)else bif Nat.beq f 77 then some (gV 66)else bif Nat.beq f 88 then some (yt 69 .i64 (.agg [.int .i64 0,.int .i64 0,.sl [],.sl []]))else bif Nat.beq f 100 then some (fL T 61)else bif Nat.beq f 169 then some (ki T 28)else none
noncomputable def pg:Pg:={ T:=T,funcs:=wF Ac,own:=own,other:=other,nw:=fun f=>bif Nat.beq f 100 then true else false }
def hOther:ey pg:=by
 intro f E hE call calls hc;have h0:other f=some E:=hE;unfold other at h0;rcases iG h0 with rfl|h0
 ·exact bz.const _
 rcases iG h0 with rfl|h0
 ·exact bz.const _
 rcases iG h0 with rfl|h0
 ·exact bz.const _
 rcases iG h0 with rfl|h0
 ·exact FN _ _ _ _ _ hc
 rcases iG h0 with rfl|h0
 ·exact yW _ _ _ _
 rcases iG h0 with rfl|h0
 ·exact yX _ _ _ _
 cases h0
end Go.Proofs.YtnipfhmghjdnmaaGreat
namespace Go.Proofs.YtnipfhmghjdnmaaGreat
open Go Go.Av Go.Av.Ap
set_option maxRecDepth 100000
@[simp] theorem FA26_0(cs:List AV):ab T 26 (.ip cs) 0=some (.ip (cs.drop 0)):=rfl
@[simp] theorem FH26_0(l k:Nat):ab T 26 (.hp l k) 0=some (.hp l (k+0)):=rfl
@[simp] theorem FA26_1(cs:List AV):ab T 26 (.ip cs) 1=some (.ip (cs.drop 1)):=rfl
@[simp] theorem FH26_1(l k:Nat):ab T 26 (.hp l k) 1=some (.hp l (k+1)):=rfl
@[simp] theorem FA26_2(cs:List AV):ab T 26 (.ip cs) 2=some (.ip (cs.drop 2)):=rfl
@[simp] theorem FH26_2(l k:Nat):ab T 26 (.hp l k) 2=some (.hp l (k+2)):=rfl
@[simp] theorem FA26_3(cs:List AV):ab T 26 (.ip cs) 3=some (.ip (cs.drop 3)):=rfl
@[simp] theorem FH26_3(l k:Nat):ab T 26 (.hp l k) 3=some (.hp l (k+3)):=rfl
@[simp] theorem FA31_0(cs:List AV):ab T 31 (.ip cs) 0=some (.ip (cs.drop 0)):=rfl
@[simp] theorem FH31_0(l k:Nat):ab T 31 (.hp l k) 0=some (.hp l (k+0)):=rfl
@[simp] theorem FA31_1(cs:List AV):ab T 31 (.ip cs) 1=some (.ip (cs.drop 1)):=rfl
@[simp] theorem FH31_1(l k:Nat):ab T 31 (.hp l k) 1=some (.hp l (k+1)):=rfl
@[simp] theorem FA31_2(cs:List AV):ab T 31 (.ip cs) 2=some (.ip (cs.drop 2)):=rfl
@[simp] theorem FH31_2(l k:Nat):ab T 31 (.hp l k) 2=some (.hp l (k+2)):=rfl
@[simp] theorem FA31_3(cs:List AV):ab T 31 (.ip cs) 3=some (.ip (cs.drop 3)):=rfl
@[simp] theorem FH31_3(l k:Nat):ab T 31 (.hp l k) 3=some (.hp l (k+3)):=rfl
@[simp] theorem FA31_4(cs:List AV):ab T 31 (.ip cs) 4=some (.ip (cs.drop 4)):=rfl
@[simp] theorem FH31_4(l k:Nat):ab T 31 (.hp l k) 4=some (.hp l (k+4)):=rfl
@[simp] theorem FA31_5(cs:List AV):ab T 31 (.ip cs) 5=some (.ip (cs.drop 5)):=rfl
@[simp] theorem FH31_5(l k:Nat):ab T 31 (.hp l k) 5=some (.hp l (k+5)):=rfl
@[simp] theorem FA33_1(cs:List AV):ab T 33 (.ip cs) 1=some (.ip (cs.drop 1)):=rfl
@[simp] theorem FH33_1(l k:Nat):ab T 33 (.hp l k) 1=some (.hp l (k+1)):=rfl
@[simp] theorem FA33_2(cs:List AV):ab T 33 (.ip cs) 2=some (.ip (cs.drop 2)):=rfl
@[simp] theorem FH33_2(l k:Nat):ab T 33 (.hp l k) 2=some (.hp l (k+2)):=rfl
@[simp] theorem FA33_3(cs:List AV):ab T 33 (.ip cs) 3=some (.ip (cs.drop 3)):=rfl
@[simp] theorem FH33_3(l k:Nat):ab T 33 (.hp l k) 3=some (.hp l (k+3)):=rfl
@[simp] theorem FA33_4(cs:List AV):ab T 33 (.ip cs) 4=some (.ip (cs.drop 4)):=rfl
@[simp] theorem FH33_4(l k:Nat):ab T 33 (.hp l k) 4=some (.hp l (k+4)):=rfl
@[simp] theorem FA37_0(cs:List AV):ab T 37 (.ip cs) 0=some (.ip (cs.drop 0)):=rfl
@[simp] theorem FH37_0(l k:Nat):ab T 37 (.hp l k) 0=some (.hp l (k+0)):=rfl
@[simp] theorem FA37_1(cs:List AV):ab T 37 (.ip cs) 1=some (.ip (cs.drop 1)):=rfl
@[simp] theorem FH37_1(l k:Nat):ab T 37 (.hp l k) 1=some (.hp l (k+1)):=rfl
@[simp] theorem FA53_0(cs:List AV):ab T 53 (.ip cs) 0=some (.ip (cs.drop 0)):=rfl
@[simp] theorem FH53_0(l k:Nat):ab T 53 (.hp l k) 0=some (.hp l (k+0)):=rfl
@[simp] theorem FA53_1(cs:List AV):ab T 53 (.ip cs) 1=some (.ip (cs.drop 1)):=rfl
@[simp] theorem FH53_1(l k:Nat):ab T 53 (.hp l k) 1=some (.hp l (k+1)):=rfl
@[simp] theorem FA53_2(cs:List AV):ab T 53 (.ip cs) 2=some (.ip (cs.drop 2)):=rfl
@[simp] theorem FH53_2(l k:Nat):ab T 53 (.hp l k) 2=some (.hp l (k+2)):=rfl
@[simp] theorem FA55_0(cs:List AV):ab T 55 (.ip cs) 0=some (.ip (cs.drop 0)):=rfl
@[simp] theorem FH55_0(l k:Nat):ab T 55 (.hp l k) 0=some (.hp l (k+0)):=rfl
@[simp] theorem FA55_1(cs:List AV):ab T 55 (.ip cs) 1=some (.ip (cs.drop 1)):=rfl
@[simp] theorem FH55_1(l k:Nat):ab T 55 (.hp l k) 1=some (.hp l (k+1)):=rfl
@[simp] theorem FA55_2(cs:List AV):ab T 55 (.ip cs) 2=some (.ip (cs.drop 2)):=rfl
@[simp] theorem FH55_2(l k:Nat):ab T 55 (.hp l k) 2=some (.hp l (k+2)):=rfl
@[simp] theorem FA55_3(cs:List AV):ab T 55 (.ip cs) 3=some (.ip (cs.drop 3)):=rfl
@[simp] theorem FH55_3(l k:Nat):ab T 55 (.hp l k) 3=some (.hp l (k+3)):=rfl
@[simp] theorem FA55_4(cs:List AV):ab T 55 (.ip cs) 4=some (.ip (cs.drop 4)):=rfl
@[simp] theorem FH55_4(l k:Nat):ab T 55 (.hp l k) 4=some (.hp l (k+4)):=rfl
@[simp] theorem FA55_6(cs:List AV):ab T 55 (.ip cs) 6=some (.ip (cs.drop 6)):=rfl
@[simp] theorem FH55_6(l k:Nat):ab T 55 (.hp l k) 6=some (.hp l (k+6)):=rfl
@[simp] theorem FA58_0(cs:List AV):ab T 58 (.ip cs) 0=some (.ip (cs.drop 0)):=rfl
@[simp] theorem FH58_0(l k:Nat):ab T 58 (.hp l k) 0=some (.hp l (k+0)):=rfl
@[simp] theorem FA58_1(cs:List AV):ab T 58 (.ip cs) 1=some (.ip (cs.drop 1)):=rfl
@[simp] theorem FH58_1(l k:Nat):ab T 58 (.hp l k) 1=some (.hp l (k+1)):=rfl
@[simp] theorem FA58_2(cs:List AV):ab T 58 (.ip cs) 2=some (.ip (cs.drop 2)):=rfl
@[simp] theorem FH58_2(l k:Nat):ab T 58 (.hp l k) 2=some (.hp l (k+2)):=rfl
@[simp] theorem FA63_0(cs:List AV):ab T 63 (.ip cs) 0=some (.ip (cs.drop 0)):=rfl
@[simp] theorem FH63_0(l k:Nat):ab T 63 (.hp l k) 0=some (.hp l (k+0)):=rfl
@[simp] theorem FA63_1(cs:List AV):ab T 63 (.ip cs) 1=some (.ip (cs.drop 1)):=rfl
@[simp] theorem FH63_1(l k:Nat):ab T 63 (.hp l k) 1=some (.hp l (k+1)):=rfl
@[simp] theorem FA63_2(cs:List AV):ab T 63 (.ip cs) 2=some (.ip (cs.drop 2)):=rfl
@[simp] theorem FH63_2(l k:Nat):ab T 63 (.hp l k) 2=some (.hp l (k+2)):=rfl
@[simp] theorem FA71_0(cs:List AV):ab T 71 (.ip cs) 0=some (.ip (cs.drop 0)):=rfl
@[simp] theorem FH71_0(l k:Nat):ab T 71 (.hp l k) 0=some (.hp l (k+0)):=rfl
@[simp] theorem FA71_1(cs:List AV):ab T 71 (.ip cs) 1=some (.ip (cs.drop 1)):=rfl
@[simp] theorem FH71_1(l k:Nat):ab T 71 (.hp l k) 1=some (.hp l (k+1)):=rfl
@[simp] theorem FA71_2(cs:List AV):ab T 71 (.ip cs) 2=some (.ip (cs.drop 2)):=rfl
@[simp] theorem FH71_2(l k:Nat):ab T 71 (.hp l k) 2=some (.hp l (k+2)):=rfl
@[simp] theorem FA71_3(cs:List AV):ab T 71 (.ip cs) 3=some (.ip (cs.drop 3)):=rfl
@[simp] theorem FH71_3(l k:Nat):ab T 71 (.hp l k) 3=some (.hp l (k+3)):=rfl
@[simp] theorem FA75_0(cs:List AV):ab T 75 (.ip cs) 0=some (.ip (cs.drop 0)):=rfl
@[simp] theorem FH75_0(l k:Nat):ab T 75 (.hp l k) 0=some (.hp l (k+0)):=rfl
@[simp] theorem FA75_2(cs:List AV):ab T 75 (.ip cs) 2=some (.ip (cs.drop 5)):=rfl
@[simp] theorem FH75_2(l k:Nat):ab T 75 (.hp l k) 2=some (.hp l (k+5)):=rfl
@[simp] theorem FA75_3(cs:List AV):ab T 75 (.ip cs) 3=some (.ip (cs.drop 6)):=rfl
@[simp] theorem FH75_3(l k:Nat):ab T 75 (.hp l k) 3=some (.hp l (k+6)):=rfl
@[simp] theorem FA75_4(cs:List AV):ab T 75 (.ip cs) 4=some (.ip (cs.drop 7)):=rfl
@[simp] theorem FH75_4(l k:Nat):ab T 75 (.hp l k) 4=some (.hp l (k+7)):=rfl
@[simp] theorem FA88_1(cs:List AV):ab T 88 (.ip cs) 1=some (.ip (cs.drop 1)):=rfl
@[simp] theorem FH88_1(l k:Nat):ab T 88 (.hp l k) 1=some (.hp l (k+1)):=rfl
@[simp] theorem FA90_0(cs:List AV):ab T 90 (.ip cs) 0=some (.ip (cs.drop 0)):=rfl
@[simp] theorem FH90_0(l k:Nat):ab T 90 (.hp l k) 0=some (.hp l (k+0)):=rfl
@[simp] theorem FA90_1(cs:List AV):ab T 90 (.ip cs) 1=some (.ip (cs.drop 1)):=rfl
@[simp] theorem FH90_1(l k:Nat):ab T 90 (.hp l k) 1=some (.hp l (k+1)):=rfl
@[simp] theorem FA90_2(cs:List AV):ab T 90 (.ip cs) 2=some (.ip (cs.drop 2)):=rfl
@[simp] theorem FH90_2(l k:Nat):ab T 90 (.hp l k) 2=some (.hp l (k+2)):=rfl
@[simp] theorem FA90_3(cs:List AV):ab T 90 (.ip cs) 3=some (.ip (cs.drop 3)):=rfl
@[simp] theorem FH90_3(l k:Nat):ab T 90 (.hp l k) 3=some (.hp l (k+3)):=rfl
@[simp] theorem FA90_5(cs:List AV):ab T 90 (.ip cs) 5=some (.ip (cs.drop 6)):=rfl
@[simp] theorem FH90_5(l k:Nat):ab T 90 (.hp l k) 5=some (.hp l (k+6)):=rfl
@[simp] theorem FA99_0(cs:List AV):ab T 99 (.ip cs) 0=some (.ip (cs.drop 0)):=rfl
@[simp] theorem FH99_0(l k:Nat):ab T 99 (.hp l k) 0=some (.hp l (k+0)):=rfl
@[simp] theorem FA99_1(cs:List AV):ab T 99 (.ip cs) 1=some (.ip (cs.drop 3)):=rfl
@[simp] theorem FH99_1(l k:Nat):ab T 99 (.hp l k) 1=some (.hp l (k+3)):=rfl
@[simp] theorem FA105_0(cs:List AV):ab T 105 (.ip cs) 0=some (.ip (cs.drop 0)):=rfl
@[simp] theorem FH105_0(l k:Nat):ab T 105 (.hp l k) 0=some (.hp l (k+0)):=rfl
@[simp] theorem FA105_1(cs:List AV):ab T 105 (.ip cs) 1=some (.ip (cs.drop 1)):=rfl
@[simp] theorem FH105_1(l k:Nat):ab T 105 (.hp l k) 1=some (.hp l (k+1)):=rfl
@[simp] theorem FA141_0(cs:List AV):ab T 141 (.ip cs) 0=some (.ip (cs.drop 0)):=rfl
@[simp] theorem FH141_0(l k:Nat):ab T 141 (.hp l k) 0=some (.hp l (k+0)):=rfl
@[simp] theorem FA141_1(cs:List AV):ab T 141 (.ip cs) 1=some (.ip (cs.drop 1)):=rfl
@[simp] theorem FH141_1(l k:Nat):ab T 141 (.hp l k) 1=some (.hp l (k+1)):=rfl
@[simp] theorem FA141_2(cs:List AV):ab T 141 (.ip cs) 2=some (.ip (cs.drop 2)):=rfl
@[simp] theorem FH141_2(l k:Nat):ab T 141 (.hp l k) 2=some (.hp l (k+2)):=rfl
@[simp] theorem FA141_3(cs:List AV):ab T 141 (.ip cs) 3=some (.ip (cs.drop 3)):=rfl
@[simp] theorem FH141_3(l k:Nat):ab T 141 (.hp l k) 3=some (.hp l (k+3)):=rfl
@[simp] theorem FA141_4(cs:List AV):ab T 141 (.ip cs) 4=some (.ip (cs.drop 4)):=rfl
@[simp] theorem FH141_4(l k:Nat):ab T 141 (.hp l k) 4=some (.hp l (k+4)):=rfl
@[simp] theorem FA145_0(cs:List AV):ab T 145 (.ip cs) 0=some (.ip (cs.drop 0)):=rfl
@[simp] theorem FH145_0(l k:Nat):ab T 145 (.hp l k) 0=some (.hp l (k+0)):=rfl
@[simp] theorem FA145_1(cs:List AV):ab T 145 (.ip cs) 1=some (.ip (cs.drop 1)):=rfl
@[simp] theorem FH145_1(l k:Nat):ab T 145 (.hp l k) 1=some (.hp l (k+1)):=rfl
@[simp] theorem FA145_2(cs:List AV):ab T 145 (.ip cs) 2=some (.ip (cs.drop 2)):=rfl
@[simp] theorem FH145_2(l k:Nat):ab T 145 (.hp l k) 2=some (.hp l (k+2)):=rfl
@[simp] theorem FA155_1(cs:List AV):ab T 155 (.ip cs) 1=some (.ip (cs.drop 1)):=rfl
@[simp] theorem FH155_1(l k:Nat):ab T 155 (.hp l k) 1=some (.hp l (k+1)):=rfl
@[simp] theorem FA171_0(cs:List AV):ab T 171 (.ip cs) 0=some (.ip (cs.drop 0)):=rfl
@[simp] theorem FH171_0(l k:Nat):ab T 171 (.hp l k) 0=some (.hp l (k+0)):=rfl
@[simp] theorem FA171_1(cs:List AV):ab T 171 (.ip cs) 1=some (.ip (cs.drop 1)):=rfl
@[simp] theorem FH171_1(l k:Nat):ab T 171 (.hp l k) 1=some (.hp l (k+1)):=rfl
@[simp] theorem FA171_2(cs:List AV):ab T 171 (.ip cs) 2=some (.ip (cs.drop 9)):=rfl
@[simp] theorem FH171_2(l k:Nat):ab T 171 (.hp l k) 2=some (.hp l (k+9)):=rfl
@[simp] theorem FA171_3(cs:List AV):ab T 171 (.ip cs) 3=some (.ip (cs.drop 10)):=rfl
@[simp] theorem FH171_3(l k:Nat):ab T 171 (.hp l k) 3=some (.hp l (k+10)):=rfl
@[simp] theorem FA171_4(cs:List AV):ab T 171 (.ip cs) 4=some (.ip (cs.drop 11)):=rfl
@[simp] theorem FH171_4(l k:Nat):ab T 171 (.hp l k) 4=some (.hp l (k+11)):=rfl
@[simp] theorem FA171_5(cs:List AV):ab T 171 (.ip cs) 5=some (.ip (cs.drop 12)):=rfl
@[simp] theorem FH171_5(l k:Nat):ab T 171 (.hp l k) 5=some (.hp l (k+12)):=rfl
@[simp] theorem FA174_0(cs:List AV):ab T 174 (.ip cs) 0=some (.ip (cs.drop 0)):=rfl
@[simp] theorem FH174_0(l k:Nat):ab T 174 (.hp l k) 0=some (.hp l (k+0)):=rfl
@[simp] theorem FA174_1(cs:List AV):ab T 174 (.ip cs) 1=some (.ip (cs.drop 1)):=rfl
@[simp] theorem FH174_1(l k:Nat):ab T 174 (.hp l k) 1=some (.hp l (k+1)):=rfl
@[simp] theorem FA174_2(cs:List AV):ab T 174 (.ip cs) 2=some (.ip (cs.drop 2)):=rfl
@[simp] theorem FH174_2(l k:Nat):ab T 174 (.hp l k) 2=some (.hp l (k+2)):=rfl
@[simp] theorem LD3(x:AV)(l:List AV):af T 3 (.ip (x:: l))=some x:=rfl
@[simp] theorem LD4(x:AV)(l:List AV):af T 4 (.ip (x:: l))=some x:=rfl
@[simp] theorem LD9(x:AV)(l:List AV):af T 9 (.ip (x:: l))=some x:=rfl
@[simp] theorem LD22(x:AV)(l:List AV):af T 22 (.ip (x:: l))=some x:=rfl
@[simp] theorem LD23(x:AV)(l:List AV):af T 23 (.ip (x:: l))=some x:=rfl
@[simp] theorem LD24(x:AV)(l:List AV):af T 24 (.ip (x:: l))=some x:=rfl
@[simp] theorem LD26(cs:List AV):af T 26 (.ip cs)=if 4<=cs.length then some (.agg (cs.take 4))else none:=rfl
@[simp] theorem LD27(x:AV)(l:List AV):af T 27 (.ip (x:: l))=some x:=rfl
@[simp] theorem LD28(x:AV)(l:List AV):af T 28 (.ip (x:: l))=some x:=rfl
@[simp] theorem LD29(x:AV)(l:List AV):af T 29 (.ip (x:: l))=some x:=rfl
@[simp] theorem LD31(cs:List AV):af T 31 (.ip cs)=if 6<=cs.length then some (.agg (cs.take 6))else none:=rfl
@[simp] theorem LD33(cs:List AV):af T 33 (.ip cs)=if 10<=cs.length then some (.agg (cs.take 10))else none:=rfl
@[simp] theorem LD37(cs:List AV):af T 37 (.ip cs)=if 2<=cs.length then some (.agg (cs.take 2))else none:=rfl
@[simp] theorem LD45(x:AV)(l:List AV):af T 45 (.ip (x:: l))=some x:=rfl
@[simp] theorem LD50(x:AV)(l:List AV):af T 50 (.ip (x:: l))=some x:=rfl
@[simp] theorem LD51(x:AV)(l:List AV):af T 51 (.ip (x:: l))=some x:=rfl
@[simp] theorem LD55(cs:List AV):af T 55 (.ip cs)=if 9<=cs.length then some (.agg (cs.take 9))else none:=rfl
@[simp] theorem LD58(cs:List AV):af T 58 (.ip cs)=if 3<=cs.length then some (.agg (cs.take 3))else none:=rfl
@[simp] theorem LD61(x:AV)(l:List AV):af T 61 (.ip (x:: l))=some x:=rfl
@[simp] theorem LD63(cs:List AV):af T 63 (.ip cs)=if 3<=cs.length then some (.agg (cs.take 3))else none:=rfl
@[simp] theorem LD69(x:AV)(l:List AV):af T 69 (.ip (x:: l))=some x:=rfl
@[simp] theorem LD71(cs:List AV):af T 71 (.ip cs)=if 4<=cs.length then some (.agg (cs.take 4))else none:=rfl
@[simp] theorem LD72(x:AV)(l:List AV):af T 72 (.ip (x:: l))=some x:=rfl
@[simp] theorem LD73(x:AV)(l:List AV):af T 73 (.ip (x:: l))=some x:=rfl
@[simp] theorem LD88(cs:List AV):af T 88 (.ip cs)=if 2<=cs.length then some (.agg (cs.take 2))else none:=rfl
@[simp] theorem LD90(cs:List AV):af T 90 (.ip cs)=if 12<=cs.length then some (.agg (cs.take 12))else none:=rfl
@[simp] theorem LD99(cs:List AV):af T 99 (.ip cs)=if 6<=cs.length then some (.agg (cs.take 6))else none:=rfl
@[simp] theorem LD105(cs:List AV):af T 105 (.ip cs)=if 3<=cs.length then some (.agg (cs.take 3))else none:=rfl
@[simp] theorem LD110(x:AV)(l:List AV):af T 110 (.ip (x:: l))=some x:=rfl
@[simp] theorem LD139(x:AV)(l:List AV):af T 139 (.ip (x:: l))=some x:=rfl
@[simp] theorem LD145(cs:List AV):af T 145 (.ip cs)=if 3<=cs.length then some (.agg (cs.take 3))else none:=rfl
@[simp] theorem LD174(cs:List AV):af T 174 (.ip cs)=if 3<=cs.length then some (.agg (cs.take 3))else none:=rfl
@[simp] theorem LD185(x:AV)(l:List AV):af T 185 (.ip (x:: l))=some x:=rfl
@[simp] theorem KU(es:List AV):aJ T 22 (.sl es)=some (.int .i64 es.length):=rfl
@[simp] theorem MA:aJ T 22 .hn=some (.int .i64 0):=rfl
@[simp] theorem Mn(l k n s:Nat)(a:Bool):aJ T 22 (.hs l k n s a)=some (.int .i64 n):=rfl
@[simp] theorem Mg(l:List Mod):aJ T 22 (mods l)=some (.int .i64 l.length):=(KU _).trans (by simp)
@[simp] theorem KV(es:List AV):aJ T 23 (.sl es)=some (.int .i64 es.length):=rfl
@[simp] theorem MB:aJ T 23 .hn=some (.int .i64 0):=rfl
@[simp] theorem Mo(l k n s:Nat)(a:Bool):aJ T 23 (.hs l k n s a)=some (.int .i64 n):=rfl
@[simp] theorem Mh(l:List Ver):aJ T 23 (ol l)=some (.int .i64 l.length):=(KV _).trans (by simp)
@[simp] theorem KW(es:List AV):aJ T 24 (.sl es)=some (.int .i64 es.length):=rfl
@[simp] theorem MC:aJ T 24 .hn=some (.int .i64 0):=rfl
@[simp] theorem Mp(l k n s:Nat)(a:Bool):aJ T 24 (.hs l k n s a)=some (.int .i64 n):=rfl
@[simp] theorem Mi(l:List Ap.Call):aJ T 24 (Ap.calls l)=some (.int .i64 l.length):=(KW _).trans (by simp)
@[simp] theorem KX(es:List AV):aJ T 27 (.sl es)=some (.int .i64 es.length):=rfl
@[simp] theorem MD:aJ T 27 .hn=some (.int .i64 0):=rfl
@[simp] theorem Mq(l k n s:Nat)(a:Bool):aJ T 27 (.hs l k n s a)=some (.int .i64 n):=rfl
@[simp] theorem Mj(l:List Rng):aJ T 27 (kF l)=some (.int .i64 l.length):=(KX _).trans (by simp)
@[simp] theorem KY(es:List AV):aJ T 28 (.sl es)=some (.int .i64 es.length):=rfl
@[simp] theorem ME:aJ T 28 .hn=some (.int .i64 0):=rfl
@[simp] theorem Mr(l k n s:Nat)(a:Bool):aJ T 28 (.hs l k n s a)=some (.int .i64 n):=rfl
@[simp] theorem kV(l:List bk):aJ T 28 (strs l)=some (.int .i64 l.length):=(KY _).trans (by simp)
@[simp] theorem KZ(es:List AV):aJ T 29 (.sl es)=some (.int .i64 es.length):=rfl
@[simp] theorem MF:aJ T 29 .hn=some (.int .i64 0):=rfl
@[simp] theorem Mt(l k n s:Nat)(a:Bool):aJ T 29 (.hs l k n s a)=some (.int .i64 n):=rfl
@[simp] theorem f7(l:List Exp):aJ T 29 (cb l)=some (.int .i64 l.length):=(KZ _).trans (by simp[eO])
@[simp] theorem K3(es:List AV):aJ T 40 (.sl es)=some (.int .i64 es.length):=rfl
@[simp] theorem MG:aJ T 40 .hn=some (.int .i64 0):=rfl
@[simp] theorem Mu(l k n s:Nat)(a:Bool):aJ T 40 (.hs l k n s a)=some (.int .i64 n):=rfl
@[simp] theorem Mk(l:List Seen):aJ T 40 (io l)=some (.int .i64 l.length):=(K3 _).trans (by simp)
@[simp] theorem K4(es:List AV):aJ T 42 (.sl es)=some (.int .i64 es.length):=rfl
@[simp] theorem MH:aJ T 42 .hn=some (.int .i64 0):=rfl
@[simp] theorem Mv(l k n s:Nat)(a:Bool):aJ T 42 (.hs l k n s a)=some (.int .i64 n):=rfl
@[simp] theorem Ml(l:List aG):aJ T 42 (aI l)=some (.int .i64 l.length):=(K4 _).trans (by simp)
@[simp] theorem K5(es:List AV):aJ T 45 (.sl es)=some (.int .i64 es.length):=rfl
@[simp] theorem MI:aJ T 45 .hn=some (.int .i64 0):=rfl
@[simp] theorem Mw(l k n s:Nat)(a:Bool):aJ T 45 (.hs l k n s a)=some (.int .i64 n):=rfl
@[simp] theorem CM(l:List Int):aJ T 45 (ints l)=some (.int .i64 l.length):=(K5 _).trans (by simp)
@[simp] theorem K6(es:List AV):aJ T 50 (.sl es)=some (.int .i64 es.length):=rfl
@[simp] theorem MJ:aJ T 50 .hn=some (.int .i64 0):=rfl
@[simp] theorem Mx(l k n s:Nat)(a:Bool):aJ T 50 (.hs l k n s a)=some (.int .i64 n):=rfl
@[simp] theorem qz(l:List ie):aJ T 50 (di l)=some (.int .i64 l.length):=(K6 _).trans (by simp[iT])
@[simp] theorem K7(es:List AV):aJ T 51 (.sl es)=some (.int .i64 es.length):=rfl
@[simp] theorem MK:aJ T 51 .hn=some (.int .i64 0):=rfl
@[simp] theorem My(l k n s:Nat)(a:Bool):aJ T 51 (.hs l k n s a)=some (.int .i64 n):=rfl
@[simp] theorem Mm(l:List Fun):aJ T 51 (kp l)=some (.int .i64 l.length):=(K7 _).trans (by simp)
@[simp] theorem K8(es:List AV):aJ T 61 (.sl es)=some (.int .i64 es.length):=rfl
@[simp] theorem ML:aJ T 61 .hn=some (.int .i64 0):=rfl
@[simp] theorem Mz(l k n s:Nat)(a:Bool):aJ T 61 (.hs l k n s a)=some (.int .i64 n):=rfl
@[simp] theorem ov(l:List Val):aJ T 61 (vals l)=some (.int .i64 l.length):=(K8 _).trans (by simp[eu])
def fJ{l:List Mod}{n:Int}(h0:0<=n)(h:n<(l.length:Int)):ak T 22 (mods l) (.int .i64 n)=some (.ip (aa (Mod.av l[n.toNat]!))):=ca (T:=T) (t:=22) (e:=55) rfl rfl rfl (fun _=>by first|rfl|(simp;done)|(simp;rfl)) h0 h
def CK{l:List Ver}{n:Int}(h0:0<=n)(h:n<(l.length:Int)):ak T 23 (ol l) (.int .i64 n)=some (.ip (aa (Ver.av l[n.toNat]!))):=ca (T:=T) (t:=23) (e:=58) rfl rfl rfl (fun _=>by first|rfl|(simp;done)|(simp;rfl)) h0 h
def mq{l:List Ap.Call}{n:Int}(h0:0<=n)(h:n<(l.length:Int)):ak T 24 (Ap.calls l) (.int .i64 n)=some (.ip (aa (Ap.Call.av l[n.toNat]!))):=ca (T:=T) (t:=24) (e:=63) rfl rfl rfl (fun _=>by first|rfl|(simp;done)|(simp;rfl)) h0 h
def KT{l:List Rng}{n:Int}(h0:0<=n)(h:n<(l.length:Int)):ak T 27 (kF l) (.int .i64 n)=some (.ip (aa (Rng.av l[n.toNat]!))):=ca (T:=T) (t:=27) (e:=99) rfl rfl rfl (fun _=>by first|rfl|(simp;done)|(simp;rfl)) h0 h
def yE{l:List bk}{n:Int}(h0:0<=n)(h:n<(l.length:Int)):ak T 28 (strs l) (.int .i64 n)=some (.ip (aa (AV.str l[n.toNat]!))):=ca (T:=T) (t:=28) (e:=9) rfl rfl rfl (fun _=>by first|rfl|(simp;done)|(simp;rfl)) h0 h
def kQ{l:List Exp}{n:Int}(h0:0<=n)(h:n<(l.length:Int)):ak T 29 (cb l) (.int .i64 n)=some (.ip (aa (Exp.av l[n.toNat]!))):=by rw[cb,eO];exact ca (T:=T) (t:=29) (e:=31) rfl rfl rfl (fun _=>by first|rfl|(simp;done)|(simp;rfl)) h0 h
def Bh{l:List Seen}{n:Int}(h0:0<=n)(h:n<(l.length:Int)):ak T 40 (io l) (.int .i64 n)=some (.ip (aa (Seen.av l[n.toNat]!))):=ca (T:=T) (t:=40) (e:=26) rfl rfl rfl (fun _=>by first|rfl|(simp;done)|(simp;rfl)) h0 h
def ot{l:List aG}{n:Int}(h0:0<=n)(h:n<(l.length:Int)):ak T 42 (aI l) (.int .i64 n)=some (.ip (aa (bp l[n.toNat]!))):=ca (T:=T) (t:=42) (e:=37) rfl rfl rfl (fun _=>by first|rfl|(simp;done)|(simp;rfl)) h0 h
def Bi{l:List Int}{n:Int}(h0:0<=n)(h:n<(l.length:Int)):ak T 45 (ints l) (.int .i64 n)=some (.ip (aa (AV.int .i64 l[n.toNat]!))):=ca (T:=T) (t:=45) (e:=3) rfl rfl rfl (fun _=>by first|rfl|(simp;done)|(simp;rfl)) h0 h
def un{l:List ie}{n:Int}(h0:0<=n)(h:n<(l.length:Int)):ak T 50 (di l) (.int .i64 n)=some (.ip (aa (dW l[n.toNat]!))):=by rw[di,iT];exact ca (T:=T) (t:=50) (e:=105) rfl rfl rfl (fun _=>by first|rfl|(simp;done)|(simp;rfl)) h0 h
def mr{l:List Fun}{n:Int}(h0:0<=n)(h:n<(l.length:Int)):ak T 51 (kp l) (.int .i64 n)=some (.ip (aa (Fun.av l[n.toNat]!))):=ca (T:=T) (t:=51) (e:=90) rfl rfl rfl (fun _=>by first|rfl|(simp;done)|(simp;rfl)) h0 h
def ou{l:List Val}{n:Int}(h0:0<=n)(h:n<(l.length:Int)):ak T 61 (vals l) (.int .i64 n)=some (.ip (aa (Val.av l[n.toNat]!))):=by rw[vals,eu];exact ca (T:=T) (t:=61) (e:=71) rfl rfl rfl (fun _=>by first|rfl|(simp;done)|(simp;rfl)) h0 h
def yC{a b:List bk}(h:(a.length+b.length)*16<=140737488355328):ck T 28 (strs a) (strs b)=some (strs (a++b)):=by
 have:=kZ (T:=T) (t:=28) (e:=9) rfl rfl rfl (f:=AV.str) (fun _=>by first|rfl|(simp;done)|(simp;rfl)) (a:=a) (b:=b) h (by decide)
 simpa [strs]using this
def KR{a b:List Exp}(h:(a.length+b.length)*96<=140737488355328):ck T 29 (cb a) (cb b)=some (cb (a++b)):=by
 have:=kZ (T:=T) (t:=29) (e:=31) rfl rfl rfl (f:=Exp.av) (fun _=>by first|rfl|(simp;done)|(simp;rfl)) (a:=a) (b:=b) h (by decide)
 simpa [cb,eO]using this
def KS{a b:List aG}(h:(a.length+b.length)*32<=140737488355328):ck T 42 (aI a) (aI b)=some (aI (a++b)):=by
 have:=kZ (T:=T) (t:=42) (e:=37) rfl rfl rfl (f:=bp) (fun _=>by first|rfl|(simp;done)|(simp;rfl)) (a:=a) (b:=b) h (by decide)
 simpa [aI]using this
def FZ{a b:List Int}(h:(a.length+b.length)*8<=140737488355328):ck T 45 (ints a) (ints b)=some (ints (a++b)):=by
 have:=kZ (T:=T) (t:=45) (e:=3) rfl rfl rfl (f:=AV.int .i64) (fun _=>by first|rfl|(simp;done)|(simp;rfl)) (a:=a) (b:=b) h (by decide)
 simpa [ints]using this
def sI{a b:List Val}(h:(a.length+b.length)*64<=140737488355328):ck T 61 (vals a) (vals b)=some (vals (a++b)):=by
 have:=kZ (T:=T) (t:=61) (e:=71) rfl rfl rfl (f:=Val.av) (fun _=>by first|rfl|(simp;done)|(simp;rfl)) (a:=a) (b:=b) h (by decide)
 simpa [vals,eu]using this
theorem Jq(a b:aG):yA T 20 37 (bp a) (bp b)=some (decide (a=b)):=by
 obtain⟨a1,a2⟩:=a;obtain⟨b1,b2⟩:=b;have h:yA T 20 37 (bp (a1,a2)) (bp (b1,b2))=(match some (a1== b1)with|some true=>(match some (a2== b2)with|some true=>some true|some false=>some false|none=>none)|some false=>some false|none=>none):=rfl;rw[h];by_cases h1:a1=b1
 ·by_cases h2:a2=b2
  ·subst h1 h2;simp
  ·have e2:(a2== b2)=false:=Oh.2 h2;subst h1;simp[e2,h2]
 ·have e1:(a1== b1)=false:=Oh.2 h1;simp[e1,h1]
def vg{V:Type}:List (aG×V)->aG->Nat->Option (Nat×V)
 |[],_,_=>none
 |x:: r,k,i=>if x.1=k then some (i,x.2)else vg r k (i+1)
theorem rc{V:Type}(f:V->AV):∀(l:List (aG×V))(k:aG)(i:Nat),bn T 37 (bp k) (l.map (ee f)) i=some ((vg l k i).map fun p=>(p.1,bp k,f p.2))
 |[],k,i=>rfl
 | x:: r,k,i=>by
  simp only[N8,ee,bn,Jq,vg];by_cases h:k=x.1
  ·subst h;simp
  ·have h':¬(x.1=k):=fun e=>h e.symm;simp only[h,OU,h',NK];exact rc f r k (i+1)
theorem xL{V:Type}:∀(l:List (aG×V))(k:aG)(i:Nat),(vg l k i).map (·.2)=fu l k
 |[],_,_=>rfl
 |x:: r,k,i=>by
  simp only[vg,fu];by_cases h:x.1=k
  ·simp[h]
  ·simp only[h,NK];exact xL r k (i+1)
theorem xM{V:Type}(v:V):∀(l:List (aG×V))(k:aG)(i:Nat),(vg l k i=none/\gU l k v=l++[(k,v)])\/∃j u,vg l k i=some (i+j,u)/\j<l.length/\gU l k v=l.set j (k,v)
 |[],k,i=>.inl ⟨rfl,rfl⟩
 | x:: r,k,i=>by
  simp only[vg,gU];by_cases h:x.1=k
  ·exact .inr ⟨0,x.2,by simp[h],by simp,by simp[h]⟩
  ·simp only[h,NK];rcases xM v r k (i+1)with⟨h1,h2⟩|⟨j,u,h1,h2,h3⟩
   ·exact .inl ⟨h1,by rw[h2];rfl⟩
   ·exact .inr ⟨j+1,u,by rw[h1];congr 2;omega,by simpa using h2,by rw[h3];rfl⟩
def A8{V:Type}(f:V->AV)(l:List (aG×V))(k:aG)(v:V):vj T 37 (l.map (ee f)) (bp k) (f v)=some ((gU l k v).map (ee f)):=by
 unfold vj;rw[rc];rcases xM v l k 0 with⟨h1,h2⟩|⟨j,u,h1,h2,h3⟩
 ·rw[h1,h2];simp[ee]
 ·rw[h1,h3];have hs:yc (bp k) (bp k)=true:=by
   show (k.1== k.1&&(k.2== k.2&&true))=true;rw[OB,OB];rfl
  simp only[Oo,hs,NF,NU,List.map_set];rfl
theorem EY{V:Type}(f:V->AV){t et:Nat}{ei:TI}(hm:f5 T t=some (37,et))(he:T et=some ei)(l:List (aG×V))(k:aG)(ok:Bool):
  ly T t (l.map (ee f)) (bp k) ok=some (match fu l k with|some v=>(bif ok then .tup [f v,.bool true]else f v)|none=>(bif ok then .tup [fy ei,.bool false]else fy ei)):=by
 unfold ly;have hc:wi T 20 37 (bp k)=true:=rfl;simp only[hm,hc,NF,he,rc];rw[<- xL l k 0];cases vg l k 0<;>rfl
def pR(n:bk):AV:=.tup [.str n,.bool true]
theorem Nj(a b:bk):yA T 20 9 (.str a) (.str b)=some (a== b):=rfl
theorem oF:∀(l:List bk)(n:bk)(i:Nat),∃r,bn T 9 (.str n) (l.map pR) i=some r/\((n∈l/\∃j,r=some (j,.str n,.bool true))\/(n ∉ l/\r=none))
 |[],n,i=>⟨none,rfl,.inr ⟨by simp,rfl⟩⟩
 | x:: l,n,i=>by
  simp only[N8,pR,bn,Nj];by_cases h:n=x
  ·subst h;exact⟨_,by simp,.inl ⟨by simp,i,rfl⟩⟩
  ·have e:(n== x)=false:=Oh.2 h;rw[e];obtain⟨r,h1,h2⟩:=oF l n (i+1);refine⟨r,h1,?_⟩;rcases h2 with⟨h2,h3⟩|⟨h2,h3⟩
   ·exact .inl ⟨by simp[h2],h3⟩
   ·exact .inr ⟨by simp[h,h2],h3⟩
theorem B9(l:List bk)(n:bk):ly T 148 (l.map pR) (.str n) false=some (.bool (decide (n∈l))):=by
 unfold ly;have hm:f5 T 148=some (9,4):=rfl;have hc:wi T 20 9 (.str n)=true:=rfl;have hz:∃ei,T 4=some ei/\fy ei= .bool false:=⟨_,rfl,rfl⟩;obtain⟨ei,hz1,hz2⟩:=hz;obtain⟨r,h1,h2⟩:=oF l n 0;simp only[hm,hc,NF,hz1,h1];rcases h2 with⟨h2,j,rfl⟩|⟨h2,rfl⟩
 ·simp[h2]
 ·simp[h2,hz2]
def Fj(l:List bk)(n:bk)(h:n ∉ l):vj T 9 (l.map pR) (.str n) (.bool true)=some ((l++[n]).map pR):=by
 unfold vj;obtain⟨r,h1,h2⟩:=oF l n 0;rcases h2 with⟨h2,_⟩|⟨_,rfl⟩
 ·exact absurd h2 h
 ·rw[h1];simp[pR]
theorem E5:f5 T 110=some (37,90):=rfl
theorem E4:f5 T 108=some (37,37):=rfl
theorem LP:f5 T 185=some (37,4):=rfl
theorem LO:f5 T 148=some (9,4):=rfl
end Go.Proofs.YtnipfhmghjdnmaaGreat
namespace Go.Proofs.YtnipfhmghjdnmaaGreat
open Go Go.Av
set_option maxRecDepth 1000000
instance dr0:Dr:=⟨False⟩
def E6{p:Prop}(h:Dr.on):p:=False.elim h
def Kr:(tab.map fun x=>Ks Tryz.prog x.1)=tab.map fun x=>some x.2:=by kernel_rfl
theorem tr:(l:List (Nat×TI))->(t:Nat)->(ti:TI)->AD l t=some ti->(t,ti)∈l
 |[],t,ti,h=>by cases h
 | (k,x):: r,t,ti,h=>by
  simp only[AD]at h;cases hk:Nat.beq k t with
  |true=>
   rw[hk]at h;simp only[NF,NB]at h
   have:=NR hk
   subst this h;exact Oq
  |false=>
   rw[hk]at h;exact OC _ (tr r t ti h)
theorem kw{α β:Type}{f g:α->β}:{l:List α} ->l.map f=l.map g->∀x∈l,f x=g x
 |[],_,x,hx=>by cases hx
 |a:: l,h,x,hx=>by
  simp only[N8,O3]at h;rcases NP.1 hx with rfl|hx
  ·exact h.1
  ·exact kw h.2 x hx
def tok:TOK Tryz.prog T:=⟨fun t ti h=>kw Kr (t,ti) (tr tab t ti h),by kernel_rfl⟩
def Hq:(Ac.map fun x=>Tryz.prog.funcs[x.1]?)=Ac.map fun x=>some x.2.1:=by kernel_rfl
def Ad:(Ac.map fun x=>x.2.1.name== "runtime.NumGoroutine")=Ac.map fun _=>false:=by kernel_rfl
theorem tn:(l:List (Nat×(Func×Ann)))->(t:Nat)->(x:Func×Ann)->wF l t=some x->(t,x)∈l
 |[],t,ti,h=>by cases h
 | (k,x):: r,t,ti,h=>by
  simp only[wF]at h;cases hk:Nat.beq k t with
  |true=>
   rw[hk]at h;simp only[NF,NB]at h
   have:=NR hk
   subst this h;exact Oq
  |false=>
   rw[hk]at h;exact OC _ (tn r t ti h)
def wS:∀f fn a,pg.funcs f=some (fn,a)->Tryz.prog.funcs[f]? = some fn/\(fn.name== "runtime.NumGoroutine")=false:=by
 intro f fn a h
 have:=tn Ac f (fn,a) h
 exact⟨kw Hq _ this,kw Ad _ this⟩
end Go.Proofs.YtnipfhmghjdnmaaGreat
