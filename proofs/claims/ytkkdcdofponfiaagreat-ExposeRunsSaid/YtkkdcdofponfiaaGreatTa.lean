/- What the functions compute, part 1. Conditions: bounds. -/
import Derived.RangeFuncNested
import Derived.RangeFuncBound
import Derived.RangeFuncCalls
import Derived.RangeFuncLeaves
import Derived.RangeFuncBox
import Derived.Shelf.Abstract
import Derived.Shelf.RegionOpen
import Derived.OwnWalkIn
import Derived.TacticsInMore
import Derived.LoopNIn
import Derived.LoopIn
import Derived.Test.YtkkdcdofponfiaaGreatProg
import Derived.Test.YtkkdcdofponfiaaGreatLd
set_option linter.defProp false
set_option linter.unusedSimpArgs false
set_option linter.unusedVariables false
namespace Go
theorem BT{P:Prop}(h:P:=by kernel_rfl):P:=h
end Go
namespace Go.Proofs.YtkkdcdofponfiaaGreat
open Go Go.Av Go.RowKit Go.Shelf
attribute [local go_sem] Oper.semAt_some
structure F12 where
 n:ByteArray
 a1:Value
 a2:Value
 a3:Value
 a4:Value
 a5:Value
 a6:Value
 a7:Value
 a8:Value
 a9:Value
 a10:Value
 a11:Value
instance:Inhabited F12:=⟨⟨⟨#[]⟩,undef,undef,undef,undef,undef,undef,undef,undef,undef,undef,undef⟩⟩
def F12.arr(x:F12):Array Value:=#[.string x.n,x.a1,x.a2,x.a3,x.a4,x.a5,x.a6,x.a7,x.a8,x.a9,x.a10,x.a11]
def F12.v(x:F12):Value:=.agg #[.string x.n,x.a1,x.a2,x.a3,x.a4,x.a5,x.a6,x.a7,x.a8,x.a9,x.a10,x.a11]
def sr(W:World)(b off:Nat)(zs:List F12):Prop:=∀j,j<zs.length->W.cell? ⟨b,off+j*12,none⟩=some (.string (zs[j]?.getD default).n)/\W.cell? ⟨b,off+j*12+1,none⟩=some (zs[j]?.getD default).a1/\W.cell? ⟨b,off+j*12+2,none⟩=some (zs[j]?.getD default).a2/\W.cell? ⟨b,off+j*12+3,none⟩=some (zs[j]?.getD default).a3/\W.cell? ⟨b,off+j*12+4,none⟩=some (zs[j]?.getD default).a4/\W.cell? ⟨b,off+j*12+5,none⟩=some (zs[j]?.getD default).a5/\W.cell? ⟨b,off+j*12+6,none⟩=some (zs[j]?.getD default).a6/\W.cell? ⟨b,off+j*12+7,none⟩=some (zs[j]?.getD default).a7/\W.cell? ⟨b,off+j*12+8,none⟩=some (zs[j]?.getD default).a8/\W.cell? ⟨b,off+j*12+9,none⟩=some (zs[j]?.getD default).a9/\W.cell? ⟨b,off+j*12+10,none⟩=some (zs[j]?.getD default).a10/\W.cell? ⟨b,off+j*12+11,none⟩=some (zs[j]?.getD default).a11
def gx(n₀ bo:Nat)(A B:World):Prop:=∀k,k<n₀->k≠bo->B.heap[k]? = A.heap[k]?
def gx.refl(n₀ bo:Nat)(A:World):gx n₀ bo A A:=fun _ _ _=>rfl
variable {bo n₀:Nat}{A B:World}
def gx.trans{C:World}(h:gx n₀ bo A B)(k:gx n₀ bo B C):gx n₀ bo A C:=fun i hi hn=>(k i hi hn).trans (h i hi hn)
def gx.cell(h:gx n₀ bo A B){b o:Nat}(hb:b<n₀)(hn:b≠bo):B.cell? ⟨b,o,none⟩=A.cell? ⟨b,o,none⟩:=cell_of_heap (h b hb hn) o
def aap(h:Below n₀ A B):gx n₀ bo A B:=fun k hk _=>h.block k hk
def sr.keep(h:gx n₀ bo A B){b off:Nat}(hb:b<n₀)(hn:b≠bo){zs:List F12}(c:sr A b off zs):sr B b off zs:=fun j hj=>by
 have:=c j hj
 simpa only[h.cell hb hn]using this
def PS{C:World}(h:gx n₀ bo A B)(k:gx n₀ bo B C):gx n₀ bo A C:=h.trans k
def PR{w:World}(hn:n₀<=w.heap.size)(W:World)(l:Nat)(o o':Obj)(hl:w.heap.size<=l)(_h:W.heap[l]? = some o)(_:o.isCells=false)(_:o.isWalk=false):gx n₀ bo W (W.putObj l o'):=
 fun k hk _=>World.putObj_heap_other WD
set_option maxRecDepth 100000 in
set_option maxHeartbeats 4000000 in
def Mc(F:Fence)(n:Nat)(h7:F.fn 147)(hro:F.round=none)(hn:1<=n)(l Bs n₀ bo b off cap:Nat)(zs:List F12)(hreach:zs.length<=1000000000)(hb:b<n₀)(hbo:b≠bo)(hBn:Bs<n₀)(hBo:Bs≠bo)(J:Nat->World->Prop)(Jx:World->Prop)
  (hY:∀k W,J k W->k<zs.length->YieldAt F (n-1) Tryz.prog l #[.int .i64 ((zs.length-1-k:Nat):Int),(zs[zs.length-1-k]?.getD default).v] W fun e W'=>
   (e= .returned (.bool true)/\J (k+1) W'/\gx n₀ bo W W')\/(e= .returned (.bool false)/\Jx W'))
  (W:World) (hBs:W.cell? ⟨Bs,0,none⟩=some (.slice (some ⟨b,off,none⟩) zs.length cap)) (hc:sr W b off zs) (h0:J 0 W):
  CallsIn F n Tryz.prog 147 #[.func (.yield l) #[] #[],.pointer (some ⟨Bs,0,none⟩)] W fun e W'=>(∃v,e= .returned v)/\(J zs.length W'\/Jx W'):=by
 refine callsIn_of_wp Tryz.func147 rfl h7 ?_ hro;simp only[Tryz.ntmps147,abp,aaX,aaW,Nat.reduceAdd,Nat.reduceSub,abw,abx,abJ,abC,aaU,aa2]
 gi_wp2
 gi_loopw [3] (fun i wr=>∃k:Nat,k<=zs.length/\i= .int .i64 ((zs.length:Int)-1-k)/\J k wr/\gx n₀ bo W wr)
  (fun i _=>(intOf i+1).toNat)
 case atStart=>exact⟨0,aa1 _,AI,h0,gx.refl _ _ _⟩
 case round=>
  obtain⟨k,hk,rfl,hJs,hnx⟩:=hrel;have hbs:wr.cell? ⟨Bs,0,none⟩=some (.slice (some ⟨b,off,none⟩) zs.length cap):=(hnx.cell hBn hBo).trans hBs;by_cases hlt:k<zs.length
  ·obtain⟨fn,tmps,assign,body,hy,hR⟩:=hY k wr hJs hlt;obtain⟨m,hm⟩:∃m:Nat,(zs.length:Int)-1-k=m:=⟨zs.length-1-k,WD⟩;have hm':zs.length-1-k=m:=WD
   rw[hm']at hy;rw[hm];obtain⟨c0,c1,c2,c3,c4,c5,c6,c7,c8,c9,c10,c11⟩:=(hc.keep hnx hb hbo) m WD;generalize hz:zs[m]?.getD default=z at hy c0 c1 c2 c3 c4 c5 c6 c7 c8 c9 c10 c11;obtain⟨z0,z1,z2,z3,z4,z5,z6,z7,z8,z9,z10,z11⟩:=z;have hml:m<zs.length:=WD
   simp only[F12.v]at hy;simp only at c0 c1 c2 c3 c4 c5 c6 c7 c8 c9 c10 c11
   gi_wp2
   refine hR.mono ?_;rintro e W3 (⟨rfl,hJ3,hk3⟩|⟨rfl,hJx3⟩)
   ·gi_wp2
    go_roundw
    case rel=>exact⟨k+1,WD,by congr 1;omega,hJ3,hnx.trans hk3⟩
    case measure=>simp[intOf]<;>omega
   ·gi_wp2
    refine bodyPost_ret (results_none rfl _ _ _) rfl ?_;exact⟨⟨_,rfl⟩,.inr hJx3⟩
  ·obtain rfl:k=zs.length:=WD
   gi_wp2
   go_end0
   exact⟨⟨_,rfl⟩,.inl hJs⟩
set_option maxRecDepth 100000 in
set_option maxHeartbeats 1000000 in
def Cf(F:Fence)(n:Nat)(h7:F.fn 147)(hro:F.round=none)(l Bs:Nat)(p:Option Addr)(cap:Nat)(J:World->Prop)(W:World)(hBs:W.cell? ⟨Bs,0,none⟩=some (.slice p 0 cap))(h0:J W):
  CallsIn F n Tryz.prog 147 #[.func (.yield l) #[] #[],.pointer (some ⟨Bs,0,none⟩)] W fun e W'=>(∃v,e= .returned v)/\J W':=by
 refine callsIn_of_wp Tryz.func147 rfl h7 ?_ hro;simp only[Tryz.ntmps147,abp,aaX,aaW,Nat.reduceAdd,Nat.reduceSub,abw,abx,abJ,abC,aaU,aa2]
 gi_wp2
 gi_loopw [3] (fun i wr=>i= .int .i64 (-1)/\J wr) (fun _ _=>0)
 case atStart=>exact⟨rfl,h0⟩
 case round=>
  obtain⟨rfl,hJs⟩:=hrel
  gi_wp2
  go_end0
  exact⟨⟨_,rfl⟩,hJs⟩
set_option maxHeartbeats 1000000 in
def O1(F:Fence)(n:Nat)(h5:F.fn 113)(hro:F.round=none)(a:Option Addr)(len cap:Nat)(w:World):
  CallsIn F n Tryz.prog 113 #[.slice a len cap] w fun e w'=>e= .returned (.func (.func 147) #[] #[.pointer (some ⟨w.heap.size,0,none⟩)])/\w'=w.alloc (.cells #[.slice a len cap] 39):=by
 refine callsIn_of_wp Tryz.func113 rfl h5 ?_ hro;simp only[Tryz.ntmps113,abp,aaX,aaW,Nat.reduceAdd,Nat.reduceSub,abw,abx,abJ,abC,aaU,aa2]
 gi_wp2
 go_ret
 exact⟨rfl,rfl⟩
def nk(n₀ bo:Nat)(W:World)(sv:Value)(zs:List F12):Prop:=
 (zs=[]/\∃p cap,sv= .slice p 0 cap)\/∃b off cap,sv= .slice (some ⟨b,off,none⟩) zs.length cap/\b<n₀/\b≠bo/\sr W b off zs
theorem nk.keep(h:gx n₀ bo A B){sv:Value}{zs:List F12}:nk n₀ bo A sv zs->nk n₀ bo B sv zs
 |.inl e=>.inl e
 |.inr ⟨b,off,cap,e,hb,hn,hc⟩=>.inr ⟨b,off,cap,e,hb,hn,hc.keep h hb hn⟩
theorem nk.mono{n n':Nat}(h:n<=n'){W:World}{sv:Value}{zs:List F12}:nk n bo W sv zs->nk n' bo W sv zs
 |.inl e=>.inl e
 |.inr ⟨b,off,cap,e,hb,hn,hc⟩=>.inr ⟨b,off,cap,e,Nat.lt_of_lt_of_le hb h,hn,hc⟩
def GQ(F:Fence)(n:Nat)(h8:F.fn 147)(hro:F.round=none)(hn:1<=n)(Bs bo:Nat)(sv:Value)(zs:List F12)(hreach:zs.length<=1000000000){α:Type}(encs:α->Array Value)(yl:List α)(hl:yl.length=zs.length)(he:∀k (h:k<yl.length),encs (yl[k])= #[.int .i64 ((zs.length-1-k:Nat):Int),(zs[zs.length-1-k]?.getD default).v])(w:World)(hBs:Bs<w.heap.size)(hBo:Bs≠bo)(hc:w.cell? ⟨Bs,0,none⟩=some sv)(hI:nk w.heap.size bo w sv zs):
  SeqStopsK F n Tryz.prog 147 #[.pointer (some ⟨Bs,0,none⟩)] encs (gx w.heap.size bo) (fun ys=>ys=yl) (fun _=>True) zs.length w:=fun l J Jx W hW _ _ hY h0=>by
 have hc':=(hW.cell (p:=⟨Bs,0,none⟩) hBs).trans hc;rcases hI.keep (aap hW)with⟨rfl,p,cap,rfl⟩|⟨b,off,cap,rfl,hb,hb2,hcs⟩
 ·have:yl=[]:=List.length_eq_zero_iff.1 (by simpa using hl);subst this;exact (Cf F n h8 hro l Bs p cap (J []) W hc' h0).mono fun e W' ⟨he,hj⟩=>⟨he,.inl ⟨_,rfl,hj⟩⟩
 ·refine (Mc F n h8 hro hn l Bs w.heap.size bo b off cap zs hreach hb hb2 hBs hBo (fun k W=>J (yl.take k) W) (fun W=>∃pre,True/\Jx pre W) (fun k W hJ hk=>?_) W hc' hcs (by simpa using h0)).mono fun e W' ⟨he,hj⟩=>⟨he,?_⟩
  ·have hka:k<yl.length:=WD
   have h1:=hY (yl.take k) (yl[k]) W hJ (by rw[aci];omega);rw[he k hka]at h1;obtain⟨fn,tmps,assign,body,hy,hR⟩:=h1;refine⟨fn,tmps,assign,body,hy,hR.mono fun e W' h=>?_⟩;rcases h with⟨h2,h3,h4⟩|⟨h2,h3⟩
   ·exact .inl ⟨h2,by rw[List.take_add_one,aaE hka];exact h3,h4⟩
   ·exact .inr ⟨h2,_,trivial,h3⟩
  ·rcases hj with hj|hj
   ·exact .inl ⟨yl,rfl,by rwa [<- hl,acp]at hj⟩
   ·exact .inr hj
end Go.Proofs.YtkkdcdofponfiaaGreat
namespace Go.Proofs.YtkkdcdofponfiaaGreat
open Go Go.Av Go.Av.Ap
abbrev CC:=FuncId->List AV->M AV
abbrev RR:=List AV->M AV
def lb{α β:Type}{m:M α}{f:α->M β}{fs:Nat->α->M β}(hf:cy f fs):dl (ah m f) fun n=>ah m (fs n):=dl.bnd (eT _) hf
abbrev vN(l:List Nat):List (Nat×Option Nat):=l.map fun x=>(x,none)
abbrev tF:TI:=TI.mk false 1 8 .func [] [.nilf] false
@[simp] def tE:Nat->List Nat->List (Nat×(Nat×Bool))
 |_,[]=>[]
 |i,x::l=>(i,(x,true))::tE (i+1) l
@[simp] abbrev tS(c s:Nat)(f:List Nat)(z:List AV)(b:Bool):TI:=TI.mk true c s .struct (tE 0 f) z b
noncomputable def tab:List (Nat×TI):=[
(0,(TI.mk false 1 0 .other [] [.any] false)),
(1,tF),
(2,(TI.mk false 1 8 (.int .i64) [] [qi 0] false)),
(3,(TI.mk false 1 8 (.int .i64) [] [qi 0] false)),
(4,(TI.mk false 1 1 .bool [] [.bool false] false)),
(5,(TI.mk false 1 1 (.int .u8) [] [.int .u8 0] false)),
(6,(TI.mk false 1 1 (.int .u8) [] [.int .u8 0] false)),
(7,(tS 4 24 [2,3,4,6] [qi 0,qi 0,.bool false,.int .u8 0] true)),
(8,(tS 4 24 [2,3,4,6] [qi 0,qi 0,.bool false,.int .u8 0] true)),
(9,(TI.mk false 1 16 .str [] [.str []] false)),
(10,(TI.mk false 1 16 .str [] [.str []] false)),
(11,(TI.mk false 1 16 .str [] [.str []] false)),
(12,(TI.mk false 1 8 (.int .u64) [] [.int .u64 0] false)),
(13,(tS 2 24 [9,12] [.str [],.int .u64 0] false)),
(14,(tS 2 24 [9,12] [.str [],.int .u64 0] false)),
(15,(TI.mk false 1 8 .ptr [] [.nilp] false)),
(16,(TI.mk false 1 8 .ptr [] [.nilp] false)),
(17,(TI.mk false 1 8 .ptr [] [.nilp] false)),
(18,(tS 1 8 [17] [.nilp] false)),
(19,(tS 1 8 [17] [.nilp] false)),
(20,(TI.mk false 1 16 .iface [] [.nili] false)),
(21,(TI.mk false 1 4 (.int .i32) [] [.int .i32 0] false)),
(22,(TI.mk false 1 24 (.slice 43) [] [.sl []] false)),
(23,(TI.mk false 1 24 (.slice 75) [] [.sl []] false)),
(24,(TI.mk false 1 24 (.slice 65) [] [.sl []] false)),
(25,(tS 4 80 [22,23,24,4] [.sl [],.sl [],.sl [],.bool false] true)),
(26,(tS 4 80 [22,23,24,4] [.sl [],.sl [],.sl [],.bool false] true)),
(27,(TI.mk false 1 24 (.slice 103) [] [.sl []] false)),
(28,(TI.mk false 1 24 (.slice 9) [] [.sl []] false)),
(29,(TI.mk false 1 24 (.slice 31) [] [.sl []] false)),
(30,(tS 6 96 [3,3,9,9,28,29] [qi 0,qi 0,.str [],.str [],.sl [],.sl []] true)),
(31,(tS 6 96 [3,3,9,9,28,29] [qi 0,qi 0,.str [],.str [],.sl [],.sl []] true)),
(32,(tS 10 160 [3,9,27,9,31] [qi 0,.str [],.sl [],.str [],qi 0,qi 0,.str [],.str [],.sl [],.sl []] true)),
(33,(tS 10 160 [3,9,27,9,31] [qi 0,.str [],.sl [],.str [],qi 0,qi 0,.str [],.str [],.sl [],.sl []] true)),
(34,(TI.mk false 1 24 (.slice 47) [] [.sl []] false)),
(35,(TI.mk false 1 24 (.slice 3) [] [.sl []] false)),
(36,tF),
(37,tF),
(38,(TI.mk false 1 24 (.slice 96) [] [.sl []] false)),
(39,(TI.mk false 1 24 (.slice 51) [] [.sl []] false)),
(40,(tS 3 72 [38,29,29] [.sl [],.sl [],.sl []] true)),
(41,(tS 3 72 [38,29,29] [.sl [],.sl [],.sl []] true)),
(42,(tS 9 192 [9,28,38,29,39,4,41] [.str [],.sl [],.sl [],.sl [],.sl [],.bool false,.sl [],.sl [],.sl []] true)),
(43,(tS 9 192 [9,28,38,29,39,4,41] [.str [],.sl [],.sl [],.sl [],.sl [],.bool false,.sl [],.sl [],.sl []] true)),
(44,tF),
(45,tF),
(46,(tS 4 64 [3,3,28,34] [qi 0,qi 0,.sl [],.sl []] true)),
(47,(tS 4 64 [3,3,28,34] [qi 0,qi 0,.sl [],.sl []] true)),
(48,(tS 2 32 [3,38] [qi 0,.sl []] true)),
(49,(tS 2 32 [3,38] [qi 0,.sl []] true)),
(50,(TI.mk true 12 184 .struct [(0,((9,true))),(1,((4,true))),(2,((38,true))),(3,((49,true))),(5,((3,true))),(6,((31,true)))] [.str [],.bool false,.sl [],qi 0,.sl [],qi 0,qi 0,qi 0,.str [],.str [],.sl [],.sl []] true)),
(51,(TI.mk true 12 184 .struct [(0,((9,true))),(1,((4,true))),(2,((38,true))),(3,((49,true))),(5,((3,true))),(6,((31,true)))] [.str [],.bool false,.sl [],qi 0,.sl [],qi 0,qi 0,qi 0,.str [],.str [],.sl [],.sl []] true)),
(52,(tS 2 32 [9,9] [.str [],.str []] true)),
(53,(tS 2 32 [9,9] [.str [],.str []] true)),
(54,(TI.mk false 1 0 .other [] [.any] false)),
(55,tF),
(56,(TI.mk false 1 8 (.int .i64) [] [qi 0] false)),
(57,(TI.mk false 1 24 (.slice 224) [] [.sl []] false)),
(58,(TI.mk false 1 24 (.slice 131) [] [.sl []] false)),
(59,(TI.mk true 8 144 .struct [(0,((56,true))),(1,((47,true))),(5,((57,true))),(6,((24,true))),(7,((58,true)))] [qi 0,qi 0,qi 0,.sl [],.sl [],.sl [],.sl [],.sl []] true)),
(60,(TI.mk true 8 144 .struct [(0,((56,true))),(1,((47,true))),(5,((57,true))),(6,((24,true))),(7,((58,true)))] [qi 0,qi 0,qi 0,.sl [],.sl [],.sl [],.sl [],.sl []] true)),
(61,tF),
(62,tF),
(63,tF),
(64,(tS 3 56 [9,9,34] [.str [],.str [],.sl []] true)),
(65,(tS 3 56 [9,9,34] [.str [],.str [],.sl []] true)),
(66,tF),
(67,tF),
(68,(TI.mk false 1 24 (.slice 53) [] [.sl []] false)),
(69,tF),
(70,tF),
(71,tF),
(72,tF),
(73,tF),
(74,(tS 3 24 [3,3,3] [qi 0,qi 0,qi 0] true)),
(75,(tS 3 24 [3,3,3] [qi 0,qi 0,qi 0] true)),
(76,tF),
(77,tF),
(78,tF),
(79,tF),
(80,(TI.mk false 1 24 (.slice 26) [] [.sl []] false)),
(81,tF),
(82,tF),
(83,(TI.mk false 1 24 (.slice 88) [] [.sl []] false)),
(84,(TI.mk false 1 0 .other [] [.any] false)),
(85,tF),
(86,(TI.mk false 1 24 (.slice 121) [] [.sl []] false)),
(87,(tS 2 40 [9,86] [.str [],.sl []] true)),
(88,(tS 2 40 [9,86] [.str [],.sl []] true)),
(89,tF),
(90,(TI.mk false 1 0 .other [] [.any] false)),
(91,tF),
(92,(TI.mk false 1 0 .other [] [.any] false)),
(93,tF),
(94,tF),
(95,(tS 3 48 [9,49] [.str [],qi 0,.sl []] true)),
(96,(tS 3 48 [9,49] [.str [],qi 0,.sl []] true)),
(97,(TI.mk false 1 0 .other [] [.any] false)),
(98,tF),
(99,(TI.mk false 1 0 .other [] [.any] false)),
(100,tF),
(101,tF),
(102,(TI.mk true 6 48 .struct [(0,((75,true))),(3,((75,true)))] [qi 0,qi 0,qi 0,qi 0,qi 0,qi 0] true)),
(103,(TI.mk true 6 48 .struct [(0,((75,true))),(3,((75,true)))] [qi 0,qi 0,qi 0,qi 0,qi 0,qi 0] true)),
(104,tF),
(105,tF),
(106,tF),
(107,(TI.mk false 1 8 .ptr [] [.nilp] false)),
(108,(TI.mk false 1 0 .other [] [.any] false)),
(109,tF),
(110,(TI.mk false 1 0 .other [] [.any] false)),
(111,(TI.mk false 1 8 (.map 9 88) [] [.nilm] false)),
(112,(TI.mk true 11 208 .struct [(0,((43,true))),(9,((111,true))),(10,((3,true)))] [.str [],.sl [],.sl [],.sl [],.sl [],.bool false,.sl [],.sl [],.sl [],.nilm,qi 0] true)),
(113,(TI.mk true 11 208 .struct [(0,((43,true))),(9,((111,true))),(10,((3,true)))] [.str [],.sl [],.sl [],.sl [],.sl [],.bool false,.sl [],.sl [],.sl [],.nilm,qi 0] true)),
(114,tF),
(115,(TI.mk false 1 0 .other [] [.any] false)),
(116,tF),
(117,tF),
(118,tF),
(119,(TI.mk false 1 24 (.slice 49) [] [.sl []] false)),
(120,(TI.mk true 5 80 .struct [(0,((9,true))),(1,((119,true))),(2,((49,true))),(4,((3,true)))] [.str [],.sl [],qi 0,.sl [],qi 0] true)),
(121,(TI.mk true 5 80 .struct [(0,((9,true))),(1,((119,true))),(2,((49,true))),(4,((3,true)))] [.str [],.sl [],qi 0,.sl [],qi 0] true)),
(122,tF),
(123,tF),
(124,tF),
(125,tF),
(126,tF),
(127,tF),
(128,tF),
(129,tF),
(130,(tS 2 40 [9,34] [.str [],.sl []] true)),
(131,(tS 2 40 [9,34] [.str [],.sl []] true)),
(132,tF),
(133,(TI.mk false 1 8 .ptr [] [.nilp] false)),
(134,(tS 12 208 [22,35,3,3,60] [.sl [],.sl [],qi 0,qi 0,qi 0,qi 0,qi 0,.sl [],.sl [],.sl [],.sl [],.sl []] true)),
(135,(tS 12 208 [22,35,3,3,60] [.sl [],.sl [],qi 0,qi 0,qi 0,qi 0,qi 0,.sl [],.sl [],.sl [],.sl [],.sl []] true)),
(136,tF),
(137,tF),
(138,tF),
(139,tF),
(140,tF),
(141,tF),
(142,tF),
(143,tF),
(144,tF),
(145,(tS 3 56 [3,28,34] [qi 0,.sl [],.sl []] true)),
(146,(tS 3 56 [3,28,34] [qi 0,.sl [],.sl []] true)),
(147,tF),
(148,(TI.mk false 1 8 (.map 53 51) [] [.nilm] false)),
(149,tF),
(150,(TI.mk false 1 8 (.map 53 53) [] [.nilm] false)),
(151,tF),
(152,tF),
(153,tF),
(154,tF),
(155,tF),
(156,(TI.mk false 1 8 (.map 9 4) [] [.nilm] false)),
(157,tF),
(158,tF),
(159,tF),
(160,tF),
(161,tF),
(162,(TI.mk false 1 0 .other [] [.any] false)),
(163,tF),
(164,tF),
(165,(TI.mk false 1 0 .other [] [.any] false)),
(166,tF),
(167,tF),
(168,tF),
(169,tF),
(170,tF),
(171,tF),
(172,(TI.mk false 1 8 (.int .u64) [] [.int .u64 0] false)),
(173,tF),
(174,tF),
(175,tF),
(176,tF),
(177,tF),
(178,tF),
(179,tF),
(180,tF),
(181,tF),
(182,tF),
(183,tF),
(184,tF),
(185,tF),
(186,tF),
(187,tF),
(188,tF),
(189,tF),
(190,tF),
(191,tF),
(192,tF),
(193,tF),
(194,tF),
(195,tF),
(196,tF),
(197,tF),
(198,tF),
(199,tF),
(200,tF),
(201,(TI.mk false 1 0 .other [] [.any] false)),
(202,tF),
(203,tF),
(204,tF),
(205,tF),
(206,tF),
(207,(TI.mk false 1 8 (.int .i64) [] [qi 0] false)),
(208,(TI.mk false 1 0 .other [] [.any] false)),
(209,tF),
(210,tF),
(211,tF),
(212,(TI.mk false 1 0 .other [] [.any] false)),
(213,tF),
(214,tF),
(215,(TI.mk false 1 4 (.int .u32) [] [.int .u32 0] false)),
(216,tF),
(217,(TI.mk false 1 8 (.int .u64) [] [.int .u64 0] false)),
(218,tF),
(219,tF),
(220,tF),
(221,tF),
(222,tF),
(223,(tS 3 24 [3,3,3] [qi 0,qi 0,qi 0] true)),
(224,(tS 3 24 [3,3,3] [qi 0,qi 0,qi 0] true)),
(225,tF),
(226,(TI.mk false 1 8 (.map 53 4) [] [.nilm] false)),
(227,tF),
(228,tF),
(229,tF),
(230,tF),
(231,tF),
(232,tF),
(233,tF),
(234,tF),
(235,tF),
(236,tF),
(237,tF),
(238,tF),
(239,tF),
(240,tF),
(241,(TI.mk false 1 0 .other [] [.any] false)),
(242,tF),
(243,tF),
(244,tF),
(245,tF),
(246,tF),
(247,(TI.mk false 1 8 (.int .u64) [] [.int .u64 0] false)),
(248,tF),
(249,tF),
(250,tF),
(251,(TI.mk false 1 8 .ptr [] [.nilp] false)),
(252,tF),
(253,tF),
(254,tF),
(255,tF),
(256,tF),
(257,tF),
(258,(TI.mk false 1 8 .ptr [] [.nilp] false)),
(259,(TI.mk false 1 0 .other [] [.any] false)),
(260,tF),
(261,tF),
(262,tF),
(263,tF),
(264,(TI.mk false 1 0 .other [] [.any] false)),
(265,tF),
(266,tF),
(267,(tS 4 40 [17,17,17,9] [.nilp,.nilp,.nilp,.str []] false)),
(268,(tS 4 40 [17,17,17,9] [.nilp,.nilp,.nilp,.str []] false)),
(269,(TI.mk true 0 0 (.array 0 16) [] [] false)),
(270,(TI.mk true 0 0 .struct [(0,((269,false)))] [] false)),
(271,(TI.mk true 0 0 .struct [(0,((269,false)))] [] false)),
(272,tF),
(273,(TI.mk false 1 1 (.int .u8) [] [.int .u8 0] false)),
(274,(TI.mk false 1 1 (.int .u8) [] [.int .u8 0] false)),
(275,tF),
(276,(TI.mk false 1 8 .ptr [] [.nilp] false)),
(277,(TI.mk false 1 4 (.int .i32) [] [.int .i32 0] false)),
(278,(TI.mk false 1 4 (.int .i32) [] [.int .i32 0] false)),
(279,(tS 11 48 [12,12,215,273,5,5,274,275,276,277,278] [.int .u64 0,.int .u64 0,.int .u32 0,.int .u8 0,.int .u8 0,.int .u8 0,.int .u8 0,.nilf,.nilp,.int .i32 0,.int .i32 0] false)),
(280,(tS 11 48 [12,12,215,273,5,5,274,275,276,277,278] [.int .u64 0,.int .u64 0,.int .u32 0,.int .u8 0,.int .u8 0,.int .u8 0,.int .u8 0,.nilf,.nilp,.int .i32 0,.int .i32 0] false)),
(281,(TI.mk false 1 8 .other [] [.nilp] false))]
def I6:List (Nat×TI)->Nat->Option TI
 |[],_=>none
 |(k,x):: r,t=>bif Nat.beq k t then some x else I6 r t
noncomputable def T:TT:=I6 tab
def Zq:Ann:={kinds:=[(7,.L),(16,.S),(18,.S),(19,.S),(21,.S),(22,.S)],nl:=[34,71,77,97,102,105,108,115,117,126,128,137,142,144,162,172,174,182,186,188,196,199,202,209,213,216,223,227,231,234,237,239],lw:=[16,18,19,21,22,23,32,224,225,229],joins:=[(1000005,{vals:=vN [8,15,16,18,19,21,22,24,25,8000,8001,8002,8003,24000,24001,24002,24003,24004,24005,24006,24007,24008,24009,24010,24011],locs:=[(7,8000,0),(23,24000,0)],lbs:=[(8000,4),(24000,12)]})],loops:=[(0,{vals:=vN [3,4,5,6,8,15,16,17,8000,8001,8002,8003],locs:=[(7,8000,0)],lbs:=[(8000,4)]}),(2,{vals:=vN [8,15,16,18,19,21,22,24,8000,8001,8002,8003,24000,24001,24002,24003,24004,24005,24006,24007,24008,24009,24010,24011],locs:=[(7,8000,0),(23,24000,0)],lbs:=[(8000,4),(24000,12)]}),(4,{vals:=vN [8,15,16,18,19,21,22,24,25,8000,8001,8002,8003,24000,24001,24002,24003,24004,24005,24006,24007,24008,24009,24010,24011],locs:=[(7,8000,0),(23,24000,0)],lbs:=[(8000,4),(24000,12)]}),(6,{vals:=vN [8,15,16,18,21,22,26,27,8000,8001,8002,8003,24000,24001,24002,24003,24004,24005,24006,24007,24008,24009,24010,24011],locs:=[(7,8000,0),(23,24000,0)],lbs:=[(8000,4),(24000,12)]})]}
def Zr:Ann:={kinds:=[(1,.S),(2,.S),(6,.S)],no:=[16,21,26,36,73,102,105],nl:=[29,30,39,42,46,47,53,54,60,66,71,77,83,90,100,103],lw:=[1,2,3,4,5,6,17,22,27]}
def Zs:Ann:={nl:=[12,22,26,31,35,41,45,51,54,60,64,70,74,77,82,86,92,96,100,105,109,113,119,129,133,138,142,148,152,155,159,164,170,176,182],loops:=[(0,{vals:=vN [2,3,5]}),(2,{vals:=vN [2,3,5,6]}),(4,{vals:=vN [2,3,5,7]}),(6,{vals:=vN [2,3,8]}),(8,{vals:=vN [2,3,8,9]})]}
def Zt:Ann:={no:=[30],nl:=[17,28],loops:=[(0,{vals:=[(0,none),(3,some 2),(4,none)]})]}
def Zu:Ann:={nl:=[15,27,30],loops:=[(0,{vals:=vN [1,2,3,7,8]})]}
def Zv:Ann:={kinds:=[(6,.S)],nl:=[9,10,18,20],lw:=[4,6]}
def Zw:Ann:={lw:=[12]}
def VP:Ann:={ha:=[17,23],hb:=[38],fz:=[38],no:=[39],nl:=[16,22],lw:=[5,24],loops:=[(0,{vals:=[(0,none),(3,some 9),(4,none)]}),(2,{vals:=[(0,none),(3,some 9),(4,none),(6,none),(6000,none),(6001,none),(6002,none),(6003,none),(6004,none),(6005,none),(6006,none),(6007,none),(6008,none)],locs:=[(5,6000,0)],lbs:=[(6000,9)]})]}
def VQ:Ann:={kinds:=[(9,.S)],no:=[43],nl:=[12,14,18,20,25,42,47,50,58,63],lw:=[9],loops:=[(0,{vals:=[(1,none),(3,none),(5,none),(7,some 1),(8,none)]})]}
def VS:Ann:={kinds:=[(5,.S),(9,.S)],nl:=[13,14,18,19,23,24,34,37,42,44,45,46,53,58,60],lw:=[5,9],loops:=[(0,{vals:=vN [3,5,7,37,38,39]})]}
def VT:Ann:={nl:=[15,16],loops:=[(0,{vals:=vN [0,3,5]})]}
def VU:Ann:={kinds:=[(5,.S)],nl:=[8,9,16,17],lw:=[5]}
def VV:Ann:={kinds:=[(1,.S)],no:=[4,9],nl:=[10],lw:=[0,1]}
def VW:Ann:={kinds:=[(3,.S),(4,.S),(5,.S)],no:=[9,13,15,18,20,23,25,29],nl:=[10,14,19,22],lw:=[2,3,4,5]}
def VX:Ann:={no:=[11],lw:=[6]}
def VY:Ann:={nl:=[20,24],loops:=[(0,{vals:=vN [0,1,5]})]}
def VZ:Ann:={nl:=[20,24],loops:=[(0,{vals:=vN [0,1,5]})]}
def V0:Ann:={kinds:=[(5,.S),(9,.S)],no:=[38],nl:=[13,14,21,27,29,30,31],lw:=[5,9],loops:=[(0,{vals:=[(3,none),(5,none),(7,some 1),(21,none),(22,none),(23,none)]})]}
def V1:Ann:={kinds:=[(7,.S)],no:=[26],nl:=[14,16,19,20],lw:=[7],loops:=[(0,{vals:=[(3,none),(5,some 1),(8,none),(9,none),(10,none)]})]}
def V2:Ann:={nl:=[8,18,22,27,31,38,41,48,51,65,69,74,80,86,93],loops:=[(0,{vals:=vN [1,3]}),(2,{vals:=vN [1,4,5]})]}
def V3:Ann:={nl:=[15,27,30],loops:=[(0,{vals:=vN [1,2,3,7,8]})]}
def V4:Ann:={kinds:=[(10,.S),(15,.S),(16,.S)],hl:=[42,103],nl:=[19,27,32,37,42,52,58,67,72,79,81,89,92,94,98,103,105,109],lw:=[10,15,16],loops:=[(0,{vals:=vN [2,6,32,33,34]}),(2,{vals:=vN [6,67,68,69]})]}
def V5:Ann:={kinds:=[(5,.S),(8,.S)],ha:=[54],hb:=[6,15,33],no:=[46,53],nl:=[9,14,17,22,24,27,29,32,35,40,44],lw:=[2,3,5,6,8,48,55],loops:=[(0,{vals:=vN [17,18,19,3000,3001,4000,4001],locs:=[(2,3000,0),(3,4000,0)],lbs:=[(3000,2),(4000,2)]}),(2,{vals:=[(17,none),(18,none),(19,none),(35,none),(36,none),(37,none),(3000,none),(3001,none),(4000,none),(4001,none),(7000,none),(7001,some 2),(7002,none),(7003,none),(7004,none)],locs:=[(2,3000,0),(3,4000,0),(6,7000,0)],lbs:=[(3000,2),(4000,2),(7000,5)]})],ords:=[(8,[0,1,2,3,5,6,8,4,7,9])],nils:=[(6,[1])]}
def V6:Ann:={nl:=[9,17,23,25,28,34,38,45,49,52],lw:=[4]}
def V7:Ann:={kinds:=[(7,.S),(10,.S),(11,.S)],hb:=[8,26],no:=[52,58],nl:=[23,25,28,31,35,40,42,51],lw:=[7,8,10,11,54],loops:=[(0,{vals:=[(5,some 2),(18,none),(19,none),(20,none)]}),(2,{vals:=[(5,some 2),(18,none),(19,none),(20,none),(35,none),(36,none),(37,none),(9000,none),(9001,some 4)],locs:=[(8,9000,0)],lbs:=[(9000,2)]})],nils:=[(8,[1])]}
def V8:Ann:={kinds:=[(16,.S),(17,.S),(18,.S),(21,.S),(45,.H)],hl:=[81,110],ha:=[89],hb:=[44],no:=[88],nl:=[46,50,51,59,62,66,75,76,77,81,83,85,95,96,107,110],lw:=[14,16,17,18,21],loops:=[(0,{vals:=vN [11,16,17,18,70,71,72,15000,15001,15002,15003,15004,15005,15006,15007],locs:=[(14,15000,0)],lbs:=[(15000,8)]})]}
def V9:Ann:={kinds:=[(8,.S),(20,.H)],hb:=[19],nl:=[9,11,15],lw:=[6,8]}
def Wa:Ann:={kinds:=[(10,.S),(11,.S)],no:=[44],nl:=[14,16,20,22,27,30,35,40,43,49,52,60,64],lw:=[10,11],loops:=[(0,{vals:=[(4,none),(5,none),(8,some 1),(35,none),(36,none),(37,none)]})]}
def Wb:Ann:={nl:=[6]}
def Wc:Ann:={kinds:=[(7,.S),(8,.S),(9,.S)],ha:=[36],hb:=[6],no:=[35],nl:=[22,24,31,34],lw:=[7,8,9],rz:=true,loops:=[(0,{vals:=vN [3,5,6,14]})],ords:=[(6,[0,1,3,8,2,4,5,6,7,9,10])]}
def Wd:Ann:={lw:=[2]}
def We:Ann:={nl:=[18],loops:=[(0,{vals:=vN [0,3]})]}
def Wg:Ann:={nl:=[15,27,31],loops:=[(0,{vals:=vN [1,2,3,7,8]})]}
def Wh:Ann:={iso:=false,kinds:=[(8,.S),(10,.S),(11,.S),(16,.H)],hl:=[44,55],hb:=[15],nl:=[13,22,24,29,31,36,44,46,55,57,58],lw:=[8,10,11],loops:=[(0,{vals:=vN [6,17,18,19]}),(2,{vals:=vN [6,8,17,18,19,24,25,26]})]}
def Wi:Ann:={kinds:=[(8,.S)],nl:=[13,18,32,37,40,44,50,56,62,68,74,77,82,88,94,100,102,109,112,115,121,126,133],lw:=[8],joins:=[(116,{vals:=vN [1,9,10]})],loops:=[(0,{vals:=vN [1,3,13,14,15]}),(2,{vals:=vN [1,6,32,33,34]})]}
def Wj:Ann:={kinds:=[(5,.S),(8,.S),(11,.S)],nl:=[14,20,22,24,27,29,34,38,41,47,49,52,55,58,60,65,70,76,78,80,83,86,88,93],lw:=[5,8,11],loops:=[(0,{vals:=vN [1,14,15,16]}),(2,{vals:=vN [1,41,42,43]}),(4,{vals:=vN [1,70,71,72]})]}
def Wk:Ann:={iso:=false,kinds:=[(8,.S),(10,.S)],hl:=[95],no:=[51],nl:=[15,21,26,34,36,48,49,54,56,65,73,81,90,95,97,101],lw:=[6,8,10],joins:=[(60,{vals:=vN [0,1,5,15,60,7000,7001],locs:=[(6,7000,0)],lbs:=[(7000,2)]}),(91,{vals:=vN [5,12,7000,7001],locs:=[(6,7000,0)],lbs:=[(7000,2)]})],ords:=[(11,[0,1,3,4,5,6,7,9,10,11,12,2,8,13,14,15,16,17])]}
def Wl:Ann:={nl:=[6,8,12]}
def LZ:Ann:={kinds:=[(1,.L),(4,.S)],nl:=[16,21],lw:=[2,4,8],loops:=[(0,{vals:=vN [10,11,12,2000,2001,3000,3001],locs:=[(1,2000,0),(2,3000,0)],lbs:=[(2000,2),(3000,2)]})]}
def Q3:Ann:={nl:=[6,8]}
def L0:Ann:={}
def Wm:Ann:={nl:=[15],loops:=[(0,{vals:=vN [0,1,7,8]})]}
def Wn:Ann:={nl:=[5,7]}
def Wo:Ann:={}
def Wp:Ann:={nl:=[15],loops:=[(0,{vals:=vN [0,1,7,8]})]}
def Wq:Ann:={nl:=[5,7]}
def Wr:Ann:={kinds:=[(4,.S)],nl:=[14],lw:=[4],loops:=[(0,{vals:=vN [0,8,9,10]})]}
def Ws:Ann:={}
def Wu:Ann:={iso:=false,hl:=[8],nl:=[8]}
def Wv:Ann:={iso:=false,hl:=[16],nl:=[16,20,30],lw:=[6]}
def Ww:Ann:={}
def Wx:Ann:={nl:=[3]}
def Wy:Ann:={nl:=[3]}
def IK:Ann:={iso:=false,ha:=[7]}
def Wz:Ann:={iso:=false,nl:=[5,6,7,8],lw:=[4]}
def WA:Ann:={iso:=false,kinds:=[(11,.S),(12,.S)],hl:=[16,26,30,67,79],ha:=[41],no:=[40],nl:=[16,20,26,30,34,36,48,54,57,61,67,74,79,83],lw:=[8,9,11,12],joins:=[(20,{vals:=vN [0,1,3,6,9000,9001,9002,9003],locs:=[(8,9000,0)],lbs:=[(9000,4)]})],loops:=[(0,{vals:=vN [0,3,6,48,49,50,9000,9001,9002,9003,10000,10001,10002],locs:=[(8,9000,0),(9,10000,0)],lbs:=[(9000,4),(10000,3)]})]}
def WB:Ann:={nl:=[3]}
def WC:Ann:={iso:=false,nl:=[5,6,7,9],lw:=[4]}
def WE:Ann:={iso:=false,kinds:=[(9,.S)],hl:=[14,20],nl:=[14,20,25,35,42,46,51,55,60,66,74,77,79,82,85,94,96,98,100,103,105,107,114,116,118,121,125,129,131,133,139,141,143,150,152,154,157,159,161,164,166,168,173,175,177,179,181,185,187,192,193,198,200,202,205,207,210,218,221,225,226,229,230],lw:=[6,9],joins:=[(87,{vals:=vN [0,4,5,42,87,7000,7001,7002,7003],locs:=[(6,7000,0)],lbs:=[(7000,4)]}),(110,{vals:=vN [0,4,5,42,110,7000,7001,7002,7003],locs:=[(6,7000,0)],lbs:=[(7000,4)]}),(1000000,{vals:=vN [0,4,5,7000,7001,7002,7003],locs:=[(6,7000,0)],lbs:=[(7000,4)]})],loops:=[(1,{vals:=vN [0,4,5,8,7000,7001,7002,7003],locs:=[(6,7000,0)],lbs:=[(7000,4)]})],ords:=[(23,[0,1,2,3,4,5,6,7,9,10,11,12,13,14,8,15,16,17]),(26,[0,1,2,3,4,5,7,8,9,6,10]),(36,[0,1,2,3,4,5,6,7,8,9,12,13,14,15,10,11,16,17]),(40,[0,1,2,3,4,5,7,6,8])]}
def WF:Ann:={nl:=[11,15],loops:=[(0,{vals:=vN [0,3,7,8]})]}
def WG:Ann:={iso:=false,kinds:=[(5,.S),(10,.S),(11,.S)],no:=[57],nl:=[15,22,23,25,35,41,44,51,54,56],lw:=[5,10,11],so:=[31],loops:=[(0,{vals:=[(0,none),(7,none),(8,some 2)]}),(2,{vals:=[(0,none),(7,none),(8,some 2),(36,none),(37,none),(38,none)]})]}
def Q4:Ann:={no:=[15],nl:=[6,8,11,13]}
def WH:Ann:={nl:=[3]}
def WI:Ann:={}
def WJ:Ann:={nl:=[3]}
def WK:Ann:={}
def WL:Ann:={kinds:=[(7,.S)],nl:=[14,17,21,27,33],lw:=[7],loops:=[(0,{vals:=vN [0,1,5,9,10,11]})]}
def WM:Ann:={nl:=[3]}
def WN:Ann:={nl:=[3]}
def WO:Ann:={kinds:=[(6,.S)],nl:=[12,13],lw:=[6],loops:=[(0,{vals:=vN [0,1,7,8,9]})]}
def WP:Ann:={kinds:=[(10,.S),(15,.H)],hl:=[31],hb:=[14],nl:=[19,31,34,35],lw:=[10]}
def sA:Ann:={}
def WQ:Ann:={iso:=false,kinds:=[(8,.S),(10,.S)],hl:=[17],nl:=[17,19,27,33,35,45,46,50],lw:=[6,8,10],joins:=[(28,{vals:=vN [8,7000,7001],locs:=[(6,7000,0)],lbs:=[(7000,2)]})],ords:=[(1,[0,1,2,3,4,5,6,11,7,8,9,10,12,13])]}
def WR:Ann:={iso:=false,kinds:=[(8,.S),(13,.S)],hl:=[63],nl:=[16,24,27,35,49,50,52,55,63,65,70],lw:=[6,8,13],loops:=[(0,{vals:=vN [0,8,43,44,45,7000,7001],locs:=[(6,7000,0)],lbs:=[(7000,2)]})]}
def WS:Ann:={iso:=false,kinds:=[(10,.S),(11,.S)],no:=[31],nl:=[18,22,30],lw:=[10,11],loops:=[(0,{vals:=[(0,none),(1,none),(8,some 2),(13,none),(14,none),(15,none)]})]}
def WT:Ann:={kinds:=[(7,.H),(10,.S)],hl:=[77,104],ha:=[86],hb:=[7,12],no:=[85],nl:=[14,49,51,52,54,60,63,69,75,77,79,82,83,92,95,97,104],lw:=[4,10],joins:=[(15,{vals:=vN [2,3,6,7,8,14,15,5000,5001],locs:=[(4,5000,0)],lbs:=[(5000,2)]}),(39,{vals:=vN [2,3,6,7,8,14,39,5000,5001],locs:=[(4,5000,0)],lbs:=[(5000,2)]}),(1000000,{vals:=vN [7,8,5000,5001],locs:=[(4,5000,0)],lbs:=[(5000,2)]})],loops:=[(1,{vals:=vN [2,7,8,69,70,71,5000,5001],locs:=[(4,5000,0)],lbs:=[(5000,2)]})]}
def WU:Ann:={}
def WV:Ann:={kinds:=[(4,.S)],nl:=[8,10,17,19],lw:=[4]}
def L1:Ann:={}
def WW:Ann:={}
def WX:Ann:={nl:=[4,5]}
def WY:Ann:={nl:=[6,7,11,13]}
def WZ:Ann:={}
def W1:Ann:={nl:=[5,7]}
def W4:Ann:={kinds:=[(8,.S),(9,.S)],nl:=[21,25,27,28],lw:=[8,9],loops:=[(0,{vals:=vN [1,2,15,16,17]})]}
def W5:Ann:={nl:=[6,8,12,15,21]}
def W6:Ann:={nl:=[3]}
def W7:Ann:={nl:=[5,6]}
def W8:Ann:={nl:=[5,6]}
def W9:Ann:={nl:=[15],loops:=[(0,{vals:=vN [0,1,7,8]})]}
def RO:Ann:={nl:=[5,8,12,16,21,27,31,36,41,45,50,53,59,65,70]}
def RP:Ann:={}
def RS:Ann:={no:=[13,19],nl:=[8,10,16,18],lw:=[6]}
def RU:Ann:={joins:=[(4,{vals:=vN [3,4]}),(9,{vals:=vN [3,9]}),(14,{vals:=vN [3,14]}),(25,{vals:=[(25,none)]})]}
def RX:Ann:={lw:=[2]}
def RY:Ann:={lw:=[2]}
def RZ:Ann:={iso:=false,nl:=[10,12,16,21,23,27,31,39,41,47,49,55,57,61,63],lw:=[6]}
def R5:Ann:={iso:=false,kinds:=[(7,.S)],nl:=[9,10,13,17],lw:=[7]}
def R6:Ann:={iso:=false,kinds:=[(9,.S)],hb:=[7,31],no:=[45],nl:=[11,14,19,24,29,33,38,42,43],lw:=[6,7,9,47],loops:=[(0,{vals:=[(0,none),(4,none),(33,none),(34,none),(35,none),(7000,none),(7001,none),(7002,none),(7003,none),(8000,none),(8001,none),(8002,none),(8003,some 4)],locs:=[(6,7000,0),(7,8000,0)],lbs:=[(7000,4),(8000,4)]})],nils:=[(7,[3])]}
def R7:Ann:={nl:=[15],loops:=[(0,{vals:=vN [0,1,7,8]})]}
def R8:Ann:={iso:=false,kinds:=[(8,.S),(12,.S)],no:=[61],nl:=[14,16,20,26,33,37,42,45,50,55,58,59,66],lw:=[6,8,12],joins:=[(17,{vals:=vN [0,4,5,7,7000,7001,7002,7003],locs:=[(6,7000,0)],lbs:=[(7000,4)]})],loops:=[(0,{vals:=[(0,none),(4,none),(7,none),(8,none),(10,some 4),(50,none),(51,none),(52,none),(7000,none),(7001,none),(7002,none),(7003,none)],locs:=[(6,7000,0)],lbs:=[(7000,4)]})]}
def R9:Ann:={iso:=false,kinds:=[(7,.S)],hl:=[47,54,60,69,90,105,110,127],ha:=[77],no:=[76],nl:=[12,15,17,19,22,26,30,35,40,47,54,56,60,69,71,73,84,90,92,95,105,107,110,112,117,119,121,127],lw:=[6,7],joins:=[(49,{vals:=vN [0,5,7,8,7000,7001,7002,7003],locs:=[(6,7000,0)],lbs:=[(7000,4)]}),(113,{vals:=vN [9,10,7000,7001,7002,7003],locs:=[(6,7000,0)],lbs:=[(7000,4)]})],ords:=[(2,[0,1,2,3,4,5,7,6,8])]}
def Sa:Ann:={iso:=false,kinds:=[(5,.S)],nl:=[7,8,13],lw:=[5]}
def LY:Ann:={nl:=[11],loops:=[(0,{vals:=vN [3,6,7,8]})]}
def Sb:Ann:={nl:=[15],loops:=[(0,{vals:=vN [0,1,7,8]})]}
def Sd:Ann:={}
def Se:Ann:={kinds:=[(6,.S)],nl:=[11,16,21,27,31,37,43,45,53,55,60,66],lw:=[6],loops:=[(0,{vals:=vN [1,2,37,38,39]})]}
def Sf:Ann:={kinds:=[(5,.S),(8,.S)],nl:=[13,18,22,31,37,39,44,46,51,53,58,61,66,71,76,77],lw:=[5,8],loops:=[(0,{vals:=vN [1,71,72,73]})]}
def Sg:Ann:={iso:=false,kinds:=[(7,.S),(10,.S),(11,.S)],hl:=[21,31,60,81],hb:=[8,39],no:=[51],nl:=[15,21,31,34,36,38,41,46,50,60,62,67,81,83,89,92],lw:=[4,7,8,10,11,53],loops:=[(0,{vals:=[(41,none),(42,none),(43,none),(5000,none),(5001,none),(5002,none),(5003,none),(5004,none),(9000,none),(9001,some 2),(9002,none),(9003,none),(9004,none)],locs:=[(4,5000,0),(8,9000,0)],lbs:=[(5000,5),(9000,5)]})],nils:=[(8,[1])]}
def Si:Ann:={nl:=[4]}
def Sj:Ann:={nl:=[5,6]}
def Sk:Ann:={kinds:=[(8,.S),(9,.S),(11,.S)],hb:=[6,21],no:=[52],nl:=[14,16,20,23,28,31,33,40,41,49,50],lw:=[4,6,8,9,11,54],loops:=[(0,{vals:=[(3,none),(23,none),(24,none),(25,none),(5000,none),(5001,none),(7000,none),(7001,some 3)],locs:=[(4,5000,0),(6,7000,0)],lbs:=[(5000,2),(7000,2)]})],nils:=[(6,[1])]}
def Sl:Ann:={nl:=[15],loops:=[(0,{vals:=vN [0,1,7,8]})]}
def Sn:Ann:={nl:=[15],loops:=[(0,{vals:=vN [0,1,7,8]})]}
def So:Ann:={no:=[20],nl:=[6,8,11,13,16,18]}
def Sq:Ann:={nl:=[14,18],loops:=[(0,{vals:=vN [0,3]})]}
def Sr:Ann:={nl:=[4,5]}
def Ss:Ann:={}
def Su:Ann:={}
def Cc:Ann:={}
def Sv:Ann:={kinds:=[(5,.S)],nl:=[7,12,14],lw:=[5],loops:=[(0,{vals:=vN [3,7,8,9]})]}
def Sw:Ann:={nl:=[5,7]}
def Sx:Ann:={iso:=false,kinds:=[(5,.S)],nl:=[7,10,15,16],lw:=[5],loops:=[(0,{vals:=vN [1,10,11,12]})]}
def Sy:Ann:={iso:=false,kinds:=[(5,.S),(6,.S)],no:=[12],nl:=[9,11,15,18,19,24,31,35,38,39],lw:=[5,6]}
def Sz:Ann:={nl:=[11],loops:=[(0,{vals:=vN [3,6,7,8]})]}
def SA:Ann:={iso:=false}
def SC:Ann:={}
def SD:Ann:={loops:=[(0,{vals:=vN [0,1,5]})]}
def SE:Ann:={}
def SF:Ann:={}
def SG:Ann:={nl:=[6,8,11,16,23,30,36,45,54,58,63,65],lw:=[2,4,17,24,31,37,46,55,66,67],joins:=[(12,{vals:=vN [1,11,12,3000,3001,3002,3003,3004,3005,5000,5001,5002,5003,5004,5005],locs:=[(2,3000,0),(4,5000,0)],lbs:=[(3000,6),(5000,6)]}),(19,{vals:=vN [1,11,19,3000,3001,3002,3003,3004,3005,5000,5001,5002,5003,5004,5005],locs:=[(2,3000,0),(4,5000,0)],lbs:=[(3000,6),(5000,6)]}),(26,{vals:=vN [1,11,26,3000,3001,3002,3003,3004,3005,5000,5001,5002,5003,5004,5005],locs:=[(2,3000,0),(4,5000,0)],lbs:=[(3000,6),(5000,6)]})]}
def SH:Ann:={nl:=[6,10,14,20,24,30,34,39,44,54,59,63,67,73,80,86,96,100,106],joins:=[(47,{vals:=vN [1,6,47]})],loops:=[(1,{vals:=vN [1,80,81,82]})]}
def SI:Ann:={nl:=[5,7]}
def SJ:Ann:={nl:=[15],loops:=[(0,{vals:=vN [0,1,7,8]})]}
def SK:Ann:={nl:=[5,7]}
def SL:Ann:={}
def SN:Ann:={}
def SO:Ann:={kinds:=[(3,.S)],nl:=[4,11],lw:=[3],loops:=[(0,{vals:=vN [0,5]})]}
def SP:Ann:={}
noncomputable def se:List (Nat×(Func×Ann)):=[
(3,(Tryz.f3,Zq)),
(4,(Tryz.f4,Zr)),
(5,(Tryz.f5,Zs)),
(6,(Tryz.f6,Zt)),
(7,(Tryz.f7,Zu)),
(8,(Tryz.f8,Zv)),
(9,(Tryz.f9,Zw)),
(10,(Tryz.f10,VP)),
(11,(Tryz.f11,VQ)),
(12,(Tryz.f12,VS)),
(13,(Tryz.f13,VT)),
(14,(Tryz.f14,VU)),
(15,(Tryz.f15,VV)),
(16,(Tryz.f16,VW)),
(17,(Tryz.f17,VX)),
(18,(Tryz.f18,VY)),
(19,(Tryz.f19,VZ)),
(20,(Tryz.f20,V0)),
(21,(Tryz.f21,V1)),
(22,(Tryz.f22,V2)),
(23,(Tryz.f23,V3)),
(24,(Tryz.f24,V4)),
(25,(Tryz.f25,V5)),
(26,(Tryz.f26,V6)),
(27,(Tryz.f27,V7)),
(28,(Tryz.f28,V8)),
(29,(Tryz.f29,V9)),
(30,(Tryz.f30,Wa)),
(31,(Tryz.f31,Wb)),
(32,(Tryz.f32,Wc)),
(33,(Tryz.f33,Wd)),
(34,(Tryz.f34,We)),
(35,(Tryz.f35,Wg)),
(36,(Tryz.f36,Wh)),
(37,(Tryz.f37,Wi)),
(38,(Tryz.f38,Wj)),
(39,(Tryz.f39,Wk)),
(40,(Tryz.f40,Wl)),
(43,(Tryz.f43,Q3)),
(44,(Tryz.f44,L0)),
(45,(Tryz.f45,Wm)),
(46,(Tryz.f46,Wn)),
(47,(Tryz.f47,Wo)),
(48,(Tryz.f48,Wp)),
(49,(Tryz.f49,Wq)),
(50,(Tryz.f50,Wr)),
(51,(Tryz.f51,Ws)),
(52,(Tryz.f52,Wu)),
(53,(Tryz.f53,Wv)),
(54,(Tryz.f54,Ww)),
(55,(Tryz.f55,Wx)),
(56,(Tryz.f56,Wy)),
(59,(Tryz.f59,Wz)),
(60,(Tryz.f60,WA)),
(61,(Tryz.f61,WB)),
(62,(Tryz.f62,WC)),
(63,(Tryz.f63,WE)),
(64,(Tryz.f64,WF)),
(66,(Tryz.f66,WG)),
(68,(Tryz.f68,Q4)),
(69,(Tryz.f69,WH)),
(70,(Tryz.f70,WI)),
(71,(Tryz.f71,WJ)),
(72,(Tryz.f72,WK)),
(73,(Tryz.f73,WL)),
(74,(Tryz.f74,WM)),
(75,(Tryz.f75,WN)),
(76,(Tryz.f76,WO)),
(77,(Tryz.f77,WP)),
(80,(Tryz.f80,WQ)),
(81,(Tryz.f81,WR)),
(82,(Tryz.f82,WS)),
(83,(Tryz.f83,WT)),
(84,(Tryz.f84,WU)),
(85,(Tryz.f85,WV)),
(88,(Tryz.f88,L1)),
(89,(Tryz.f89,WW)),
(90,(Tryz.f90,WX)),
(91,(Tryz.f91,WY)),
(92,(Tryz.f92,WZ)),
(93,(Tryz.f93,W1)),
(94,(Tryz.f94,W4)),
(95,(Tryz.f95,W5)),
(96,(Tryz.f96,W6)),
(97,(Tryz.f97,W7)),
(98,(Tryz.f98,W8)),
(99,(Tryz.f99,W9)),
(100,(Tryz.f100,RO)),
(102,(Tryz.f102,RP)),
(103,(Tryz.f103,RS)),
(104,(Tryz.f104,RU)),
(105,(Tryz.f105,RX)),
(106,(Tryz.f106,RY)),
(107,(Tryz.f107,RZ)),
(108,(Tryz.f108,R5)),
(109,(Tryz.f109,R6)),
(110,(Tryz.f110,R7)),
(111,(Tryz.f111,R8)),
(112,(Tryz.f112,R9)),
(114,(Tryz.f114,Sa)),
(116,(Tryz.f116,LY)),
(117,(Tryz.f117,Sb)),
(118,(Tryz.f118,Sd)),
(120,(Tryz.f120,Se)),
(121,(Tryz.f121,Sf)),
(123,(Tryz.f123,Sg)),
(124,(Tryz.f124,Si)),
(125,(Tryz.f125,Sj)),
(126,(Tryz.f126,Sk)),
(127,(Tryz.f127,Sl)),
(138,(Tryz.f138,Sn)),
(139,(Tryz.f139,So)),
(140,(Tryz.f140,Sq)),
(141,(Tryz.f141,Sr)),
(142,(Tryz.f142,Ss)),
(143,(Tryz.f143,Su)),
(145,(Tryz.f145,Sv)),
(146,(Tryz.f146,Sw)),
(148,(Tryz.f148,Sx)),
(149,(Tryz.f149,Sy)),
(150,(Tryz.f150,Sz)),
(152,(Tryz.f152,SA)),
(161,(Tryz.f161,SC)),
(162,(Tryz.f162,SD)),
(163,(Tryz.f163,SE)),
(164,(Tryz.f164,SF)),
(166,(Tryz.f166,SG)),
(167,(Tryz.f167,SH)),
(169,(Tryz.f169,SI)),
(170,(Tryz.f170,SJ)),
(171,(Tryz.f171,SK)),
(172,(Tryz.f172,SL)),
(178,(Tryz.f178,SN)),
(180,(Tryz.f180,SO)),
(186,(Tryz.f186,SP))]
def xD:List (Nat×(Func×Ann))->Nat->Option (Func×Ann)
 |[],_=>none
 |(k,x):: r,t=>bif Nat.beq k t then some x else xD r t
def own:FuncId->Option Nat:=fun f=>bif Nat.beq f 79 then some 3 else bif Nat.beq f 142 then some 1 else bif Nat.beq f 143 then some 4 else none
noncomputable def other:FuncId->Option ((FuncId->List AV->M AV)->List AV->M AV):=fun f=>
 bif Nat.beq f 41 then some (ql)else bif Nat.beq f 42 then some (ka 5 43)else bif Nat.beq f 57 then some (dZ T 34)else bif Nat.beq f 58 then some (Gv 56 .i64 (.agg [qi 0,qi 0,.sl [],.sl []]))else bif Nat.beq f 65 then some (yd)else bif Nat.beq f 67 then some (kP 68)else bif Nat.beq f 78 then some (qv)else bif Nat.beq f 79 then some (ir T 38)else bif Nat.beq f 119 then some (nM)else bif Nat.beq f 144 then some (ir T 28)else bif Nat.beq f 151 then some (tL [180,180] 68)else none
noncomputable def pg:Pg:={ T:=T,funcs:=xD se,own:=own,other:=other,nw:=fun f=>bif Nat.beq f 57 then true else false }
def hOther:eY pg:=by
 intro f E hE call calls hc;have h0:other f=some E:=hE;unfold other at h0;rcases eU h0 with rfl|h0
 ·exact cy.const _
 rcases eU h0 with rfl|h0
 ·exact cy.const _
 rcases eU h0 with rfl|h0
 ·exact xj _ _ _ _
 rcases eU h0 with rfl|h0
 ·exact Oy _ _ _ _ _ hc
 rcases eU h0 with rfl|h0
 ·exact cy.const _
 rcases eU h0 with rfl|h0
 ·exact cy.const _
 rcases eU h0 with rfl|h0
 ·exact cy.const _
 rcases eU h0 with rfl|h0
 ·exact xk _ _ _ _
 rcases eU h0 with rfl|h0
 ·exact cy.const _
 rcases eU h0 with rfl|h0
 ·exact xk _ _ _ _
 rcases eU h0 with rfl|h0
 ·exact cy.const _
 cases h0
structure RV (m:M AV)
structure RL (m:M (List AV))
instance {m:M AV}:CoeOut (RV m) (M AV):=⟨fun _=>m⟩
instance {m:M (List AV)}:CoeOut (RL m) (M (List AV)):=⟨fun _=>m⟩
def qc(x:AV):RI (AV.ip (ab x)):=⟨⟩
structure RM (l:List AV)
instance {l:List AV}:CoeOut (RM l) (List AV):=⟨fun _=>l⟩
def Yc(v:List AV):RM [aa v 0,aa v 1,aa v 2]:=⟨⟩
def gq(v l:List AV):RM (aa v 0::aa v 1::aa v 2::l):=⟨⟩
def il(v:List AV):RM [aa v 0,aa v 1,aa v 2,aa v 3]:=⟨⟩
def tA(v l:List AV):RM (aa v 0::aa v 1::aa v 2::aa v 3::l):=⟨⟩
def Qx(v:List AV):RM [aa v 0,aa v 1,aa v 2,aa v 3,aa v 4]:=⟨⟩
def H9(v l:List AV):RM (aa v 0::aa v 1::aa v 2::aa v 3::aa v 4::l):=⟨⟩
def Ab(v:List AV):RM [aa v 0,aa v 1,aa v 2,aa v 3,aa v 4,aa v 5]:=⟨⟩
def Li(v l:List AV):RM (aa v 0::aa v 1::aa v 2::aa v 3::aa v 4::aa v 5::l):=⟨⟩
def Uu(v l:List AV):RM (aa v 0::aa v 1::aa v 2::aa v 3::aa v 4::aa v 5::aa v 6::l):=⟨⟩
def H8(v:List AV):RM [aa v 0,aa v 1,aa v 2,aa v 3,aa v 4,aa v 5,aa v 6,aa v 7]:=⟨⟩
def Ye(v l:List AV):RM (aa v 0::aa v 1::aa v 2::aa v 3::aa v 4::aa v 5::aa v 6::aa v 7::l):=⟨⟩
def Ya(v:List AV):RM [aa v 0,aa v 1,aa v 2,aa v 3,aa v 4,aa v 5,aa v 6,aa v 7,aa v 8,aa v 9]:=⟨⟩
def yT(v:List AV):RM [aa v 0,aa v 1,aa v 2,aa v 3,aa v 4,aa v 5,aa v 6,aa v 7,aa v 8,aa v 9,aa v 10,aa v 11]:=⟨⟩
def Yd(v l:List AV):RM (aa v 0::aa v 1::aa v 2::aa v 3::aa v 4::aa v 5::aa v 6::aa v 7::aa v 8::aa v 9::aa v 10::aa v 11::aa v 12::l):=⟨⟩
def Yb(v:List AV):RM [aa v 0,aa v 1,aa v 2,aa v 3,aa v 4,aa v 5,aa v 6,aa v 7,aa v 8,aa v 9,aa v 10,aa v 11,aa v 12,aa v 13,aa v 14,aa v 15,aa v 16,aa v 17,aa v 18,aa v 19,aa v 20,aa v 21,aa v 22,aa v 23,aa v 24]:=⟨⟩
def cw(t:TypeId)(p:AV)(f:AV->M (AV)):RV (ah (bJ (aO T t p)) f):=⟨⟩
def gY(t:TypeId)(p:AV)(i:Nat)(f:AV->M (AV)):RV (ah (bJ (aU T t p i)) f):=⟨⟩
def bd(o:BinOp)(t:TypeId)(x y:AV)(f:AV->M (AV)):RV (ah (bJ (dC T o t x y)) f):=⟨⟩
def dJ(t:TypeId)(p:AV)(f:AV->M (AV)):RV (ah (bJ (eR T t p)) f):=⟨⟩
def uD(t:TypeId)(p i:AV)(f:AV->M (AV)):RV (ah (bJ (au T t p i)) f):=⟨⟩
def oz(p:AV)(f:AV->M (AV)):RV (ah (bJ (m6 p)) f):=⟨⟩
def gp(b:Bool)(t:TypeId)(l:List (Nat×AV))(f:AV->M (AV)):RV (ah (bJ (bS T b t l)) f):=⟨⟩
def mL(o:UnOp)(x:AV)(f:AV->M (AV)):RV (ah (bJ (Vl o x)) f):=⟨⟩
def eV(x:AV)(i:Nat)(f:AV->M (AV)):RV (ah (bJ (eI x i)) f):=⟨⟩
def nd(t:TypeId)(n:Nat)(l:List (Nat×AV))(f:AV->M (AV)):RV (ah (bJ (ay T t n l)) f):=⟨⟩
def q9(t:TypeId)(p:AV)(f:AV->M (AV)):RV (ah (bC T t p) f):=⟨⟩
def yS(t:TypeId)(p v:AV)(f:AV->M (AV)):RV (ah (cp T t p v) f):=⟨⟩
def fM(n:Nat)(x:AV)(f:AV->M (AV)):RV (ah (bn n x) f):=⟨⟩
def ee(n:Nat)(l:List Nat)(x:AV)(f:AV->M (AV)):RV (ah (aC n l x) f):=⟨⟩
def zZ(x:AV)(f:AV->M (AV)):RV (ah (dH x) f):=⟨⟩
def aN(t:TypeId)(p:AV)(i:Nat)(u:TypeId)(f:AV->M (AV)):RV (ah (bJ (aU T t p i)) fun v=>ah (bJ (aO T u v)) f):=⟨⟩
def ez(t:TypeId)(p i:AV)(u:TypeId)(f:AV->M (AV)):RV (ah (bJ (au T t p i)) fun v=>ah (bJ (aO T u v)) f):=⟨⟩
def ck(o:BinOp)(t:TypeId)(x y:AV)(m n:M (AV)):RV (ah (bJ (dC T o t x y)) fun v=>aw v m n):=⟨⟩
def jK(c:AV)(m:M (List AV))(f:AV->M (AV)):RV (ah (bq c true 1 m) fun w=>ah (bJ (na c (aa w 0) (AV.bool false))) f):=⟨⟩
def gw(c:AV)(m:M (List AV))(f:AV->M (AV)):RV (ah (bq c false 1 m) fun w=>ah (bJ (na c (AV.bool true) (aa w 0))) f):=⟨⟩
def zC(t:TypeId)(p:AV)(f:AV->M (List AV)):RL (ah (bJ (aO T t p)) f):=⟨⟩
def Us(t:TypeId)(p:AV)(i:Nat)(f:AV->M (List AV)):RL (ah (bJ (aU T t p i)) f):=⟨⟩
def dU(o:BinOp)(t:TypeId)(x y:AV)(f:AV->M (List AV)):RL (ah (bJ (dC T o t x y)) f):=⟨⟩
def LD(c x y:AV)(f:AV->M (List AV)):RL (ah (bJ (na c x y)) f):=⟨⟩
def pt(t:TypeId)(p:AV)(f:AV->M (List AV)):RL (ah (bJ (eR T t p)) f):=⟨⟩
def Qr(t:TypeId)(p i:AV)(f:AV->M (List AV)):RL (ah (bJ (au T t p i)) f):=⟨⟩
def pKq(p:AV)(f:AV->M (List AV)):RL (ah (bJ (m6 p)) f):=⟨⟩
def pUq(b:Bool)(t:TypeId)(l:List (Nat×AV))(f:AV->M (List AV)):RL (ah (bJ (bS T b t l)) f):=⟨⟩
def vG(o:UnOp)(x:AV)(f:AV->M (List AV)):RL (ah (bJ (Vl o x)) f):=⟨⟩
def pVq(t:TypeId)(n:Nat)(l:List (Nat×AV))(f:AV->M (List AV)):RL (ah (bJ (ay T t n l)) f):=⟨⟩
def pHq(t:TypeId)(p:AV)(f:AV->M (List AV)):RL (ah (bC T t p) f):=⟨⟩
def dE(t:TypeId)(p:AV)(i:Nat)(u:TypeId)(f:AV->M (List AV)):RL (ah (bJ (aU T t p i)) fun v=>ah (bJ (aO T u v)) f):=⟨⟩
def X8(t:TypeId)(p i:AV)(u:TypeId)(f:AV->M (List AV)):RL (ah (bJ (au T t p i)) fun v=>ah (bJ (aO T u v)) f):=⟨⟩
end Go.Proofs.YtkkdcdofponfiaaGreat
namespace Go.Proofs.YtkkdcdofponfiaaGreat
open Go Go.Av Go.Av.Ap
set_option maxRecDepth 100000
structure RQ (p:Prop):Type
instance {p:Prop}:CoeSort (RQ p) Prop:=⟨fun _=>p⟩
def cI(t:TypeId)(i j l k:Nat):RQ (aU T t (.hp l k) i=some (.hp l (k+j))):=⟨⟩
def cH(t:TypeId)(i j:Nat)(cs:List AV):RQ (aU T t (.ip cs) i=some (.ip (cs.drop j))):=⟨⟩
def qd(t:TypeId)(i:Nat)(cs:List AV):RQ (aO T t (.ip cs)=if i<=cs.length then some (.agg (cs.take i))else none):=⟨⟩
def mM(t:TypeId)(x:AV)(l:List AV):RQ (aO T t (.ip (x:: l))=some x):=⟨⟩
def qN(t:TypeId)(es:List AV):RQ (eR T t (.sl es)=some (.int .i64 es.length)):=⟨⟩
def qP(t:TypeId)(l k n s:Nat)(a:Bool):RQ (eR T t (.hs l k n s a)=some (.int .i64 n)):=⟨⟩
section
variable (l k:Nat)
@[simp] theorem FH43_1:cI 43 1 1 l k:=rfl
@[simp] theorem FH43_2:cI 43 2 2 l k:=rfl
@[simp] theorem FH43_4:cI 43 4 4 l k:=rfl
@[simp] theorem FH49_0:cI 49 0 0 l k:=rfl
@[simp] theorem FH51_1:cI 51 1 1 l k:=rfl
@[simp] theorem FH60_0:cI 60 0 0 l k:=rfl
@[simp] theorem FH60_1:cI 60 1 1 l k:=rfl
@[simp] theorem FH60_2:cI 60 2 5 l k:=rfl
@[simp] theorem FH60_3:cI 60 3 6 l k:=rfl
@[simp] theorem FH60_4:cI 60 4 7 l k:=rfl
@[simp] theorem FH96_1:cI 96 1 1 l k:=rfl
@[simp] theorem FH113_0:cI 113 0 0 l k:=rfl
@[simp] theorem FH113_1:cI 113 1 9 l k:=rfl
@[simp] theorem FH113_2:cI 113 2 10 l k:=rfl
@[simp] theorem FH131_1:cI 131 1 1 l k:=rfl
@[simp] theorem FH135_0:cI 135 0 0 l k:=rfl
@[simp] theorem FH135_1:cI 135 1 1 l k:=rfl
@[simp] theorem FH135_2:cI 135 2 2 l k:=rfl
@[simp] theorem FH135_3:cI 135 3 3 l k:=rfl
@[simp] theorem FH135_4:cI 135 4 4 l k:=rfl
end
section
variable (cs:List AV)
@[simp] theorem FA26_0:cH 26 0 0 cs:=rfl
@[simp] theorem FA26_1:cH 26 1 1 cs:=rfl
@[simp] theorem FA26_2:cH 26 2 2 cs:=rfl
@[simp] theorem FA26_3:cH 26 3 3 cs:=rfl
@[simp] theorem FA31_0:cH 31 0 0 cs:=rfl
@[simp] theorem FA31_1:cH 31 1 1 cs:=rfl
@[simp] theorem FA31_2:cH 31 2 2 cs:=rfl
@[simp] theorem FA31_3:cH 31 3 3 cs:=rfl
@[simp] theorem FA31_4:cH 31 4 4 cs:=rfl
@[simp] theorem FA31_5:cH 31 5 5 cs:=rfl
@[simp] theorem FA33_1:cH 33 1 1 cs:=rfl
@[simp] theorem FA33_2:cH 33 2 2 cs:=rfl
@[simp] theorem FA33_3:cH 33 3 3 cs:=rfl
@[simp] theorem FA33_4:cH 33 4 4 cs:=rfl
@[simp] theorem FA41_0:cH 41 0 0 cs:=rfl
@[simp] theorem FA41_1:cH 41 1 1 cs:=rfl
@[simp] theorem FA41_2:cH 41 2 2 cs:=rfl
@[simp] theorem FA43_0:cH 43 0 0 cs:=rfl
@[simp] theorem FA43_1:cH 43 1 1 cs:=rfl
@[simp] theorem FA43_2:cH 43 2 2 cs:=rfl
@[simp] theorem FA43_3:cH 43 3 3 cs:=rfl
@[simp] theorem FA43_4:cH 43 4 4 cs:=rfl
@[simp] theorem FA43_5:cH 43 5 5 cs:=rfl
@[simp] theorem FA43_6:cH 43 6 6 cs:=rfl
@[simp] theorem FA47_0:cH 47 0 0 cs:=rfl
@[simp] theorem FA47_1:cH 47 1 1 cs:=rfl
@[simp] theorem FA47_2:cH 47 2 2 cs:=rfl
@[simp] theorem FA47_3:cH 47 3 3 cs:=rfl
@[simp] theorem FA49_0:cH 49 0 0 cs:=rfl
@[simp] theorem FA49_1:cH 49 1 1 cs:=rfl
@[simp] theorem FA51_0:cH 51 0 0 cs:=rfl
@[simp] theorem FA51_1:cH 51 1 1 cs:=rfl
@[simp] theorem FA51_2:cH 51 2 2 cs:=rfl
@[simp] theorem FA51_3:cH 51 3 3 cs:=rfl
@[simp] theorem FA51_4:cH 51 4 5 cs:=rfl
@[simp] theorem FA51_5:cH 51 5 6 cs:=rfl
@[simp] theorem FA53_0:cH 53 0 0 cs:=rfl
@[simp] theorem FA53_1:cH 53 1 1 cs:=rfl
@[simp] theorem FA60_0:cH 60 0 0 cs:=rfl
@[simp] theorem FA60_3:cH 60 3 6 cs:=rfl
@[simp] theorem FA65_0:cH 65 0 0 cs:=rfl
@[simp] theorem FA65_1:cH 65 1 1 cs:=rfl
@[simp] theorem FA65_2:cH 65 2 2 cs:=rfl
@[simp] theorem FA75_0:cH 75 0 0 cs:=rfl
@[simp] theorem FA75_1:cH 75 1 1 cs:=rfl
@[simp] theorem FA75_2:cH 75 2 2 cs:=rfl
@[simp] theorem FA88_0:cH 88 0 0 cs:=rfl
@[simp] theorem FA88_1:cH 88 1 1 cs:=rfl
@[simp] theorem FA96_0:cH 96 0 0 cs:=rfl
@[simp] theorem FA96_1:cH 96 1 1 cs:=rfl
@[simp] theorem FA103_0:cH 103 0 0 cs:=rfl
@[simp] theorem FA103_1:cH 103 1 3 cs:=rfl
@[simp] theorem FA121_0:cH 121 0 0 cs:=rfl
@[simp] theorem FA121_1:cH 121 1 1 cs:=rfl
@[simp] theorem FA121_2:cH 121 2 2 cs:=rfl
@[simp] theorem FA121_3:cH 121 3 4 cs:=rfl
@[simp] theorem FA131_0:cH 131 0 0 cs:=rfl
@[simp] theorem FA131_1:cH 131 1 1 cs:=rfl
@[simp] theorem FA146_0:cH 146 0 0 cs:=rfl
@[simp] theorem FA146_1:cH 146 1 1 cs:=rfl
@[simp] theorem FA146_2:cH 146 2 2 cs:=rfl
end
section
variable (cs:List AV)
@[simp] theorem LD26:qd 26 4 cs:=rfl
@[simp] theorem LD31:qd 31 6 cs:=rfl
@[simp] theorem LD33:qd 33 10 cs:=rfl
@[simp] theorem LD43:qd 43 9 cs:=rfl
@[simp] theorem LD47:qd 47 4 cs:=rfl
@[simp] theorem LD49:qd 49 2 cs:=rfl
@[simp] theorem LD51:qd 51 12 cs:=rfl
@[simp] theorem LD53:qd 53 2 cs:=rfl
@[simp] theorem LD65:qd 65 3 cs:=rfl
@[simp] theorem LD75:qd 75 3 cs:=rfl
@[simp] theorem LD88:qd 88 2 cs:=rfl
@[simp] theorem LD96:qd 96 3 cs:=rfl
@[simp] theorem LD103:qd 103 6 cs:=rfl
@[simp] theorem LD121:qd 121 5 cs:=rfl
@[simp] theorem LD131:qd 131 2 cs:=rfl
@[simp] theorem LD146:qd 146 3 cs:=rfl
end
section
variable (x:AV) (l:List AV)
@[simp] theorem LD3:mM 3 x l:=rfl
@[simp] theorem LD4:mM 4 x l:=rfl
@[simp] theorem LD9:mM 9 x l:=rfl
@[simp] theorem LD22:mM 22 x l:=rfl
@[simp] theorem LD23:mM 23 x l:=rfl
@[simp] theorem LD24:mM 24 x l:=rfl
@[simp] theorem LD27:mM 27 x l:=rfl
@[simp] theorem LD28:mM 28 x l:=rfl
@[simp] theorem LD29:mM 29 x l:=rfl
@[simp] theorem LD34:mM 34 x l:=rfl
@[simp] theorem LD38:mM 38 x l:=rfl
@[simp] theorem LD39:mM 39 x l:=rfl
@[simp] theorem LD56:mM 56 x l:=rfl
@[simp] theorem LD86:mM 86 x l:=rfl
@[simp] theorem LD119:mM 119 x l:=rfl
@[simp] theorem LD133:mM 133 x l:=rfl
@[simp] theorem LD148:mM 148 x l:=rfl
@[simp] theorem LD226:mM 226 x l:=rfl
end
section
variable (es:List AV)
@[simp] theorem Vt:qN 22 es:=rfl
@[simp] theorem Vu:qN 23 es:=rfl
@[simp] theorem Vv:qN 24 es:=rfl
@[simp] theorem Vw:qN 27 es:=rfl
@[simp] theorem Vx:qN 28 es:=rfl
@[simp] theorem Vy:qN 29 es:=rfl
@[simp] theorem Vz:qN 34 es:=rfl
@[simp] theorem VA:qN 35 es:=rfl
@[simp] theorem QX:qN 38 es:=rfl
@[simp] theorem VB:qN 39 es:=rfl
@[simp] theorem VC:qN 58 es:=rfl
@[simp] theorem VD:qN 68 es:=rfl
@[simp] theorem VE:qN 80 es:=rfl
@[simp] theorem VF:qN 83 es:=rfl
@[simp] theorem VG:qN 86 es:=rfl
@[simp] theorem Rx:qN 119 es:=rfl
end
section
variable (l k n s:Nat) (a:Bool)
@[simp] theorem RB:qP 38 l k n s a:=rfl
@[simp] theorem LN:qP 39 l k n s a:=rfl
end
@[simp] theorem YP(s:az):eR T 9 (.str s)=some (.int .i64 s.length):=rfl
@[simp] theorem LM(l:List Mod):eR T 22 (mods l)=some (.int .i64 l.length):=(Vt _).trans AI
@[simp] theorem YQ(l:List Ver):eR T 23 (mH l)=some (.int .i64 l.length):=(Vu _).trans AI
@[simp] theorem YR(l:List Ap.Call):eR T 24 (Ap.calls l)=some (.int .i64 l.length):=(Vv _).trans AI
@[simp] theorem YS(l:List Rng):eR T 27 (qe l)=some (.int .i64 l.length):=(Vw _).trans AI
@[simp] theorem wJ(l:List az):eR T 28 (strs l)=some (.int .i64 l.length):=(Vx _).trans AI
@[simp] theorem B6(l:List Exp):eR T 29 (bY l)=some (.int .i64 l.length):=(Vy _).trans (by simp[gS])
@[simp] theorem tU(l:List Val):eR T 34 (vals l)=some (.int .i64 l.length):=(Vz _).trans (by simp[fG])
@[simp] theorem Ry(l:List Int):eR T 35 (ints l)=some (.int .i64 l.length):=(VA _).trans AI
@[simp] theorem wK(l:List bQ):eR T 38 (aB l)=some (.int .i64 l.length):=(QX _).trans (by simp[eJ])
@[simp] theorem YT(l:List Fun):eR T 39 (dW l)=some (.int .i64 l.length):=(VB _).trans AI
@[simp] theorem Rz(l:List Vars):eR T 58 (dP l)=some (.int .i64 l.length):=(VC _).trans AI
@[simp] theorem YU(l:List aA):eR T 68 (bg l)=some (.int .i64 l.length):=(VD _).trans AI
@[simp] theorem YV(l:List Seen):eR T 80 (ra l)=some (.int .i64 l.length):=(VE _).trans AI
@[simp] theorem RA(l:List Face):eR T 83 (faces l)=some (.int .i64 l.length):=(VF _).trans AI
@[simp] theorem YW(l:List Sig):eR T 86 (sigs l)=some (.int .i64 l.length):=(VG _).trans AI
@[simp] theorem Yz(l:List Ty):eR T 119 (kE l)=some (.int .i64 l.length):=(Rx _).trans AI
def lT{l:List Mod}{n:Int}(h0:0<=n)(h:n<(l.length:Int)):au T 22 (mods l) (qi n)=some (.ip (ab (Mod.av l[n.toNat]!))):=br (T:=T) (t:=22) (e:=43) rfl rfl rfl (fun _=>by first|rfl|(simp;done)|(simp;rfl)) h0 h
def Rt{l:List Ver}{n:Int}(h0:0<=n)(h:n<(l.length:Int)):au T 23 (mH l) (qi n)=some (.ip (ab (Ver.av l[n.toNat]!))):=br (T:=T) (t:=23) (e:=75) rfl rfl rfl (fun _=>by first|rfl|(simp;done)|(simp;rfl)) h0 h
def zF{l:List Ap.Call}{n:Int}(h0:0<=n)(h:n<(l.length:Int)):au T 24 (Ap.calls l) (qi n)=some (.ip (ab (Ap.Call.av l[n.toNat]!))):=br (T:=T) (t:=24) (e:=65) rfl rfl rfl (fun _=>by first|rfl|(simp;done)|(simp;rfl)) h0 h
def YN{l:List Rng}{n:Int}(h0:0<=n)(h:n<(l.length:Int)):au T 27 (qe l) (qi n)=some (.ip (ab (Rng.av l[n.toNat]!))):=br (T:=T) (t:=27) (e:=103) rfl rfl rfl (fun _=>by first|rfl|(simp;done)|(simp;rfl)) h0 h
def wH{l:List az}{n:Int}(h0:0<=n)(h:n<(l.length:Int)):au T 28 (strs l) (qi n)=some (.ip (ab (AV.str l[n.toNat]!))):=br (T:=T) (t:=28) (e:=9) rfl rfl rfl (fun _=>by first|rfl|(simp;done)|(simp;rfl)) h0 h
theorem oA{l:List Exp}{n:Int}(h0:0<=n)(h:n<(l.length:Int)):au T 29 (bY l) (qi n)=some (.ip (ab (Exp.av l[n.toNat]!))):=by rw[bY,gS];exact br (T:=T) (t:=29) (e:=31) rfl rfl rfl (fun _=>by first|rfl|(simp;done)|(simp;rfl)) h0 h
def DT{l:List Val}{n:Int}(h0:0<=n)(h:n<(l.length:Int)):au T 34 (vals l) (qi n)=some (.ip (ab (Val.av l[n.toNat]!))):=by rw[vals,fG];exact br (T:=T) (t:=34) (e:=47) rfl rfl rfl (fun _=>by first|rfl|(simp;done)|(simp;rfl)) h0 h
def LJ{l:List Int}{n:Int}(h0:0<=n)(h:n<(l.length:Int)):au T 35 (ints l) (qi n)=some (.ip (ab (qi l[n.toNat]!))):=br (T:=T) (t:=35) (e:=3) rfl rfl rfl (fun _=>by first|rfl|(simp;done)|(simp;rfl)) h0 h
def rn{l:List bQ}{n:Int}(h0:0<=n)(h:n<(l.length:Int)):au T 38 (aB l) (qi n)=some (.ip (ab (bF l[n.toNat]!))):=by rw[aB,eJ];exact br (T:=T) (t:=38) (e:=96) rfl rfl rfl (fun _=>by first|rfl|(simp;done)|(simp;rfl)) h0 h
def vX{l:List Fun}{n:Int}(h0:0<=n)(h:n<(l.length:Int)):au T 39 (dW l) (qi n)=some (.ip (ab (Fun.av l[n.toNat]!))):=br (T:=T) (t:=39) (e:=51) rfl rfl rfl (fun _=>by first|rfl|(simp;done)|(simp;rfl)) h0 h
def Vs{l:List Vars}{n:Int}(h0:0<=n)(h:n<(l.length:Int)):au T 58 (dP l) (qi n)=some (.ip (ab (Vars.av l[n.toNat]!))):=br (T:=T) (t:=58) (e:=131) rfl rfl rfl (fun _=>by first|rfl|(simp;done)|(simp;rfl)) h0 h
theorem JU{l:List aA}{n:Int}(h0:0<=n)(h:n<(l.length:Int)):au T 68 (bg l) (qi n)=some (.ip (ab (bE l[n.toNat]!))):=br (T:=T) (t:=68) (e:=53) rfl rfl rfl (fun _=>by first|rfl|(simp;done)|(simp;rfl)) h0 h
def Ru{l:List Seen}{n:Int}(h0:0<=n)(h:n<(l.length:Int)):au T 80 (ra l) (qi n)=some (.ip (ab (Seen.av l[n.toNat]!))):=br (T:=T) (t:=80) (e:=26) rfl rfl rfl (fun _=>by first|rfl|(simp;done)|(simp;rfl)) h0 h
def YO{l:List Face}{n:Int}(h0:0<=n)(h:n<(l.length:Int)):au T 83 (faces l) (qi n)=some (.ip (ab (Face.av l[n.toNat]!))):=br (T:=T) (t:=83) (e:=88) rfl rfl rfl (fun _=>by first|rfl|(simp;done)|(simp;rfl)) h0 h
def Rw{l:List Sig}{n:Int}(h0:0<=n)(h:n<(l.length:Int)):au T 86 (sigs l) (qi n)=some (.ip (ab (Sig.av l[n.toNat]!))):=br (T:=T) (t:=86) (e:=121) rfl rfl rfl (fun _=>by first|rfl|(simp;done)|(simp;rfl)) h0 h
def uQ{l:List Ty}{n:Int}(h0:0<=n)(h:n<(l.length:Int)):au T 119 (kE l) (qi n)=some (.ip (ab (Ty.av l[n.toNat]!))):=br (T:=T) (t:=119) (e:=49) rfl rfl rfl (fun _=>by first|rfl|(simp;done)|(simp;rfl)) h0 h
def Vm{a b:List Mod}(h:(a.length+b.length)*192<=140737488355328):cC T 22 (mods a) (mods b)=some (mods (a++b)):=by
 have:=iC (T:=T) (t:=22) (e:=43) rfl rfl rfl (f:=Mod.av) (fun _=>by first|rfl|(simp;done)|(simp;rfl)) (a:=a) (b:=b) h Vc
 simpa [mods]using this
def OQ{a b:List az}(h:(a.length+b.length)*16<=140737488355328):cC T 28 (strs a) (strs b)=some (strs (a++b)):=by
 have:=iC (T:=T) (t:=28) (e:=9) rfl rfl rfl (f:=AV.str) (fun _=>by first|rfl|(simp;done)|(simp;rfl)) (a:=a) (b:=b) h Vc
 simpa [strs]using this
def Vn{a b:List Exp}(h:(a.length+b.length)*96<=140737488355328):cC T 29 (bY a) (bY b)=some (bY (a++b)):=by
 have:=iC (T:=T) (t:=29) (e:=31) rfl rfl rfl (f:=Exp.av) (fun _=>by first|rfl|(simp;done)|(simp;rfl)) (a:=a) (b:=b) h Vc
 simpa [bY,gS]using this
def OR{a b:List Val}(h:(a.length+b.length)*64<=140737488355328):cC T 34 (vals a) (vals b)=some (vals (a++b)):=by
 have:=iC (T:=T) (t:=34) (e:=47) rfl rfl rfl (f:=Val.av) (fun _=>by first|rfl|(simp;done)|(simp;rfl)) (a:=a) (b:=b) h Vc
 simpa [vals,fG]using this
def Vo{a b:List Int}(h:(a.length+b.length)*8<=140737488355328):cC T 35 (ints a) (ints b)=some (ints (a++b)):=by
 have:=iC (T:=T) (t:=35) (e:=3) rfl rfl rfl (f:=AV.int .i64) (fun _=>by first|rfl|(simp;done)|(simp;rfl)) (a:=a) (b:=b) h Vc
 simpa [ints]using this
def Ro{a b:List bQ}(h:(a.length+b.length)*48<=140737488355328):cC T 38 (aB a) (aB b)=some (aB (a++b)):=by
 have:=iC (T:=T) (t:=38) (e:=96) rfl rfl rfl (f:=bF) (fun _=>by first|rfl|(simp;done)|(simp;rfl)) (a:=a) (b:=b) h Vc
 simpa [aB,eJ]using this
def YJ{a b:List Vars}(h:(a.length+b.length)*40<=140737488355328):cC T 58 (dP a) (dP b)=some (dP (a++b)):=by
 have:=iC (T:=T) (t:=58) (e:=131) rfl rfl rfl (f:=Vars.av) (fun _=>by first|rfl|(simp;done)|(simp;rfl)) (a:=a) (b:=b) h Vc
 simpa [dP]using this
def YK{a b:List aA}(h:(a.length+b.length)*32<=140737488355328):cC T 68 (bg a) (bg b)=some (bg (a++b)):=by
 have:=iC (T:=T) (t:=68) (e:=53) rfl rfl rfl (f:=bE) (fun _=>by first|rfl|(simp;done)|(simp;rfl)) (a:=a) (b:=b) h Vc
 simpa [bg]using this
def YL{a b:List Face}(h:(a.length+b.length)*40<=140737488355328):cC T 83 (faces a) (faces b)=some (faces (a++b)):=by
 have:=iC (T:=T) (t:=83) (e:=88) rfl rfl rfl (f:=Face.av) (fun _=>by first|rfl|(simp;done)|(simp;rfl)) (a:=a) (b:=b) h Vc
 simpa [faces]using this
def LF{a b:List Ty}(h:(a.length+b.length)*32<=140737488355328):cC T 119 (kE a) (kE b)=some (kE (a++b)):=by
 have:=iC (T:=T) (t:=119) (e:=49) rfl rfl rfl (f:=Ty.av) (fun _=>by first|rfl|(simp;done)|(simp;rfl)) (a:=a) (b:=b) h Vc
 simpa [kE]using this
theorem Tq(a b:aA):DN T 20 53 (bE a) (bE b)=some (decide (a=b)):=by
 obtain⟨a1,a2⟩:=a;obtain⟨b1,b2⟩:=b;have h:DN T 20 53 (bE (a1,a2)) (bE (b1,b2))=(match some (a1== b1)with|some true=>(match some (a2== b2)with|some true=>some true|some false=>some false|none=>none)|some false=>some false|none=>none):=rfl;rw[h];by_cases h1:a1=b1
 ·by_cases h2:a2=b2
  ·grind
  ·have e2:(a2== b2)=false:=aaN.2 h2;subst h1;simp[e2,h2]
 ·have e1:(a1== b1)=false:=aaN.2 h1;simp[e1,h1]
def C2{V:Type}:List (aA×V)->aA->Nat->Option (Nat×V)
 |[],_,_=>none
 |x:: r,k,i=>if x.1=k then some (i,x.2)else C2 r k (i+1)
theorem xH{V:Type}(f:V->AV):∀(l:List (aA×V))(k:aA)(i:Nat),cV T 53 (bE k) (l.map (gz f)) i=some ((C2 l k i).map fun p=>(p.1,bE k,f p.2))
 |[],k,i=>rfl
 | x:: r,k,i=>by
  simp only[aa0,gz,cV,Tq,C2];by_cases h:k=x.1
  ·subst h;simp
  ·have h':¬(x.1=k):=fun e=>h e.symm;simp only[h,abO,h',aaR];exact xH f r k (i+1)
theorem FP{V:Type}:∀(l:List (aA×V))(k:aA)(i:Nat),(C2 l k i).map (·.2)=jl l k
 |[],_,_=>rfl
 |x:: r,k,i=>by
  simp only[C2,jl];by_cases h:x.1=k
  ·simp[h]
  ·simp only[h,aaR];exact FP r k (i+1)
theorem FQ{V:Type}(v:V):∀(l:List (aA×V))(k:aA)(i:Nat),(C2 l k i=none/\kM l k v=l++[(k,v)])\/∃j u,C2 l k i=some (i+j,u)/\j<l.length/\kM l k v=l.set j (k,v)
 |[],k,i=>.inl ⟨rfl,rfl⟩
 | x:: r,k,i=>by
  simp only[C2,kM];by_cases h:x.1=k
  ·simp_all
  ·simp only[h,aaR];rcases FQ v r k (i+1)with⟨h1,h2⟩|⟨j,u,h1,h2,h3⟩
   ·grind
   ·exact .inr ⟨j+1,u,qr,by simpa using h2,by rw[h3];rfl⟩
def Ju{V:Type}(f:V->AV)(l:List (aA×V))(k:aA)(v:V):uB T 53 (l.map (gz f)) (bE k) (f v)=some ((kM l k v).map (gz f)):=by
 unfold uB;rw[xH];rcases FQ v l k 0 with⟨h1,h2⟩|⟨j,u,h1,h2,h3⟩
 ·rw[h1,h2];simp[gz]
 ·rw[h1,h3];have hs:Gc (bE k) (bE k)=true:=by
   show (k.1== k.1&&(k.2== k.2&&true))=true;rw[abU,abU];rfl
  simp only[abq,hs,aaF,aa7,List.map_set];rfl
theorem Nv{V:Type}(f:V->AV){t et:Nat}{ei:TI}(hm:jM T t=some (53,et))(he:T et=some ei)(l:List (aA×V))(k:aA)(ok:Bool):
  pn T t (l.map (gz f)) (bE k) ok=some (match jl l k with|some v=>(bif ok then .tup [f v,.bool true]else f v)|none=>(bif ok then .tup [iZ ei,.bool false]else iZ ei)):=by
 unfold pn;have hc:GG T 20 53 (bE k)=true:=rfl;simp only[hm,hc,aaF,he,xH];rw[<- FP l k 0];cases C2 l k 0<;>rfl
def vL(n:az):AV:=.tup [.str n,.bool true]
theorem eqS(a b:az):DN T 20 9 (.str a) (.str b)=some (a== b):=rfl
theorem uh:∀(l:List az)(n:az)(i:Nat),∃r,cV T 9 (.str n) (l.map vL) i=some r/\((n∈l/\∃j,r=some (j,.str n,.bool true))\/(n ∉ l/\r=none))
 |[],n,i=>⟨none,rfl,.inr ⟨AI,rfl⟩⟩
 | x:: l,n,i=>by
  simp only[aa0,vL,cV,eqS];by_cases h:n=x
  ·grind
  ·have e:(n== x)=false:=aaN.2 h;rw[e];obtain⟨r,h1,h2⟩:=uh l n (i+1)
   grind
theorem KU(l:List az)(n:az):pn T 156 (l.map vL) (.str n) false=some (.bool (decide (n∈l))):=by
 unfold pn;have hm:jM T 156=some (9,4):=rfl;have hc:GG T 20 9 (.str n)=true:=rfl;have hz:∃ei,T 4=some ei/\iZ ei= .bool false:=⟨_,rfl,rfl⟩;obtain⟨ei,hz1,hz2⟩:=hz;obtain⟨r,h1,h2⟩:=uh l n 0
 grind
def NV(l:List az)(n:az)(h:n ∉ l):uB T 9 (l.map vL) (.str n) (.bool true)=some ((l++[n]).map vL):=by
 unfold uB;obtain⟨r,h1,h2⟩:=uh l n 0;rcases h2 with⟨h2,_⟩|⟨_,rfl⟩
 all_goals grind [vL]
theorem NC:jM T 148=some (53,51):=rfl
theorem ND:jM T 150=some (53,53):=rfl
theorem XW:jM T 226=some (53,4):=rfl
theorem XV:jM T 156=some (9,4):=rfl
end Go.Proofs.YtkkdcdofponfiaaGreat
namespace Go.Proofs.YtkkdcdofponfiaaGreat
open Go Go.Av
set_option maxRecDepth 1000000
instance dr0:Dr:=⟨False⟩
def CY{p:Prop}(h:Dr.on):p:=False.elim h
def UI:(tab.map fun x=>UJ Tryz.prog x.1)=tab.map fun x=>some x.2:=BT
theorem AQ:(l:List (Nat×TI))->(t:Nat)->(ti:TI)->I6 l t=some ti->(t,ti)∈l
 |[],t,ti,h=>by cases h
 | (k,x):: r,t,ti,h=>by
  simp only[I6]at h;cases hk:Nat.beq k t with
  |true=>
   simp_all
  |false=>
   rw[hk]at h;exact abb _ (AQ r t ti h)
theorem rU{α β:Type}{f g:α->β}:{l:List α} ->l.map f=l.map g->∀x∈l,f x=g x
 |[],_,x,hx=>by cases hx
 |a:: l,h,x,hx=>by
  simp only[aa0,abQ]at h;rcases aaT.1 hx with rfl|hx
  all_goals simp_all
def tok:TOK Tryz.prog T:=⟨fun t ti h=>rU UI (t,ti) (AQ tab t ti h),BT⟩
theorem Du:(se.map fun x=>Tryz.prog.funcs[x.1]?)=se.map fun x=>some x.2.1:=BT
theorem sf:(se.map fun x=>x.2.1.name== "runtime.NumGoroutine")=se.map fun _=>false:=BT
theorem ug:(l:List (Nat×(Func×Ann)))->(t:Nat)->(x:Func×Ann)->xD l t=some x->(t,x)∈l
 |[],t,ti,h=>by cases h
 | (k,x):: r,t,ti,h=>by
  simp only[xD]at h;cases hk:Nat.beq k t with
  |true=>
   simp_all
  |false=>
   rw[hk]at h;exact abb _ (ug r t ti h)
def xU:∀f fn a,pg.funcs f=some (fn,a)->Tryz.prog.funcs[f]? = some fn/\(fn.name== "runtime.NumGoroutine")=false:=by
 intro f fn a h
 have:=ug se f (fn,a) h
 grind [rU,Du,sf]
end Go.Proofs.YtkkdcdofponfiaaGreat
