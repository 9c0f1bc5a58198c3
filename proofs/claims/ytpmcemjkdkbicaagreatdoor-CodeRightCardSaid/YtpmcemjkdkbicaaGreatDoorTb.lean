/- What the functions of the seat compute, part 2: the texts of the claim, one behind the other. Conditions: bounds, as each theorem names them. -/
import Derived.Test.YtpmcemjkdkbicaaGreatDoorTa
import Derived.RangeFuncNested
import Derived.RangeFuncBound
import Derived.RangeFuncCalls
import Derived.RangeFuncLeaves
import Derived.RangeFuncBox
import Derived.Shelf.Abstract
import Derived.Shelf.RegionOpen
import Derived.OwnWalkIn
import Derived.TacticsInMore
import Derived.LoopNIn
import Derived.LoopIn
import Derived.Test.YtpmcemjkdkbicaaGreatDoorRows
import Derived.Lib.LaidTab
import Derived.Stop.LaidErr
import Derived.Shelf.Vars
import Derived.ProofKit
import Derived.Deep.DeepHandedRow
import Derived.Deep.DeepWitnessRowRef
import Derived.Deep.DeepLaidRun
set_option linter.defProp false
set_option linter.unusedSimpArgs false
set_option linter.unusedVariables false
namespace Go.Proofs.YtpmcemjkdkbicaaGreatDoor
open Go Go.Av Go.RowKit Go.Shelf
attribute [local go_sem] Oper.semAt_some
abbrev dl:=ByteArray×Int×(Option Addr×Nat×Nat)
def dl.k(x:dl):Value:=.int .i64 x.2.1
def dl.f(x:dl):Value:=.slice x.2.2.1 x.2.2.2.1 x.2.2.2.2
def zG(x:dl):Value:=.agg #[.string x.1,x.k,x.f]
def back(zs:List dl)(k:Nat):List (Nat×dl):=(List.range k).map fun j=>(zs.length-1-j,zs[zs.length-1-j]?.getD default)
def qR(zs:List dl)(k:Nat):back zs (k+1)=back zs k++[(zs.length-1-k,zs[zs.length-1-k]?.getD default)]:=by simp[back,List.range_succ]
def tA(zs:List dl)(k:Nat):(back zs k).length=k:=by simp[back]
def ow(W:World)(b off:Nat)(zs:List dl):Prop:=∀j,j<zs.length->W.cell? ⟨b,off+j*3,none⟩=some (.string (zs[j]?.getD default).1)/\W.cell? ⟨b,off+j*3+1,none⟩=some (zs[j]?.getD default).k/\W.cell? ⟨b,off+j*3+2,none⟩=some (zs[j]?.getD default).f
def ow.below{n₀:Nat}{A B:World}(h:Below n₀ A B){b off:Nat}(hb:b<n₀){zs:List dl}(c:ow A b off zs):ow B b off zs:=fun j hj=>by
 obtain⟨h1,h2,h3⟩:=c j hj;exact⟨(h.cell (p:=⟨b,_,none⟩) hb).trans h1,(h.cell (p:=⟨b,_,none⟩) hb).trans h2,(h.cell (p:=⟨b,_,none⟩) hb).trans h3⟩
set_option maxRecDepth 100000 in
set_option maxHeartbeats 2000000 in
def GE(F:Fence)(n:Nat)(h7:F.fn 126)(hro:F.round=none)(hn:1<=n)(l Bs n₀ b off cap:Nat)(zs:List dl)(hreach:zs.length<=1000000000)(hb:b<n₀)(hBn:Bs<n₀)(J Jx:List (Nat×dl)->World->Prop)
  (hY:∀pre x W,J pre W->pre.length<zs.length->YieldAt F (n-1) Tryz.prog l #[.int .i64 (x.1:Int),zG x.2] W fun e W'=>
   (e= .returned (.bool true)/\J (pre++[x]) W'/\Below n₀ W W')\/(e= .returned (.bool false)/\Jx (pre++[x]) W'))
  (W:World) (hBs:W.cell? ⟨Bs,0,none⟩=some (.slice (some ⟨b,off,none⟩) zs.length cap)) (hc:ow W b off zs) (h0:J [] W):
  CallsIn F n Tryz.prog 126 #[.func (.yield l) #[] #[],.pointer (some ⟨Bs,0,none⟩)] W fun e W'=>(∃v,e= .returned v)/\
   ((∃ys,ys=back zs zs.length/\J ys W')\/(∃pre,(∃k,k<=zs.length/\pre=back zs k)/\Jx pre W')):=by
 refine callsIn_of_wp Tryz.func126 rfl h7 ?_ hro;simp only[Tryz.ntmps126,Nm,LQ,Mb,Nat.reduceAdd,Nat.reduceSub,NQ,NR,N6,NW,Mn,Mg]
 gi_wp2
 gi_loopw [3] (fun i wr=>∃k:Nat,k<=zs.length/\i= .int .i64 ((zs.length:Int)-1-k)/\J (back zs k) wr/\Below n₀ W wr)
  (fun i _=>(intOf i+1).toNat)
 case atStart=>exact⟨0,LZ _,by simp,h0,Below.refl _ _⟩
 case round=>
  obtain⟨k,hk,rfl,hJs,hnx⟩:=hrel;have hbs:wr.cell? ⟨Bs,0,none⟩=some (.slice (some ⟨b,off,none⟩) zs.length cap):=(hnx.cell (p:=⟨Bs,0,none⟩) hBn).trans hBs;by_cases hlt:k<zs.length
  ·obtain⟨fn,tmps,assign,body,hy,hR⟩:=hY _ (zs.length-1-k,zs[zs.length-1-k]?.getD default) wr hJs (by rw[tA];exact hlt);dsimp only at hy;obtain⟨m,hm⟩:∃m:Nat,(zs.length:Int)-1-k=m:=⟨zs.length-1-k,by omega⟩;have hm':zs.length-1-k=m:=by omega
   rw[hm']at hy hR;rw[hm];obtain⟨c1,c2,c3⟩:=(hc.below hnx hb) m (by omega);generalize hz:zs[m]?.getD default=z at hy hR c1 c2 c3;obtain⟨z1,z2,z3,z4,z5⟩:=z;have hml:m<zs.length:=by omega
   simp only[zG,dl.k,dl.f]at hy c2 c3
   gi_wp2
   refine hR.mono ?_;rintro e W3 (⟨rfl,hJ3,hk3⟩|⟨rfl,hJx3⟩)
   ·gi_wp2
    go_roundw
    case rel=>exact⟨k+1,by omega,by congr 1;omega,by rw[qR,hm',hz];exact hJ3,hnx.trans hk3⟩
    case measure=>simp[intOf]<;>omega
   ·gi_wp2
    refine bodyPost_ret (results_none rfl _ _ _) rfl ?_;exact⟨⟨_,rfl⟩,.inr ⟨_,⟨k+1,by omega,by rw[qR,hm',hz]⟩,hJx3⟩⟩
  ·obtain rfl:k=zs.length:=by omega
   gi_wp2
   go_end0
   exact⟨⟨_,rfl⟩,.inl ⟨_,rfl,hJs⟩⟩
set_option maxRecDepth 100000 in
set_option maxHeartbeats 1000000 in
def wP(F:Fence)(n:Nat)(h7:F.fn 126)(hro:F.round=none)(l Bs:Nat)(p:Option Addr)(cap:Nat)(J:List (Nat×dl)->World->Prop)(W:World)(hBs:W.cell? ⟨Bs,0,none⟩=some (.slice p 0 cap))(h0:J [] W):
  CallsIn F n Tryz.prog 126 #[.func (.yield l) #[] #[],.pointer (some ⟨Bs,0,none⟩)] W fun e W'=>(∃v,e= .returned v)/\J [] W':=by
 refine callsIn_of_wp Tryz.func126 rfl h7 ?_ hro;simp only[Tryz.ntmps126,Nm,LQ,Mb,Nat.reduceAdd,Nat.reduceSub,NQ,NR,N6,NW,Mn,Mg]
 gi_wp2
 gi_loopw [3] (fun i wr=>i= .int .i64 (-1)/\J [] wr) (fun _ _=>0)
 case atStart=>exact⟨rfl,h0⟩
 case round=>
  obtain⟨rfl,hJs⟩:=hrel
  gi_wp2
  go_end0
  exact⟨⟨_,rfl⟩,hJs⟩
set_option maxHeartbeats 1000000 in
def Iv(F:Fence)(n:Nat)(h5:F.fn 104)(hro:F.round=none)(a:Option Addr)(len cap:Nat)(w:World):
  CallsIn F n Tryz.prog 104 #[.slice a len cap] w fun e w'=>e= .returned (.func (.func 126) #[] #[.pointer (some ⟨w.heap.size,0,none⟩)])/\w'=w.alloc (.cells #[.slice a len cap] 36):=by
 refine callsIn_of_wp Tryz.func104 rfl h5 ?_ hro;simp only[Tryz.ntmps104,Nm,LQ,Mb,Nat.reduceAdd,Nat.reduceSub,NQ,NR,N6,NW,Mn,Mg]
 gi_wp2
 go_ret
 exact⟨rfl,rfl⟩
def lG(n₀:Nat)(W:World)(sv:Value)(zs:List dl):Prop:=
 (zs=[]/\∃p cap,sv= .slice p 0 cap)\/∃b off cap,sv= .slice (some ⟨b,off,none⟩) zs.length cap/\b<n₀/\ow W b off zs
theorem lG.below{n₀:Nat}{A B:World}(h:Below n₀ A B){sv:Value}{zs:List dl}:lG n₀ A sv zs->lG n₀ B sv zs
 |.inl e=>.inl e
 |.inr ⟨b,off,cap,e,hb,hc⟩=>.inr ⟨b,off,cap,e,hb,hc.below h hb⟩
theorem lG.mono{n n':Nat}(h:n<=n'){W:World}{sv:Value}{zs:List dl}:lG n W sv zs->lG n' W sv zs
 |.inl e=>.inl e
 |.inr ⟨b,off,cap,e,hb,hc⟩=>.inr ⟨b,off,cap,e,Mr hb h,hc⟩
def Bp(F:Fence)(n:Nat)(h8:F.fn 126)(hro:F.round=none)(hn:1<=n)(Bs:Nat)(sv:Value)(zs:List dl)(hreach:zs.length<=1000000000)(w:World)(hBs:Bs<w.heap.size)(hc:w.cell? ⟨Bs,0,none⟩=some sv)(hI:lG w.heap.size w sv zs):
  SeqStopsK F n Tryz.prog 126 #[.pointer (some ⟨Bs,0,none⟩)] (fun x:Nat×dl=>#[Value.int .i64 (x.1:Int),zG x.2]) (Below w.heap.size) (fun ys=>ys=back zs zs.length)
   (fun pre=>∃k,k<=zs.length/\pre=back zs k) zs.length w:=fun l J Jx W hW _ _ hY h0=>by
 have hc':=(hW.cell (p:=⟨Bs,0,none⟩) hBs).trans hc;rcases hI.below hW with⟨rfl,p,cap,rfl⟩|⟨b,off,cap,rfl,hb,hcs⟩
 ·exact (wP F n h8 hro l Bs p cap J W hc' h0).mono fun e W' ⟨he,hj⟩=>⟨he,.inl ⟨_,rfl,hj⟩⟩
 ·exact GE F n h8 hro hn l Bs w.heap.size b off cap zs hreach hb hBs J Jx hY W hc' hcs h0
def mY(zs:List dl)(x:ByteArray):Option dl:=zs.reverse.find? fun z=>decide (z.1=x)
def sM(zs:List dl)(x:ByteArray)(z0 z1:Value):Value:=match mY zs x with
 |some z=>.tuple #[.agg #[z.k,z.f],.bool true]
 |none=>.tuple #[.agg #[z0,z1],.bool false]
def tB(zs:List dl){k:Nat}(hk:k<=zs.length):(back zs k).map (·.2)=zs.reverse.take k:=by
 apply Ob
 ·simp[back,hk]
 ·intro i h1 h2;have hi:i<k:=by simpa [back]using h1
  have h3:zs.length-1-i<zs.length:=by omega
  simp[back,h3]
def uC{zs:List dl}{x:ByteArray}(h:∀p∈back zs zs.length,p.2.1≠x):mY zs x=none:=by
 unfold mY;rw[List.find?_eq_none];intro z hz;have hm:=tB zs (LI _);rw[Nj (by simp)]at hm;rw[<- hm]at hz;obtain⟨p,hp,rfl⟩:=Mu.1 hz;simpa using h p hp
def uD{zs:List dl}{x:ByteArray}{k:Nat}(hk:k<=zs.length){ini:List (Nat×dl)}{last:Nat×dl}(e1:back zs k=ini++[last])(e2:∀p∈ini,p.2.1≠x)(e3:last.2.1=x):mY zs x=some last.2:=by
 have hm:=tB zs hk;rw[e1,NA]at hm;unfold mY;rw[<- List.take_append_drop k zs.reverse,<- hm,Mz,List.find?_append];have h1:(ini.map (·.2)).find? (fun z=>decide (z.1=x))=none:=by
  rw[List.find?_eq_none];intro z hz;obtain⟨p,hp,rfl⟩:=Mu.1 hz;simpa using e2 p hp
 rw[h1];simp[e3]
def cM(W:World)(B:Nat)(t:TypeId)(cs:Array Value):Prop:=W.heap[B]? = some (.cells cs t (0,0))
def cM.lt{W:World}{B:Nat}{t:TypeId}{cs:Array Value}(h:cM W B t cs):B<W.heap.size:=(Ml.1 h).1
def cM.cell{W:World}{B:Nat}{t:TypeId}{cs:Array Value}(h:cM W B t cs)(o:Nat):W.cell? ⟨B,o,none⟩=cs[o]?:=by simp[World.cell?,show W.heap[B]? = _ from h]
def cM.frozen{W:World}{B:Nat}{t:TypeId}{cs:Array Value}(h:cM W B t cs)(o:Nat):W.frozen? ⟨B,o,none⟩=false:=by simp[World.frozen?,show W.heap[B]? = _ from h]
def cM.new(W:World)(t:TypeId)(cs:Array Value):cM (W.alloc (.cells cs t)) W.heap.size t cs:=World.alloc_heap_new W _
def cM.kept{W W':World}{row:Option Nat}{B:Nat}{t:TypeId}{cs:Array Value}(h:cM W B t cs)(hg:W.grownBy W' row)(hne:some B≠row):cM W' B t cs:=(hg.block B h.lt hne).trans h
def cM.alloc{W:World}{B:Nat}{t:TypeId}{cs:Array Value}(h:cM W B t cs)(o:Obj):cM (W.alloc o) B t cs:=h.kept (World.grownBy_alloc W o none) (by simp)
def cM.put{W:World}{B:Nat}{t:TypeId}{cs:Array Value}(h:cM W B t cs){l:Nat}{o:Obj}(o':Obj)(hl:W.heap[l]? = some o)(ho:o.isCells=false):cM (W.putObj l o') B t cs:=
 h.kept (grownBy_putObj' W l o') (fun e=>by cases e;rw[show W.heap[B]? = _ from h]at hl;cases hl;cases ho)
def qD(W:World)(b o:Nat)(v:Value):W.grownBy (W.setCell ⟨b,o,none⟩ v) (some b):=
 ⟨rfl,rfl,rfl,(KeepsWalks.setCell W _ v).size,fun k _ hk=>Below.heap_setCell _ _ _ k (fun e=>hk (by rw[e]))⟩
def cM.other{W:World}{B B' o:Nat}{t:TypeId}{cs:Array Value}(h:cM W B t cs)(hne:B≠B')(u:Value):cM (W.setCell ⟨B',o,none⟩ u) B t cs:=h.kept (qD W B' o u) (fun e=>hne (by cases e;rfl))
def cM.set{W:World}{B:Nat}{t:TypeId}{cs:Array Value}(h:cM W B t cs)(o:Nat)(v:Value):cM (W.setCell ⟨B,o,none⟩ v) B t (cs.setIfInBounds o v):=by
 obtain⟨hlt,hk⟩:=Ml.1 h;show (W.heap.modify B _)[B]? = _;rw[MU (by rw[Array.size_modify];exact hlt),Array.getElem_modify_self,hk];rfl
def Ar{x y:ByteArray}(h:(x.toList== y.toList)=true):x=y:=by
 have:=MF.1 h
 rw[ByteArray.toList_eq,ByteArray.toList_eq]at this;exact ByteArray.ext (Ni this)
def Au{x y:ByteArray}(h:(x.toList== y.toList)=false):x≠y:=by
 rintro rfl;simp at h
def f0{β:Type}(B:Nat)(t:TypeId)(f:β->Array Value):Own (fun s W=>cM W B t (f s)):=fun s X Y row hs hg hrow=>
 hs.kept hg (fun e'=>by obtain⟨o,ho,hc⟩:=hrow B e'.symm;rw[show X.heap[B]? = _ from hs]at ho;cases ho;cases hc)
set_option maxRecDepth 100000 in
set_option maxHeartbeats 4000000 in
def Dy(F:Fence)(n:Nat)(h3:F.fn 81)(h5:F.fn 104)(h7:F.fn 126)(hro:F.round=none)(hn:3<=n)(a:Option Addr)(len cap:Nat)(x:ByteArray)(zs:List dl)(hreach:zs.length<=1000000000)(w:World)(hI:lG w.heap.size w (.slice a len cap) zs):
  CallsIn F n Tryz.prog 81 #[.slice a len cap,.string x] w fun e W'=>e= .returned (sM zs x (.int .i64 0) (.slice none 0 0))/\Below w.heap.size w W':=by
 have h1:1<=n:=by omega
 refine callsIn_of_wp_marks Tryz.func81 rfl h3 ?_ hro;simp only[Tryz.ntmps81,Nm,LQ,Mb,Nat.reduceAdd,Nat.reduceSub,NQ,NR,N6,NW,Mn,Mg]
 gi_wp2_with (gi_at_call 104;refine (Iv F (n-1) h5 hro _ _ _ _).mono ?_;rintro e w' ⟨rfl,rfl⟩)
 have b0:=(((cM.new w 9 #[.string x]).alloc (.cells #[.int .i64 0,.slice none 0 0] 55)).alloc (.cells #[.bool false] 4)).alloc (.cells #[.slice a len cap] 36);have b1:=((cM.new (w.alloc (.cells #[.string x] 9)) 55 #[.int .i64 0,.slice none 0 0]).alloc (.cells #[.bool false] 4)).alloc (.cells #[.slice a len cap] 36);have b2:=(cM.new ((w.alloc (.cells #[.string x] 9)).alloc (.cells #[.int .i64 0,.slice none 0 0] 55)) 4 #[.bool false]).alloc (.cells #[.slice a len cap] 36);have b3:=cM.new (((w.alloc (.cells #[.string x] 9)).alloc (.cells #[.int .i64 0,.slice none 0 0] 55)).alloc (.cells #[.bool false] 4)) 36 #[.slice a len cap];simp only[World.size_alloc]at b1 b2 b3;have hB0:Below w.heap.size w ((((w.alloc (.cells #[.string x] 9)).alloc (.cells #[.int .i64 0,.slice none 0 0] 55)).alloc (.cells #[.bool false] 4)).alloc (.cells #[.slice a len cap] 36)):=
  ((((Below.refl _ w).alloc (LI _) _).alloc (by simp) _).alloc (by simp;omega) _).alloc (by simp;omega) _
 have hsz:((((w.alloc (.cells #[.string x] 9)).alloc (.cells #[.int .i64 0,.slice none 0 0] 55)).alloc (.cells #[.bool false] 4)).alloc (.cells #[.slice a len cap] 36)).heap.size=w.heap.size+4:=by simp
 obtain⟨W0,hW0⟩:∃W0,((((w.alloc (.cells #[.string x] 9)).alloc (.cells #[.int .i64 0,.slice none 0 0] 55)).alloc (.cells #[.bool false] 4)).alloc (.cells #[.slice a len cap] 36))=W0:=⟨_,rfl⟩;rw[hW0]at b0 b1 b2 b3 hB0 hsz |-;clear hW0;refine wpIn_rangeFunc_ownH hro h1 (gf:=126) (lb:=#[.pointer (some ⟨w.heap.size+1+1+1,0,none⟩)]) rfl h7 (enters_of Tryz.func126 (by kernel_rfl) rfl)
  (Bp F (n-1) h7 hro (by omega) (w.heap.size+1+1+1) _ zs hreach W0 (by omega) (b3.cell 0) ((hI.below hB0).mono (by omega))) belowK_t (belowK_b (LI _)) (Below.refl _ _) (fun _=>rfl)
  (fun pre W=>(∀p∈pre,p.2.1≠x)/\(cM W w.heap.size 9 #[.string x]/\cM W (w.heap.size+1) 55 #[.int .i64 0,.slice none 0 0]/\cM W (w.heap.size+1+1) 4 #[.bool false]/\cM W (w.heap.size+1+1+1) 36 #[.slice a len cap])/\Below w.heap.size w W)
  (fun c pre W=>(c= .ret/\∃ini last,pre=ini++[last]/\(∀p∈ini,p.2.1≠x)/\last.2.1=x/\cM W (w.heap.size+1) 55 #[last.2.k,last.2.f]/\cM W (w.heap.size+1+1) 4 #[.bool true])/\Below w.heap.size w W)
  ?hI ?hIx ⟨fun _ h=>(by cases h),⟨b0,b1,b2,b3⟩,hB0⟩
  (fun y a' W=>∃Bx,cM W Bx 95 #[.string y.2.1,y.2.k,y.2.f]/\a'= { tmps:=#[.slice a len cap,.string x,undef,.pointer (some ⟨w.heap.size,0,none⟩),.pointer (some ⟨w.heap.size+1,0,none⟩),.pointer (some ⟨w.heap.size+1+1,0,none⟩),undef,.pointer (some ⟨Bx,0,none⟩),.slice a len cap,.func (.func 126) #[] #[.pointer (some ⟨w.heap.size+1+1+1,0,none⟩)],.int .i64 (y.1:Int),zG y.2,undef,undef,undef,undef,undef,undef,undef],defers:=[] })
  (fun y a' _ X Y row hs hg hr=>by obtain⟨Bx,h2,h3⟩:=hs;exact⟨Bx,f0 Bx 95 (fun(_:Unit)=>#[Value.string y.2.1,y.2.k,y.2.f]) () X Y row h2 hg (fun r e=>(hr r e).2),h3⟩)
  ?assign ?body ?done ?stop
 case hI=>exact OwnFrom.and (ownFrom_pure _ _) (OwnFrom.and (OwnFrom.and (Own.from (f0 _ _ _) _) (OwnFrom.and (Own.from (f0 _ _ _) _) (OwnFrom.and (Own.from (f0 _ _ _) _) (Own.from (f0 _ _ _) _)))) (ownFrom_below (LI _) (by omega)))
 case hIx=>
  intro c;refine OwnFrom.and (Own.from (fun s A B row hs hg hr=>?_) _) (ownFrom_below (LI _) (by omega));obtain⟨hc,ini,last,e1,e2,e3,e4,e5⟩:=hs;exact⟨hc,ini,last,e1,e2,e3,f0 _ _ (fun(_:Unit)=>#[last.2.k,last.2.f]) () A B row e4 hg hr,f0 _ _ (fun(_:Unit)=>#[Value.bool true]) () A B row e5 hg hr⟩
 case assign=>
  rintro l pre y W K ⟨hp,⟨r0,r1,r2,r3⟩,hB⟩ hK;obtain⟨yi,y1,y2,y3,y4,y5⟩:=y;simp only[zG,dl.k,dl.f]at hK |-
  gi_wp2
  exact hK _ _ ((KeepsOthers.alloc _ _).from _) ((Below.refl _ W).alloc (by have:=r3.lt;omega) _) ⟨hp,⟨r0.alloc _,r1.alloc _,r2.alloc _,r3.alloc _⟩,hB.alloc hB.size _⟩ ⟨W.heap.size,cM.new W _ _,rfl⟩
 case body=>
  rintro l pre y a' W hl ⟨r,hr⟩ ⟨hp,⟨r0,r1,r2,r3⟩,hB⟩ ⟨Bx,rx,rfl⟩ hlt;obtain⟨yi,y1,y2,y3,y4,y5⟩:=y;simp only[zG,dl.k,dl.f]at rx |-;have c0:=r0.cell 0;have yU:=rx.cell 0;have cx1:=rx.cell 1;have cx2:=rx.cell 2;have f10:=r1.frozen 0;have f11:=r1.frozen 1;have f20:=r2.frozen 0;have c10:=r1.cell 0;have c11:=r1.cell 1;have c20:=r2.cell 0;simp at c0 yU cx1 cx2 c10 c11 c20
  gi_wp2
  ·have hx:y1=x:=Ar (by assumption);have r1':=((r1.set 0 (.int .i64 y2)).set 1 (.slice y3 y4 y5)).other (B':=w.heap.size+1+1) (o:=0) (by omega) (.bool true);have r2':=((r2.other (B':=w.heap.size+1) (o:=0) (by omega) (.int .i64 y2)).other (B':=w.heap.size+1) (o:=1) (by omega) (.slice y3 y4 y5)).set 0 (.bool true);exact⟨(((KeepsOthers.setCell _ _ _).trans (KeepsOthers.setCell _ _ _)).trans (KeepsOthers.setCell _ _ _)).from _,⟨rfl,pre,(yi,y1,y2,y3,y4,y5),rfl,hp,hx,r1',r2'⟩,
    ((hB.setCell (p:=⟨w.heap.size+1,0,none⟩) (by simp) _).setCell (p:=⟨w.heap.size+1,1,none⟩) (by simp) _).setCell (p:=⟨w.heap.size+1+1,0,none⟩) (by simp;omega) _⟩
  ·have hx:y1≠x:=Au (by assumption);exact⟨KeepsFrom.refl _ _,Below.refl _ _,fun p hp'=>(L3.1 hp').elim (hp p) (fun e=>by simp at e;subst e;exact hx),⟨r0,r1,r2,r3⟩,hB⟩
 case done=>
  rintro D ys W hD rfl ⟨hne,⟨r0,r1,r2,r3⟩,hB⟩ hK;have f10:=r1.frozen 0;have f11:=r1.frozen 1;have f20:=r2.frozen 0;have c10:=r1.cell 0;have c11:=r1.cell 1;have c20:=r2.cell 0;simp at c10 c11 c20
  gi_wp2
  have r1':=((r1.set 0 (.int .i64 0)).set 1 (.slice none 0 0)).other (B':=w.heap.size+1+1) (o:=0) (by omega) (.bool false);have r2':=((r2.other (B':=w.heap.size+1) (o:=0) (by omega) (.int .i64 0)).other (B':=w.heap.size+1) (o:=1) (by omega) (.slice none 0 0)).set 0 (.bool false);have hB':=((hB.setCell (p:=⟨w.heap.size+1,0,none⟩) (by simp) (.int .i64 0)).setCell (p:=⟨w.heap.size+1,1,none⟩) (by simp) (.slice none 0 0)).setCell (p:=⟨w.heap.size+1+1,0,none⟩) (by simp;omega) (.bool false);have hK':=(((KeepsOthers.setCell W ⟨w.heap.size+1,0,none⟩ (.int .i64 0)).trans (KeepsOthers.setCell _ ⟨w.heap.size+1,1,none⟩ (.slice none 0 0))).trans (KeepsOthers.setCell _ ⟨w.heap.size+1+1,0,none⟩ (.bool false))).same D _ hK rfl;refine⟨by simp,.inl ⟨_,_,rfl,run_takeDeferred hK',?_⟩⟩;have q10:=(r1'.put (.deferred none) hK' rfl).cell 0;have q11:=(r1'.put (.deferred none) hK' rfl).cell 1;have q20:=(r2'.put (.deferred none) hK' rfl).cell 0;simp at q10 q11 q20;refine⟨.tuple #[.agg #[.int .i64 0,.slice none 0 0],.bool false],?_,?_,hB'.trans (belowK_b (w:=w) (LI _) _ D _ _ (by omega) hK' rfl rfl)⟩
  rotate_left
  ·unfold sM;rw[uC hne]
  ·simp[results,Tryz.f81,go_sem,q10,q11,q20]
 case stop=>
  rintro D c pre W hD ⟨k,hk,rfl⟩ ⟨⟨rfl,ini,last,e1,e2,e3,r1,r2⟩,hB⟩ hK
  gi_wp2
  refine⟨by simp,.inl ⟨_,_,rfl,run_takeDeferred hK,?_⟩⟩;have q10:=(r1.put (.deferred none) hK rfl).cell 0;have q11:=(r1.put (.deferred none) hK rfl).cell 1;have q20:=(r2.put (.deferred none) hK rfl).cell 0;simp at q10 q11 q20;refine⟨.tuple #[.agg #[last.2.k,last.2.f],.bool true],?_,?_,hB.trans (belowK_b (w:=w) (LI _) W D _ _ (by omega) hK rfl rfl)⟩
  rotate_left
  ·unfold sM;rw[uD hk e1 e2 e3]
  ·simp[results,Tryz.f81,go_sem,q10,q11,q20]
end Go.Proofs.YtpmcemjkdkbicaaGreatDoor
namespace Go.Proofs.YtpmcemjkdkbicaaGreatDoor
open Go Go.Av Go.RowKit
set_option maxRecDepth 100000
def Hq(S:aF)(β:List bO)(y:List UInt8×Int×List AV)(z:dl):Prop:=z.1.data.toList=y.1/\z.2.1=y.2.1/\VR S β (.sl y.2.2) z.f
def jH(S:aF)(β:List bO):List (List UInt8×Int×List AV)->List dl->Prop
 |[],zs=>zs=[]
 |y:: l,zs=>∃z r,zs=z:: r/\Hq S β y z/\jH S β l r
theorem jH.length{S:aF}{β:List bO}:{l:List (List UInt8×Int×List AV)} ->{zs:List dl} ->jH S β l zs->zs.length=l.length
 |[],_,h=>by simp only[jH]at h;simp[h]
 |y:: l,zs,h=>by
  simp only[jH]at h;obtain⟨z,r,rfl,_,h⟩:=h;simp[jH.length h]
def zc{e:AV}{y:List UInt8×Int×List AV}(h:t7 e=some y):e= .agg [.str y.1,.int .i64 y.2.1,.sl y.2.2]:=by
 unfold t7 at h;split at h
 ·cases h;rfl
 ·cases h
theorem HV{S:aF}{β:List bO}{b sz:Nat}:(es:List AV)->(off:Nat)->(l:List (List UInt8×Int×List AV))->bV S β es b off sz->fU es=some l->
  ∃zs:List dl,jH S β l zs/\∀j,j<zs.length->S b (off+j*3)=some (.string (zs[j]?.getD default).1)/\S b (off+j*3+1)=some (zs[j]?.getD default).k/\S b (off+j*3+2)=some (zs[j]?.getD default).f
 |[],off,l,_,h=>by
  simp only[fU,LA]at h;subst h;exact⟨[],rfl,fun j hj=>by simp at hj⟩
 | e :: es,off,l,he,h=>by
  simp only[fU]at h;cases h1:t7 e with
  |none=>rw[h1]at h;cases h
  | some y=>
   cases h2:fU es with
   |none=>rw[h1,h2]at h;cases h
   | some l'=>
    rw[h1,h2]at h;simp only[LA]at h;subst h;simp only[bV]at he;obtain⟨⟨v,hv,hs,hc⟩,he⟩:=he
    have:=zc h1
    subst this;simp only[VR,bg]at hv;obtain⟨vs,rfl,_,_,rfl,⟨x,rfl,hx⟩,_,_,rfl,rfl,v3,_,rfl,hv3,rfl⟩:=hv;obtain⟨p,cap,hp,hq1,hq2,hq3⟩:=hv3;subst hp;have hsz:sz=3:=by rw[<- hs];rfl
    subst hsz;obtain⟨zs,hR,hZ⟩:=HV es (off+3) l' he h2;have c0:=hc 0 _ rfl;have c1:=hc 1 _ rfl;have c2:=hc 2 _ rfl;refine⟨(x,y.2.1,(p,y.2.2.length,cap)):: zs,⟨_,_,rfl,⟨hx,rfl,by simp only[dl.f,VR];exact⟨p,cap,rfl,hq1,hq2,hq3⟩⟩,hR⟩,fun j hj=>?_⟩;cases j with
    |zero=>exact⟨by simpa using c0,by simpa [dl.k]using c1,by simpa [dl.f]using c2⟩
    |succ j=>
     have:=hZ j (by simpa using hj)
     rw[show off+3+j*3=off+(j+1)*3 by omega]at this;simpa using this
theorem lZ{S:aF}{β:List bO}{x:ByteArray}{name:List UInt8}(hx:x.data.toList=name):{l:List (List UInt8×Int×List AV)} ->{zs:List dl} ->jH S β l zs->
  (cf (fun z=>z.1== name) l=none/\cf (fun z:dl=>decide (z.1=x)) zs=none)\/∃y z,cf (fun z=>z.1== name) l=some y/\cf (fun z:dl=>decide (z.1=x)) zs=some z/\Hq S β y z
 |[],zs,h=>by simp only[jH]at h;subst h;exact .inl ⟨rfl,rfl⟩
 | y :: l,zs,h=>by
  simp only[jH]at h;obtain⟨z,r,rfl,hz,h⟩:=h;rcases lZ hx h with⟨h1,h2⟩|⟨y',z',h1,h2,h3⟩
  ·have he:(y.1== name)=decide (z.1=x):=by
    rw[<- hz.1,<- hx];by_cases h:z.1=x
    ·subst h;simp
    ·have h':z.1.data.toList≠x.data.toList:=fun h'=>h (ByteArray.ext (Ni h'));rw[Mp h];exact LX.2 h'
   simp only[cf,h1,h2,he];cases decide (z.1=x)with
   |true=>exact .inr ⟨y,z,rfl,rfl,hz⟩
   |false=>exact .inl ⟨rfl,rfl⟩
  ·simp only[cf,h1,h2];exact .inr ⟨_,_,rfl,rfl,h3⟩
def IG(call:FuncId->List AV->M AV)(args:List AV)(h:Hp)(S:aF)(β:List bO)(w:World)(vs:List Value)(hr:kC call args h≠.fail)(hg:qK S β h w)(hw:Wf S w)(hh:de S β w h)(hv:bg S β args vs):
  Calls Tryz.prog 81 vs.toArray w (ee none S β h w (kC call args h)):=by
 unfold kC at hr |-;split at hr
 ·rename_i es name;cases hl:fU es with
  |none=>rw[hl]at hr;exact absurd rfl hr
  | some l=>
   rw[hl]at hr;simp only at hr |-;cases hc:decide (l.length<=1000000000)with
   |false=>rw[hc]at hr;exact absurd rfl hr
   | true=>
    simp only[LF];simp only[bg,VR]at hv;obtain⟨_,_,rfl,⟨a,cap,rfl,hle,hnil,hq⟩,_,_,rfl,⟨x,rfl,hx⟩,rfl⟩:=hv;have hlen:∀(es:List AV)(l:List (List UInt8×Int×List AV)),fU es=some l->l.length=es.length:=by
     intro es
     induction es with
     |nil=>intro l h;simp only[fU,LA]at h;subst h;rfl
     | cons e es ih=>
      intro l h;simp only[fU]at h;split at h
      ·rename_i h2;cases h;simp[ih _ h2]
      ·cases h
    have hll:=hlen es l hl;have hz:∃zs:List dl,jH S β l zs/\lG w.heap.size w (.slice a zs.length cap) zs:=by
     cases es with
     |nil=>
      simp only[fU,LA]at hl;subst hl;exact⟨[],rfl,.inl ⟨rfl,a,cap,rfl⟩⟩
     | cons e es=>
      cases a with
      |none=>have:=hnil rfl;subst this;simp at hle
      | some q=>
       obtain⟨hs,sz,hE⟩:=hq q rfl;have hcap:0<cap:=by simp at hle;omega
       obtain⟨b,off,sp⟩:=q;have hs':sp=none:=hs hcap;subst hs';obtain⟨zs,hR,hZ⟩:=HV (e:: es) off l hE hl;refine⟨zs,hR,.inr ⟨b,off,cap,rfl,?_,fun j hj=>?_⟩⟩
       ·have h0:=(hZ 0 (by rw[hR.length,hll];simp)).1;exact hw.lt h0
       ·obtain⟨h1,h2,h3⟩:=hZ j hj;exact⟨hw _ _ _ h1,hw _ _ _ h2,hw _ _ _ h3⟩
    obtain⟨zs,hR,hF⟩:=hz;have hzl:=hR.length;rw[show es.length=zs.length by omega];refine (callsIn_wide (n:=3)).1 ((Dy Fence.wide 3 trivial trivial trivial rfl (by omega) a zs.length cap x zs (by have:=NF hc;omega) w hF).mono ?_);rintro e w' ⟨rfl,hb⟩;refine dM hw hh hb sT ?_;unfold sM wS mY;rw[<- qE];rcases lZ hx hR with⟨h1,h2⟩|⟨y,z,h1,h2,h3⟩
    ·rw[h1,h2];simp only[VR,bg];exact⟨_,rfl,_,_,rfl,⟨_,rfl,_,_,rfl,rfl,_,_,rfl,⟨none,0,rfl,LI _,fun _=>rfl,fun q hq=>by cases hq⟩,rfl⟩,_,_,rfl,rfl,rfl⟩
    ·rw[h1,h2];obtain⟨_,h4,h5⟩:=h3;simp only[VR,bg];exact⟨_,rfl,_,_,rfl,⟨_,rfl,_,_,rfl,by rw[<- h4];rfl,_,_,rfl,h5,rfl⟩,_,_,rfl,rfl,rfl⟩
 ·exact absurd rfl hr
def JN{α:Type}{f k:Nat}{x:α}{o:Option α}{y:α}(h:(bif Nat.beq f k then some x else o)=some y):(f=k/\x=y)\/o=some y:=by
 cases hb:Nat.beq f k with
 |true=>rw[hb]at h;exact .inl ⟨LN hb,by simpa using h⟩
 |false=>rw[hb]at h;exact .inr h
def Am{α:Type}{f k:Nat}{x y:α}{o:Option α}{P:Prop}(h1:f=k->x=y->P)(h2:o=some y->P)(h:(bif Nat.beq f k then some x else o)=some y):P:=(JN h).elim (fun h=>h1 h.1 h.2) h2
def J6:GoodPg Tryz.prog pg where
 tok:=tok
 funcs:=A7
 other:=by
  intro f E hE call hC args h S β w vs hr hg hw hh hv;have h0:other f=some E:=hE;unfold other at h0;revert h0
  repeat' refine Am ?_ ?_
  all_goals first
   |(intro h0;cases h0;done)
   |(rintro rfl rfl;exact absurd rfl hr)
   |(rintro rfl rfl;exact⟨IA call args h S β w vs hr hg hw hh hv,by kernel_rfl⟩)
   |(rintro rfl rfl;exact⟨IB call args h S β w vs hr hg hw hh hv,by kernel_rfl⟩)
   |(rintro rfl rfl;exact⟨IC call args h S β w vs hr hg hw hh hv,by kernel_rfl⟩)
   |(rintro rfl rfl;exact⟨Iz call args h S β w vs hr hg hw hh hv,by kernel_rfl⟩)
   |(rintro rfl rfl;exact⟨IE call args h S β w vs hr hg hw hh hv,by kernel_rfl⟩)
   |(rintro rfl rfl;exact⟨ID call args h S β w vs hr hg hw hh hv,by kernel_rfl⟩)
   |(rintro rfl rfl;exact⟨IF call args h S β w vs hr hg hw hh hv,by kernel_rfl⟩)
   |(rintro rfl rfl;exact⟨IH call args h S β w vs hr hg hw hh hv,by kernel_rfl⟩)
   |(rintro rfl rfl;exact⟨IG call args h S β w vs hr hg hw hh hv,by kernel_rfl⟩)
 nw:=fun f hf=>by cases hf
end Go.Proofs.YtpmcemjkdkbicaaGreatDoor
namespace Go.Proofs.YtpmcemjkdkbicaaGreatDoor
open Go Go.Av Go.ChangeShapes Go.WideShapes Go.ChangeAt Go.RowKit
set_option maxRecDepth 1000000
def Kl:ownKnob Tryz.prog.godebug=none:=by kernel_rfl
def star: "*" ++ "errors.errorString" = "*errors.errorString" :=by decide
def qb(u:TypeId)(h:Tryz.prog.typeName? 3 u=some "*errors.errorString"):u=204:=
 typeName_ptr_named (nm:= "errors.errorString") (by rw[star];kernel_rfl) (by kernel_rfl) (by decide) u (by rw[star];exact h)
def qz{H:Type}{enc:TypeId×Value->H}{P:Program}{w:World}{base:Nat}{sp:Nat->Bool}{held:Bool}{fuel:Nat}{t e:TypeId}{n:Nat}{cs:List Value}{zs:List (List UInt8)}{p:List MemPlace}(ht:P.underlying t=some (.array n e))(he:P.underlying e=some .string)(hce:P.cellsOf e=1)(hct:P.cellsOf t=n)(h:DataW.trod enc P w base sp held fuel t cs=some (.agg (zs.map fun z=>.lit (.string z)),p)):cs=zs.map fun z=>Value.string ⟨z.toArray⟩:=by
 cases fuel with
 |zero=>simp[DataW.trod]at h
 | succ fuel=>
  simp only[DataW.trod,ht,hce,hct,M3]at h;split at h
  ·rename_i hl;obtain⟨xs,hm,hx⟩:=MD.1 h;have hxs:xs.map (·.1)=zs.map fun z=>(DataW.lit (.string z):DataW H):=by
    have:=LG Prod.fst hx
    simpa using this
   have hxl:xs.length=n:=by simpa using Lib.mapM_length hm
   have hzl:zs.length=n:=by
    have:=LG List.length hxs
    simp at this;omega
   apply NE;intro i;by_cases hi:i<n
   ·obtain⟨b,hb,hf⟩:=Lib.mapM_at hm i i (by simp[hi]);obtain⟨z,hc,rfl,_⟩:=DataW.trod_string he hf;have h1:cs[i]? = some (.string z):=by
     have:=LG (·[0]?) hc
     simpa [LW,MN]using this
    have h2:(xs.map (·.1))[i]? = some (DataW.lit (.string z.data.toList):DataW H):=by simp[hb]
    rw[hxs]at h2;simp only[MH,MD,DataW.lit.injEq,Lit.string.injEq]at h2;obtain⟨z',hz',e⟩:=h2;simp[h1,hz',e]
   ·rw[LR (by omega),LR (by simp;omega)]
  ·cases h
def Gu{W:World}(hL:laidMetH Tryz.prog Rows.codeRightRow.laid W)(hS:W.ShapedOpen Tryz.prog):GOKw W:=by
 have h0:laidMet Tryz.prog Rows.codeRightRow.laid W:=hL;have h1:=h0.tail;have h2:=h1.tail;have h3:=h2.tail;have h4:=h3.tail;have h5:=h4.tail;have h6:=h5.tail;have hp:=Lib.tabIs_of_head (k:=.u64) (zs:=Lib.pow10Tab) (g:=2) (t:=186) (e:=164) (n:=20) (by kernel_rfl) (by kernel_rfl) (by kernel_rfl) (by kernel_rfl) (by kernel_rfl) (by kernel_rfl) h2;obtain⟨a0,s0,v0,_⟩:=laid_sentinel (g:=4) (ti:=73) (tp:=204) (te:=206) (ts:=9) h4 (by kernel_rfl) (by kernel_rfl) Tryz.underlying73 qb Tryz.underlying204 Tryz.underlying206 rfl rfl Tryz.underlying9 (by kernel_rfl) (by kernel_rfl);obtain⟨a1,s1,v1,_⟩:=laid_sentinel (g:=3) (ti:=73) (tp:=204) (te:=206) (ts:=9) h5 (by kernel_rfl) (by kernel_rfl) Tryz.underlying73 qb Tryz.underlying204 Tryz.underlying206 rfl rfl Tryz.underlying9 (by kernel_rfl) (by kernel_rfl)
 have hw:W.var? Tryz.prog "lading/code.words" = some (cb.map fun s=>Value.string ⟨s.toArray⟩).toArray:=by
  obtain⟨ps,⟨g',t',cs,fuel,p,q,hg',ht',hvar,hd,_,_⟩,_⟩:=h6
  obtain rfl:=OX ((show Tryz.prog.globalNamed "lading/code.words" = some 0 by kernel_rfl).symm.trans hg')
  obtain rfl:=OX ((show (Tryz.prog.globals[0]?).map (·.type)=some 120 by kernel_rfl).symm.trans ht');rw[hvar,<- qz (zs:=cb) (n:=20) (e:=9) (by kernel_rfl) Tryz.underlying9 (by kernel_rfl) (by kernel_rfl) hd]
 have hvar:∀ {name:String} {g:Nat} {cs:Array Value},Tryz.prog.globalNamed name=some g->W.var? Tryz.prog name=some cs->∃t fr,W.heap[g]? = some (.cells cs t fr):=by
  intro name g cs hn hv;unfold World.var? at hv;rw[hn]at hv;simp only[NP]at hv;split at hv
  ·rename_i c t fr hh;simp only[LA]at hv;subst hv;exact⟨t,fr,hh⟩
  ·cases hv
 have hcell:∀ {g:Nat} {v:Value},(∃t fr,W.heap[g]? = some (.cells #[v] t fr))->W.cell? ⟨g,0,none⟩=some v:=by
  rintro g v ⟨t,fr,hh⟩;simp[World.cell?,hh]
 refine⟨hvar (by kernel_rfl) hw,?_,hvar (by kernel_rfl) hp,⟨_,_,hcell (hvar (by kernel_rfl) v1)⟩,⟨_,_,hcell (hvar (by kernel_rfl) v0)⟩⟩;exact cell_of_shapedOpen_int (zero:=#[.int .i64 0]) (t:=3) hS (NF (by kernel_rfl)) (by kernel_rfl) rfl (by kernel_rfl) (by kernel_rfl) Tryz.underlying3
mutual
def g8:DataW Unit->List Value
 |.lit (.bool b)=>[.bool b]
 |.lit (.int k n)=>[.int k n]
 |.lit (.string s)=>[.string ⟨s.toArray⟩]
 |.agg ps=>AO ps
 |_=>[]
def AO:List (DataW Unit)->List Value
 |[]=>[]
 |d:: ds=>g8 d++AO ds
end
abbrev Kx:ByteArray:={ data:=#[105,110,118,97,108,105,100,32,115,121,110,116,97,120] }
abbrev Ku:ByteArray:={ data:=#[118,97,108,117,101,32,111,117,116,32,111,102,32,114,97,110,103,101] }
noncomputable def low:Nat:=(World.holding Tryz.prog default ⟨#[],#[],[]⟩).heap.size
noncomputable def Cq:List (Option (Array Value)):=[some (g8 Rows.laid_lading_code_words).toArray,none,some (g8 Rows.laid_internal_strconv_uint64pow10).toArray,some #[.iface 204 (.pointer (some ⟨low,0,none⟩))],some #[.iface 204 (.pointer (some ⟨low+1,0,none⟩))],
 some (g8 Rows.laid_unicode_utf8_first).toArray,some (g8 Rows.laid_unicode_utf8_acceptRanges).toArray,some (g8 Rows.laid_math_bits_deBruijn32tab).toArray,some (g8 Rows.laid_math_bits_deBruijn64tab).toArray]
def sW:List Obj->List (Option (Array Value))->List Obj
 |.cells _ t fr:: os,some c:: cs=>.cells c t fr:: sW os cs
 |o:: os,_:: cs=>o:: sW os cs
 |os,[]=>os
 |[],_=>[]
noncomputable def mX(os:Os):World:=
 let w0:=World.holding Tryz.prog os ⟨#[.cells #[.string Kx] 206,.cells #[.string Ku] 206],#[],[]⟩
 { w0 with heap:=(sW w0.heap.toList Cq).toArray }
def Bj(os:Os)(args:Array Value):laidMet Tryz.prog Rows.codeRightRow.laid ((mX os).forCall (fun _ _=>0) ⟨#[],args,[]⟩).memory:=
 laidMet_of_run3 8 (by kernel_rfl) (by kernel_rfl) (by kernel_rfl)
end Go.Proofs.YtpmcemjkdkbicaaGreatDoor
namespace Go.Proofs.YtpmcemjkdkbicaaGreatDoor
open Go Go.Av Go.Av.Ap Go.RowKit
set_option maxRecDepth 1000000
section
variable {H:Type} {enc:TypeId×Value->H} {W:World}
theorem ig:reachBytes=140737488351232:=rfl
theorem Ty.lim_mk{k:Int}{fs:List bM}(h2:fs.length<=140737488355328)(h3:∀v∈fs,v.2.Lim):(Ty.mk k fs).Lim:=fun j=>match j with
 |0=>trivial
 |j+1=>⟨h2,fun x hx=>h3 x hx j⟩
theorem pZ{N:Nat}(h:Rd enc Tryz.prog W N 55 (fun v:Ty=>v.cells) Ty.Lim):Rd enc Tryz.prog W (N+1) 36 (fun l:List bM=>[aO l]) (fun l=>l.length<=140737488355328/\∀v∈l,v.2.Lim):=
 (ie ((fl Tryz.underlying95 (by kernel_rfl) (bc (ki Tryz.underlying9) rfl (by kernel_rfl:_=1) (bc h rfl (by kernel_rfl:_=2) gu))).map (fun x=>((x.1,x.2.1):bM)) (cells':=fun f=>ab (bW f)) (Ok':=fun f=>f.2.Lim) (fun x=>by simp[Ty.cells_eq]) (fun x h=>h.2.1))
  Tryz.underlying36 (by kernel_rfl:_=3) (by decide) (by kernel_rfl:_=48) (ev:=bW) (gP fun v=>by rw[jT];rfl)).map id (fun l=>by simp[aO,e9]) (fun l h=>⟨by have:=h.1;rw[ig]at this;simp only[id];omega,h.2⟩)
theorem uV:∀N,Rd enc Tryz.prog W N 55 (fun v:Ty=>v.cells) Ty.Lim
 |0=>.zero
 | N+1=>(fl Tryz.underlying55 (by kernel_rfl) (bc (p7 Tryz.underlying3) rfl (by kernel_rfl:_=1) (bc ((pZ (uV N)).le (NV N)) rfl (by kernel_rfl:_=1) gu))).map (fun x=>Ty.mk x.1 x.2.1)
   (fun x=>by simp[Ty.cells_eq,Ty.kind,Ty.fields]) (fun x h=>Ty.lim_mk h.2.1.1 h.2.1.2)
theorem GU(N:Nat):Rd enc Tryz.prog W N 100 (fun l:List Ty=>[gG l]) (fun l=>l.length<=140737488355328/\∀v∈l,v.Lim):=
 (ie (uV N) Tryz.underlying100 (by kernel_rfl:_=2) (by decide) (by kernel_rfl:_=32) (ev:=Ty.av) (gP fun v=>rfl)).map id (fun l=>by simp[gG]) (fun l h=>⟨by have:=h.1;rw[ig]at this;simp only[id];omega,h.2⟩)
theorem GT(N:Nat):Rd enc Tryz.prog W (N+1) 102 (fun s:Sig=>ab s.av) Sig.Lim:=
 (fl Tryz.underlying102 (by kernel_rfl) (bc (ki Tryz.underlying9) rfl (by kernel_rfl:_=1) (bc (GU N) rfl (by kernel_rfl:_=1) (bc (uV N) rfl (by kernel_rfl:_=2) (bc (p7 Tryz.underlying3) rfl (by kernel_rfl:_=1) gu))))).map
  (fun x=>(⟨x.1,x.2.1,x.2.2.1,x.2.2.2.1⟩:Sig)) (fun x=>by simp[Ty.cells_eq]) (fun x h=>⟨h.2.1.1,h.2.1.2,h.2.2.1⟩)
theorem D4(N:Nat):Rd enc Tryz.prog W N 49 (fun l:List Sig=>[sigs l]) (fun l=>l.length<=140737488355328/\∀v∈l,v.Lim):=
 ((ie (GT N) Tryz.underlying49 (by kernel_rfl:_=5) (by decide) (by kernel_rfl:_=80) (ev:=Sig.av) (gP fun v=>rfl)).map id (fun l=>by simp[sigs]) (fun l h=>⟨by have:=h.1;rw[ig]at this;simp only[id];omega,h.2⟩)).le (NV N)
theorem D2(N:Nat):Rd enc Tryz.prog W (N+1) 51 (fun f:Face=>ab f.av) Face.Lim:=
 (fl Tryz.underlying51 (by kernel_rfl) (bc (ki Tryz.underlying9) rfl (by kernel_rfl:_=1) (bc (D4 N) rfl (by kernel_rfl:_=1) gu))).map
  (fun x=>(⟨x.1,x.2.1⟩:Face)) (fun x=>by simp) (fun x h=>⟨h.2.1.1,h.2.1.2⟩)
end
end Go.Proofs.YtpmcemjkdkbicaaGreatDoor
namespace Go.Proofs.YtpmcemjkdkbicaaGreatDoor
open Go Go.Av Go.Av.Ap Go.RowKit
set_option maxRecDepth 1000000
section
variable {H:Type} {enc:TypeId×Value->H} {W:World}
theorem ym(N:Nat):Rd enc Tryz.prog W N 35 (fun l:List aU=>[strs l]) (fun l=>l.length<=8796093022208):=
 (ie (ki Tryz.underlying9) Tryz.underlying35 (by kernel_rfl:_=1) (by decide) (by kernel_rfl:_=16) (AP fun _=>rfl)).map id (fun _=>rfl) (fun l h=>by have:=h.1;rw[ig]at this;simp only[id];omega)
theorem Exp.lim_mk{o n:Int}{s m:aU}{ns:List aU}{es:List Exp}(h1:ns.length<=8796093022208)(h2:es.length<=140737488355328)(h3:∀v∈es,v.Lim):(Exp.mk o n s m ns es).Lim:=fun j=>match j with
 |0=>trivial
 |j+1=>⟨h1,h2,fun x hx=>h3 x hx j⟩
theorem pY{N:Nat}(h:Rd enc Tryz.prog W N 57 (fun v:Exp=>v.cells) Exp.Lim):Rd enc Tryz.prog W N 37 (fun l:List Exp=>[cw l]) (fun l=>l.length<=140737488355328/\∀v∈l,v.Lim):=
 (ie h Tryz.underlying37 (by kernel_rfl:_=6) (by decide) (by kernel_rfl:_=96) (ev:=Exp.av) (gP fun v=>rfl)).map id (fun l=>by simp[cw,g9]) (fun l h=>⟨by have:=h.1;rw[ig]at this;simp only[id];omega,h.2⟩)
theorem wZ:∀N,Rd enc Tryz.prog W N 57 (fun v:Exp=>v.cells) Exp.Lim
 |0=>.zero
 | N+1=>(fl Tryz.underlying57 (by kernel_rfl) (bc (p7 Tryz.underlying3) rfl (by kernel_rfl:_=1) (bc (p7 Tryz.underlying3) rfl (by kernel_rfl:_=1) (bc (ki Tryz.underlying9) rfl (by kernel_rfl:_=1) (bc (ki Tryz.underlying9) rfl (by kernel_rfl:_=1)
   (bc (ym N) rfl (by kernel_rfl:_=1) (bc (pY (wZ N)) rfl (by kernel_rfl:_=1) gu))))))).map (fun x=>Exp.mk x.1 x.2.1 x.2.2.1 x.2.2.2.1 x.2.2.2.2.1 x.2.2.2.2.2.1) (fun x=>by simp[Exp.cells_eq,Exp.op,Exp.n,Exp.s,Exp.m,Exp.names,Exp.args]) (fun x h=>Exp.lim_mk h.2.2.2.2.1 h.2.2.2.2.2.1.1 h.2.2.2.2.2.1.2)
theorem sZ(N:Nat):Rd enc Tryz.prog W N 37 (fun l:List Exp=>[cw l]) (fun l=>l.length<=140737488355328/\∀v∈l,v.Lim):=pY (wZ N)
theorem s4(N:Nat):Rd enc Tryz.prog W N 36 (fun l:List bM=>[aO l]) (fun l=>l.length<=140737488355328/\∀v∈l,v.2.Lim):=(pZ (uV N)).le (NV N)
theorem GQ(N:Nat):Rd enc Tryz.prog W (N+1) 59 (fun f:Fun=>ab f.av) Fun.Lim:=
 (fl Tryz.underlying59 (by kernel_rfl) (bc (ki Tryz.underlying9) rfl (by kernel_rfl:_=1) (bc (yk Tryz.underlying4) rfl (by kernel_rfl:_=1) (bc (s4 N) rfl (by kernel_rfl:_=1) (bc (uV N) rfl (by kernel_rfl:_=2)
  (bc (p7 Tryz.underlying3) rfl (by kernel_rfl:_=1) (bc (wZ N) rfl (by kernel_rfl:_=6) gu))))))).map (fun x=>(⟨x.1,x.2.1,x.2.2.1,x.2.2.2.1,x.2.2.2.2.1,x.2.2.2.2.2.1⟩:Fun))
  (fun x=>by simp[Ty.cells_eq,Exp.cells_eq]) (fun x h=>⟨h.2.2.1.1,h.2.2.1.2,h.2.2.2.1,h.2.2.2.2.2.1⟩)
theorem D3(N:Nat):Rd enc Tryz.prog W N 38 (fun l:List Fun=>[fI l]) (fun l=>l.length<=140737488355328/\∀v∈l,v.Lim):=
 ((ie (GQ N) Tryz.underlying38 (by kernel_rfl:_=12) (by decide) (by kernel_rfl:_=184) (ev:=Fun.av) (gP fun v=>rfl)).map id (fun l=>by simp[fI]) (fun l h=>⟨by have:=h.1;rw[ig]at this;simp only[id];omega,h.2⟩)).le (NV N)
theorem GR(N:Nat):Rd enc Tryz.prog W (N+1) 42 (fun m:Mod=>ab m.av) Mod.Lim:=
 (fl Tryz.underlying42 (by kernel_rfl) (bc (ki Tryz.underlying9) rfl (by kernel_rfl:_=1) (bc (ym N) rfl (by kernel_rfl:_=1) (bc (s4 N) rfl (by kernel_rfl:_=1) (bc (sZ N) rfl (by kernel_rfl:_=1)
  (bc (D3 N) rfl (by kernel_rfl:_=1) (bc (yk Tryz.underlying4) rfl (by kernel_rfl:_=1)
  (bc ((fl Tryz.underlying40 (by kernel_rfl) (bc (s4 N) rfl (by kernel_rfl:_=1) (bc (sZ N) rfl (by kernel_rfl:_=1) (bc (sZ N) rfl (by kernel_rfl:_=1) gu)))).le (NV N)) rfl (by kernel_rfl:_=3) gu)))))))).map
  (fun x=>(⟨x.1,x.2.1,x.2.2.1,x.2.2.2.1,x.2.2.2.2.1,x.2.2.2.2.2.1,x.2.2.2.2.2.2.1.1,x.2.2.2.2.2.2.1.2.1,x.2.2.2.2.2.2.1.2.2.1⟩:Mod))
  (fun x=>by simp) (fun x h=>⟨by have:=h.2.1;simp only;omega,h.2.2.1.1,h.2.2.1.2,h.2.2.2.1.1,h.2.2.2.1.2,h.2.2.2.2.1.1,h.2.2.2.2.1.2,h.2.2.2.2.2.2.1.1.1,h.2.2.2.2.2.2.1.1.2,h.2.2.2.2.2.2.1.2.1.1,h.2.2.2.2.2.2.1.2.1.2,h.2.2.2.2.2.2.1.2.2.1.1,h.2.2.2.2.2.2.1.2.2.1.2⟩)
end
end Go.Proofs.YtpmcemjkdkbicaaGreatDoor
namespace Go.Proofs.YtpmcemjkdkbicaaGreatDoor
open Go Go.Av Go.Av.Ap Go.RowKit
set_option maxRecDepth 1000000
section
variable {H:Type} {enc:TypeId×Value->H} {W:World}
theorem BW(N:Nat):Rd enc Tryz.prog W N 47 (fun l:List Face=>[faces l]) (fun l=>l.length<=140737488355328/\∀v∈l,v.Lim):=
 ((ie (D2 N) Tryz.underlying47 (by kernel_rfl:_=2) (by decide) (by kernel_rfl:_=40) (ev:=Face.av) (gP fun v=>rfl)).map id (fun l=>by simp[faces]) (fun l h=>⟨by have:=h.1;rw[ig]at this;simp only[id];omega,h.2⟩)).le (NV N)
end
end Go.Proofs.YtpmcemjkdkbicaaGreatDoor
namespace Go.Proofs.YtpmcemjkdkbicaaGreatDoor
open Go Go.Av Go.Av.Ap
set_option maxRecDepth 100000
noncomputable section
abbrev EE(k:Nat)(fn:Go.Func)(g:Ann)(l:List AV)(S:CC->bH AV->M AV):Prop:=∀call fx,cX (pg.cx call fn.ntmps g) fx fn (own k) l=S call fx
def L5_0(call:CC)(fx:bH AV)(a:RR)(b:RR)(c:List AV):M AV:=ae (af (aK T 60 (nth c 5))) fun d=>ae (af (ao T .lss 3 (nth c 6) d)) fun e=>ar e (ae (af (ao T .eql 30 (nth c 2) (.int .i64 0))) fun f=>ae (ay f true 1 (ae (af (ak T 60 (nth c 5) (nth c 6))) fun g=>ae (af (aj T 3 g)) fun h=>ae (af (ao T .lss 3 h (.int .i64 0))) fun i=>M.pure [i])) fun j=>ae (af (aJ f (nth j 0) (.bool false))) fun k=>ar k (M.pure (AV.bool false)) (ae (af (ao T .add 3 (nth c 6) (.int .i64 1))) fun l=>b [nth c 0,nth c 1,nth c 2,nth c 3,nth c 4,nth c 5,l])) (ae (af (ao T .add 3 (nth c 4) (.int .i64 1))) fun m=>a [nth c 0,nth c 1,nth c 2,nth c 3,m])
def L5_1(call:CC)(fx:bH AV)(a:RR)(b:List AV):M AV:=ae (af (aK T 22 (nth b 3))) fun c=>ae (af (ao T .lss 3 (nth b 4) c)) fun d=>ar d (ae (af (ak T 22 (nth b 3) (nth b 4))) fun e=>ae (af (aa T 28 e 0)) fun f=>ae (af (aj T 9 f)) fun g=>ae (af (aa T 42 (nth b 0) 4)) fun h=>ae (af (aj T 38 h)) fun i=>ae (af (ak T 38 i (nth b 4))) fun j=>ae (af (aa T 59 j 0)) fun k=>ae (af (aj T 9 k)) fun l=>ae (af (ao T .neq 9 g l)) fun m=>ae (ay m false 1 (ae (af (ak T 22 (nth b 3) (nth b 4))) fun n=>ae (af (aa T 28 n 1)) fun o=>ae (af (aj T 3 o)) fun p=>ae (af (aa T 42 (nth b 0) 4)) fun q=>ae (af (aj T 38 q)) fun r=>ae (af (ak T 38 r (nth b 4))) fun s=>ae (af (aa T 59 s 2)) fun u=>ae (af (aj T 36 u)) fun v=>ae (af (aK T 36 v)) fun w=>ae (af (ao T .neq 3 p w)) fun x=>M.pure [x])) fun y=>ae (af (aJ m (.bool true) (nth y 0))) fun z=>ar z (M.pure (AV.bool false)) (ae (af (ak T 22 (nth b 3) (nth b 4))) fun A=>ae (af (aj T 28 A)) fun B=>ae (call 18 [B]) fun C=>ae (af (aG C 0)) fun D=>ae (af (aG C 1)) fun E=>ae (af (ao T .eql 30 (nth b 2) (.int .i64 0))) fun F=>ae (ay F true 1 (ae (af (fm UnOp.not E)) fun G=>M.pure [G])) fun H=>ae (ay (nth H 0) false 1 (ae (af (ak T 22 (nth b 3) (nth b 4))) fun I=>ae (af (aj T 28 I)) fun J=>ae (call 8 [J]) fun K=>ae (af (fm UnOp.not K)) fun L=>M.pure [L])) fun N=>ae (ay F true 1 (ae (af (aJ (nth H 0) (.bool true) (nth N 0))) fun O=>M.pure [O])) fun P=>ae (ay (nth P 0) false 1 (ae (af (aK T 60 D)) fun Q=>ae (af (ak T 22 (nth b 3) (nth b 4))) fun R=>ae (af (aa T 28 R 3)) fun S=>ae (af (aj T 26 S)) fun U=>ae (af (aK T 26 U)) fun V=>ae (af (ao T .neq 3 Q V)) fun W=>M.pure [W])) fun X=>ae (ay F true 1 (ae (af (aJ (nth P 0) (.bool true) (nth X 0))) fun Y=>M.pure [Y])) fun Z=>ae (af (aJ F (nth Z 0) (.bool false))) fun u0=>ar u0 (M.pure (AV.bool false)) (fx (L5_0 call fx a) [nth b 0,nth b 1,nth b 2,nth b 3,nth b 4,D,.int .i64 0]))) (ae (af (ao T .neq 30 (nth b 2) (.int .i64 0))) fun u1=>ar u1 (M.pure (nth b 1)) (ae (call 9 [nth b 3]) fun u2=>ae (call 10 [u2]) fun u3=>ae (af (aG u3 0)) fun u4=>ae (af (aG u3 1)) fun u5=>ae (ay (nth b 1) true 1 (ae (af (ao T .eql 30 u5 (.int .i64 0))) fun u6=>M.pure [u6])) fun u7=>ae (af (aJ (nth b 1) (nth u7 0) (.bool false))) fun u8=>ae (ay u8 true 1 (ae (call 11 [u4,nth b 3]) fun u9=>M.pure [u9])) fun v0=>ae (af (aJ u8 (nth v0 0) (.bool false))) fun v1=>M.pure v1))
def L5_2(call:CC)(fx:bH AV)(a:RR)(b:List AV):M AV:=ae (af (aK T 47 (nth b 0))) fun c=>ae (af (ao T .lss 3 (nth b 3) c)) fun d=>ar d (ae (af (ak T 47 (nth b 0) (nth b 3))) fun e=>ae (af (aj T 51 e)) fun f=>ae (call 16 [f]) fun g=>ae (af (fm UnOp.not g)) fun h=>ar h (M.pure (nth b 2)) (ae (af (ao T .add 3 (nth b 3) (.int .i64 1))) fun i=>a [nth b 0,nth b 1,nth b 2,i])) (ae (af (aj T 42 (nth b 1))) fun j=>ae (call 17 [j,nth b 0]) fun k=>ae (af (aG k 0)) fun l=>ae (af (aG k 1)) fun m=>ae (af (aj T 42 (nth b 1))) fun n=>ae (call 14 [n]) fun o=>ae (af (aj T 42 (nth b 1))) fun p=>ae (call 13 [p]) fun q=>ae (af (fm UnOp.not q)) fun r=>ar r (ae (ay (nth b 2) true 1 (ae (af (aK T 22 o)) fun s=>ae (af (ao T .eql 3 s (.int .i64 0))) fun u=>M.pure [u])) fun v=>ae (af (aJ (nth b 2) (nth v 0) (.bool false))) fun w=>ae (ay w true 1 (ae (af (ao T .neq 30 m (.int .i64 0))) fun x=>M.pure [x])) fun y=>ae (af (aJ w (nth y 0) (.bool false))) fun z=>M.pure z) (ae (af (aK T 22 o)) fun A=>ae (af (aa T 42 (nth b 1) 4)) fun B=>ae (af (aj T 38 B)) fun C=>ae (af (aK T 38 C)) fun D=>ae (af (ao T .neq 3 A D)) fun E=>ar E (M.pure (AV.bool false)) (fx (L5_1 call fx) [nth b 1,nth b 2,m,o,.int .i64 0])))
def XL5_0{call:CC}{a:RR}{b:Nat->RR}(c:bm a fun n=>b n):bL (L5_0 call ah a) fun n=>L5_0 call ah (b n):=by
 intro d e f g;unfold L5_0;exact (lb fun _=>(lb fun _=>(au (lb fun _=>(lb fun _=>(lb fun _=>(au (aR.const _) (lb fun _=>f _))))) (lb fun _=>c _))))
def YL5_0{call:CC}{a:RR}{b:Nat->RR}(c:bm a fun n=>b n):bm (ah (L5_0 call ah a)) fun n=>ah (L5_0 call ah (b n)):=gQ (XL5_0 c) (XL5_0 (bm.const _)) fun _=>XL5_0 (bm.const _)
def FL5_0(call:CC)(a:RR)(vs:List AV):ah (L5_0 call ah a) vs=L5_0 call ah a (ah (L5_0 call ah a)) vs:=aY (XL5_0 (bm.const _)) vs
def XL5_1{call:CC}:bL (L5_1 call ah) fun _n=>L5_1 call ah  :=by
 intro a b c d;unfold L5_1;exact (lb fun _=>(lb fun _=>(au (by(iterate 11 refine lb fun _=>?_);exact (au (aR.const _) (by(iterate 12 refine lb fun _=>?_);exact (au (aR.const _) ((YL5_0 c) _))))) (aR.const _))))
def FL5_1(call:CC)(vs:List AV):ah (L5_1 call ah) vs=L5_1 call ah  (ah (L5_1 call ah)) vs:=aY (XL5_1) vs
def XL5_2{call:CC}:bL (L5_2 call ah) fun _n=>L5_2 call ah  :=by
 intro a b c d;unfold L5_2;exact (lb fun _=>(lb fun _=>(au (lb fun _=>(lb fun _=>(lb fun _=>(lb fun _=>(au (aR.const _) (lb fun _=>c _)))))) (aR.const _))))
def FL5_2(call:CC)(vs:List AV):ah (L5_2 call ah) vs=L5_2 call ah  (ah (L5_2 call ah)) vs:=aY (XL5_2) vs
def S5(call:CC)(fx:bH AV)(a0 a1:AV):M AV:=ae (call 6 []) fun a=>ae (af (aj T 42 (.ip (ab a0)))) fun b=>ae (call 12 [b]) fun c=>ae (af (fm UnOp.not c)) fun d=>ae (ay d false 1 (ae (af (aK T 47 a1)) fun e=>ae (af (ao T .gtr 3 e (.int .i64 4))) fun f=>M.pure [f])) fun g=>ae (af (aJ d (.bool true) (nth g 0))) fun h=>ar h (M.pure a) (fx (L5_2 call fx) [a1,.ip (ab a0),a,.int .i64 0])
def E5(a0 a1:AV):EE 5 Tryz.f5 HF [a0,a1] (fun c x=>S5 c x a0 a1):=fun _ _=>by kernel_rfl
def C5(a0 a1:AV):ai pg 5 [a0,a1]=aM (S5 (ai pg) ah (cl az a0) (cl az a1)):=(aC aI rfl rfl rfl _).trans (LG aM (E5 (cl az a0) (cl az a1) _ _))
def L9_0(call:CC)(fx:bH AV)(a:RR)(b:RR)(c:List AV):M AV:=ae (af (ao T .lss 3 (nth c 6) (nth c 5))) fun d=>ar d (ae (af (ak T 26 (nth c 4) (nth c 6))) fun e=>ae (af (aj T 67 e)) fun f=>ae (aT 5 f) fun g=>ae (af (aj T 67 (.ip (ab g)))) fun h=>ae (call 23 [h]) fun i=>ae (call 21 [nth c 0,i]) fun j=>ae (af (ao T .add 3 (nth c 6) (.int .i64 1))) fun k=>b [nth c 0,nth c 1,nth c 2,nth c 3,nth c 4,nth c 5,k]) (ae (af (ao T .add 3 (nth c 3) (.int .i64 1))) fun l=>a [nth c 0,nth c 1,nth c 2,l])
def L9_1(call:CC)(fx:bH AV)(a:RR)(b:List AV):M AV:=ae (af (ao T .lss 3 (nth b 3) (nth b 2))) fun c=>ar c (ae (af (ak T 22 (nth b 1) (nth b 3))) fun d=>ae (af (aj T 28 d)) fun e=>ae (aT 4 e) fun f=>ae (af (aj T 28 (.ip (ab f)))) fun g=>ae (call 8 [g]) fun h=>ae (af (fm UnOp.not h)) fun i=>ar i (M.pure (AV.str [])) (ae (af (aa T 28 (.ip (ab f)) 0)) fun j=>ae (af (aj T 9 j)) fun k=>ae (af (ao T .add 9 (.str [102,117,110,99,32]) k)) fun l=>ae (af (ao T .add 9 l (.str [32]))) fun m=>ae (af (aa T 28 (.ip (ab f)) 1)) fun n=>ae (af (aj T 3 n)) fun o=>ae (af (aa T 28 (.ip (ab f)) 2)) fun p=>ae (af (aj T 3 p)) fun q=>ae (call 22 [o]) fun r=>ae (af (ao T .add 9 m r)) fun s=>ae (af (ao T .add 9 s (.str [32]))) fun u=>ae (call 22 [q]) fun v=>ae (af (ao T .add 9 u v)) fun w=>ae (af (ao T .add 9 w (.str [10]))) fun x=>ae (call 21 [nth b 0,x]) fun y=>ae (af (aa T 28 (.ip (ab f)) 3)) fun z=>ae (af (aj T 26 z)) fun A=>ae (af (aK T 26 A)) fun B=>fx (L9_0 call fx a) [nth b 0,nth b 1,nth b 2,nth b 3,A,B,.int .i64 0])) (ae (call 24 [nth b 0]) fun C=>M.pure C)
def XL9_0{call:CC}{a:RR}{b:Nat->RR}(c:bm a fun n=>b n):bL (L9_0 call ah a) fun n=>L9_0 call ah (b n):=by
 intro d e f g;unfold L9_0;exact (lb fun _=>(au (by(iterate 7 refine lb fun _=>?_);exact (f _)) (lb fun _=>c _)))
def YL9_0{call:CC}{a:RR}{b:Nat->RR}(c:bm a fun n=>b n):bm (ah (L9_0 call ah a)) fun n=>ah (L9_0 call ah (b n)):=gQ (XL9_0 c) (XL9_0 (bm.const _)) fun _=>XL9_0 (bm.const _)
def FL9_0(call:CC)(a:RR)(vs:List AV):ah (L9_0 call ah a) vs=L9_0 call ah a (ah (L9_0 call ah a)) vs:=aY (XL9_0 (bm.const _)) vs
def XL9_1{call:CC}:bL (L9_1 call ah) fun _n=>L9_1 call ah  :=by
 intro a b c d;unfold L9_1;exact (lb fun _=>(au (by(iterate 6 refine lb fun _=>?_);exact (au (aR.const _) (by(iterate 18 refine lb fun _=>?_);exact ((YL9_0 c) _)))) (aR.const _)))
def FL9_1(call:CC)(vs:List AV):ah (L9_1 call ah) vs=L9_1 call ah  (ah (L9_1 call ah)) vs:=aY (XL9_1) vs
def S9(call:CC)(fx:bH AV)(a0:AV):M AV:=ae (uN 71 [AV.nilp,.hn]) fun a=>ae (af (aK T 22 a0)) fun b=>fx (L9_1 call fx) [a,a0,b,.int .i64 0]
def E9(a0:AV):EE 9 Tryz.f9 HJ [a0] (fun c x=>S9 c x a0):=fun _ _=>by kernel_rfl
def C9(a0:AV):ai pg 9 [a0]=aM (S9 (ai pg) ah (cl az a0)):=(aC aI rfl rfl rfl _).trans (LG aM (E9 (cl az a0) _ _))
def S25(call:CC)(fx:bH AV)(a0 a1:AV):M AV:=ae (af (aK T 9 a1)) fun a=>ae (call 55 [a0,a1,a,.int .i64 (-1)]) fun b=>M.pure b
def E25(a0 a1:AV):EE 25 Tryz.f25 Es [a0,a1] (fun c x=>S25 c x a0 a1):=fun _ _=>by kernel_rfl
def C25(a0 a1:AV):ai pg 25 [a0,a1]=aM (S25 (ai pg) ah (cl az a0) (cl az a1)):=(aC aI rfl rfl rfl _).trans (LG aM (E25 (cl az a0) (cl az a1) _ _))
def S28(call:CC)(fx:bH AV)(a0:AV):M AV:=ae (call 57 [a0]) fun a=>ae (af (aG a 0)) fun b=>ae (af (aG a 1)) fun c=>M.pure b
def E28(a0:AV):EE 28 Tryz.f28 Ev [a0] (fun c x=>S28 c x a0):=fun _ _=>by kernel_rfl
def C28(a0:AV):ai pg 28 [a0]=aM (S28 (ai pg) ah (cl az a0)):=(aC aI rfl rfl rfl _).trans (LG aM (E28 (cl az a0) _ _))
def S32(call:CC)(fx:bH AV)(a0:AV):M AV:=ae (af (aj T 55 (.ip (ab a0)))) fun a=>ae (call 62 [a,.int .i64 40,.int .i64 6]) fun b=>ae (af (ao T .leq 3 b (.int .i64 40))) fun c=>M.pure c
def E32(a0:AV):EE 32 Tryz.f32 Ez [a0] (fun c x=>S32 c x a0):=fun _ _=>by kernel_rfl
def C32(a0:AV):ai pg 32 [a0]=aM (S32 (ai pg) ah (cl az a0)):=(aC aI rfl rfl rfl _).trans (LG aM (E32 (cl az a0) _ _))
def L45_0(call:CC)(fx:bH AV)(a:RR)(b:List AV):M AV:=ae (af (ao T .lss 3 (nth b 3) (nth b 2))) fun c=>ar c (ae (af (ak T 36 (nth b 1) (nth b 3))) fun d=>ae (af (aj T 95 d)) fun e=>ae (aT 3 e) fun f=>ae (af (aa T 42 (nth b 0) 0)) fun g=>ae (af (aj T 9 g)) fun h=>ae (af (aa T 42 (nth b 0) 2)) fun i=>ae (af (aj T 36 i)) fun j=>ae (af (aa T 42 (nth b 0) 6)) fun k=>ae (af (aa T 40 k 2)) fun l=>ae (af (aj T 37 l)) fun m=>ae (af (ak T 37 m (nth b 3))) fun n=>ae (af (aj T 57 n)) fun o=>ae (af (aa T 95 (.ip (ab f)) 1)) fun p=>ae (af (aj T 55 p)) fun q=>ae (cW (call 80 [h,j,o,q])) fun r=>ae (af (ao T .neq 30 r (.int .i64 0))) fun s=>ar s (ae (af (aa T 95 (.ip (ab f)) 0)) fun u=>ae (af (aj T 9 u)) fun v=>M.pure (AV.tup [v,r])) (ae (af (ao T .add 3 (nth b 3) (.int .i64 1))) fun w=>a [nth b 0,nth b 1,nth b 2,w])) (M.pure (AV.tup [.str [],.int .i64 0]))
def L45_1(call:CC)(fx:bH AV)(a:RR)(b:List AV):M AV:=ae (af (ao T .lss 3 (nth b 3) (nth b 2))) fun c=>ar c (ae (af (ak T 36 (nth b 1) (nth b 3))) fun d=>ae (af (aj T 95 d)) fun e=>ae (aT 3 e) fun f=>ae (af (aa T 42 (nth b 0) 0)) fun g=>ae (af (aj T 9 g)) fun h=>ae (af (aa T 42 (nth b 0) 6)) fun i=>ae (af (aa T 40 i 0)) fun j=>ae (af (aj T 36 j)) fun k=>ae (af (aa T 42 (nth b 0) 6)) fun l=>ae (af (aa T 40 l 1)) fun m=>ae (af (aj T 37 m)) fun n=>ae (af (ak T 37 n (nth b 3))) fun o=>ae (af (aj T 57 o)) fun p=>ae (af (aa T 95 (.ip (ab f)) 1)) fun q=>ae (af (aj T 55 q)) fun r=>ae (cW (call 80 [h,k,p,r])) fun s=>ae (af (ao T .neq 30 s (.int .i64 0))) fun u=>ar u (ae (af (aa T 95 (.ip (ab f)) 0)) fun v=>ae (af (aj T 9 v)) fun w=>M.pure (AV.tup [w,s])) (ae (af (ao T .add 3 (nth b 3) (.int .i64 1))) fun x=>a [nth b 0,nth b 1,nth b 2,x])) (ae (af (aa T 42 (nth b 0) 6)) fun y=>ae (af (aa T 40 y 0)) fun z=>ae (af (aj T 36 z)) fun A=>ae (af (aK T 36 A)) fun B=>fx (L45_0 call fx) [nth b 0,A,B,.int .i64 0])
def L45_2(call:CC)(fx:bH AV)(a:RR)(b:List AV):M AV:=ae (af (ao T .lss 3 (nth b 3) (nth b 2))) fun c=>ar c (ae (af (ak T 36 (nth b 1) (nth b 3))) fun d=>ae (af (aj T 95 d)) fun e=>ae (aT 3 e) fun f=>ae (af (aa T 42 (nth b 0) 0)) fun g=>ae (af (aj T 9 g)) fun h=>ae (af (aa T 42 (nth b 0) 3)) fun i=>ae (af (aj T 37 i)) fun j=>ae (af (ak T 37 j (nth b 3))) fun k=>ae (af (aj T 57 k)) fun l=>ae (af (aa T 95 (.ip (ab f)) 1)) fun m=>ae (af (aj T 55 m)) fun n=>ae (cW (call 80 [h,.sl [],l,n])) fun o=>ae (af (ao T .neq 30 o (.int .i64 0))) fun p=>ar p (ae (af (aa T 95 (.ip (ab f)) 0)) fun q=>ae (af (aj T 9 q)) fun r=>M.pure (AV.tup [r,o])) (ae (af (ao T .add 3 (nth b 3) (.int .i64 1))) fun s=>a [nth b 0,nth b 1,nth b 2,s])) (ae (af (aa T 42 (nth b 0) 5)) fun u=>ae (af (aj T 4 u)) fun v=>ae (af (fm UnOp.not v)) fun w=>ar w (M.pure (AV.tup [.str [],.int .i64 0])) (ae (af (aa T 42 (nth b 0) 2)) fun x=>ae (af (aj T 36 x)) fun y=>ae (af (aK T 36 y)) fun z=>fx (L45_1 call fx) [nth b 0,y,z,.int .i64 0]))
def XL45_0{call:CC}:bL (L45_0 call ah) fun _n=>L45_0 call ah  :=by
 intro a b c d;unfold L45_0;exact (lb fun _=>(au (by(iterate 16 refine lb fun _=>?_);exact (au (aR.const _) (lb fun _=>c _))) (aR.const _)))
def FL45_0(call:CC)(vs:List AV):ah (L45_0 call ah) vs=L45_0 call ah  (ah (L45_0 call ah)) vs:=aY (XL45_0) vs
def XL45_1{call:CC}:bL (L45_1 call ah) fun _n=>L45_1 call ah  :=by
 intro a b c d;unfold L45_1;exact (lb fun _=>(au (by(iterate 17 refine lb fun _=>?_);exact (au (aR.const _) (lb fun _=>c _))) (aR.const _)))
def FL45_1(call:CC)(vs:List AV):ah (L45_1 call ah) vs=L45_1 call ah  (ah (L45_1 call ah)) vs:=aY (XL45_1) vs
def XL45_2{call:CC}:bL (L45_2 call ah) fun _n=>L45_2 call ah  :=by
 intro a b c d;unfold L45_2;exact (lb fun _=>(au (by(iterate 13 refine lb fun _=>?_);exact (au (aR.const _) (lb fun _=>c _))) (aR.const _)))
def FL45_2(call:CC)(vs:List AV):ah (L45_2 call ah) vs=L45_2 call ah  (ah (L45_2 call ah)) vs:=aY (XL45_2) vs
def S45(call:CC)(fx:bH AV)(a0:AV):M AV:=ae (af (aa T 42 (.ip (ab a0)) 2)) fun a=>ae (af (aj T 36 a)) fun b=>ae (af (aK T 36 b)) fun c=>fx (L45_2 call fx) [.ip (ab a0),b,c,.int .i64 0]
def E45(a0:AV):EE 45 Tryz.f45 EM [a0] (fun c x=>S45 c x a0):=fun _ _=>by kernel_rfl
def C45(a0:AV):ai pg 45 [a0]=aM (S45 (ai pg) ah (cl az a0)):=(aC aI rfl rfl rfl _).trans (LG aM (E45 (cl az a0) _ _))
def K49_0(call:CC)(fx:bH AV)(a:List AV):M AV:=ar (nth a 2) (M.pure (AV.tup [.int .i64 1,.int .i64 1])) (ae (af (ao T .eql 3 (nth a 1) (.int .i64 12))) fun b=>ar b (ae (af (aa T 67 (nth a 0) 4)) fun c=>ae (af (aj T 35 c)) fun d=>ae (af (aK T 35 d)) fun e=>M.pure (AV.tup [e,.int .i64 1])) (ae (af (ao T .eql 3 (nth a 1) (.int .i64 14))) fun f=>ar f (ae (af (aa T 67 (nth a 0) 1)) fun g=>ae (af (aj T 3 g)) fun h=>M.pure (AV.tup [h,.int .i64 1])) (ae (af (ao T .eql 3 (nth a 1) (.int .i64 10))) fun i=>ar i (M.pure (AV.tup [.int .i64 0,.int .i64 0])) (M.pure (AV.tup [.int .i64 1,.int .i64 0])))))
def K49_1(call:CC)(fx:bH AV)(a:List AV):M AV:=ar (nth a 2) (M.pure (AV.tup [.int .i64 2,.int .i64 1])) (jn (K49_0 call fx) fun b=>ae (af (ao T .eql 3 (nth a 1) (.int .i64 9))) fun c=>ar c (b [nth a 0,nth a 1,c]) (ae (af (ao T .eql 3 (nth a 1) (.int .i64 13))) fun d=>ar d (b [nth a 0,nth a 1,d]) (ae (af (ao T .eql 3 (nth a 1) (.int .i64 15))) fun e=>ar e (b [nth a 0,nth a 1,e]) (ae (af (ao T .eql 3 (nth a 1) (.int .i64 17))) fun f=>b [nth a 0,nth a 1,f]))))
def K49_2(call:CC)(fx:bH AV)(a:List AV):M AV:=ar (nth a 2) (M.pure (AV.tup [.int .i64 0,.int .i64 1])) (jn (K49_1 call fx) fun b=>ae (af (ao T .eql 3 (nth a 1) (.int .i64 4))) fun c=>ar c (b [nth a 0,nth a 1,c]) (ae (af (ao T .eql 3 (nth a 1) (.int .i64 5))) fun d=>ar d (b [nth a 0,nth a 1,d]) (ae (af (ao T .eql 3 (nth a 1) (.int .i64 6))) fun e=>ar e (b [nth a 0,nth a 1,e]) (ae (af (ao T .eql 3 (nth a 1) (.int .i64 7))) fun f=>ar f (b [nth a 0,nth a 1,f]) (ae (af (ao T .eql 3 (nth a 1) (.int .i64 8))) fun g=>b [nth a 0,nth a 1,g])))))
def S49(call:CC)(fx:bH AV)(a0:AV):M AV:=ae (af (aa T 67 (.ip (ab a0)) 0)) fun a=>ae (af (aj T 3 a)) fun b=>jn (K49_2 call fx) fun c=>ae (af (ao T .eql 3 b (.int .i64 0))) fun d=>ar d (c [.ip (ab a0),b,d]) (ae (af (ao T .eql 3 b (.int .i64 1))) fun e=>ar e (c [.ip (ab a0),b,e]) (ae (af (ao T .eql 3 b (.int .i64 2))) fun f=>ar f (c [.ip (ab a0),b,f]) (ae (af (ao T .eql 3 b (.int .i64 16))) fun g=>c [.ip (ab a0),b,g])))
def E49(a0:AV):EE 49 Tryz.f49 EQ [a0] (fun c x=>S49 c x a0):=fun _ _=>by kernel_rfl
def C49(a0:AV):ai pg 49 [a0]=aM (S49 (ai pg) ah (cl az a0)):=(aC aI rfl rfl rfl _).trans (LG aM (E49 (cl az a0) _ _))
def L64_0(call:CC)(fx:bH AV)(a:RR)(b:List AV):M AV:=ae (af (ao T .lss 3 (nth b 4) (nth b 3))) fun c=>ar c (ae (af (ak T 36 (nth b 2) (nth b 4))) fun d=>ae (af (aj T 95 d)) fun e=>ae (aT 3 e) fun f=>ae (af (aa T 95 (.ip (ab f)) 0)) fun g=>ae (af (aj T 9 g)) fun h=>ae (cW (call 15 [h])) fun i=>ae (af (fm UnOp.not i)) fun j=>ae (ay j false 1 (ae (af (ao T .gtr 3 (nth b 4) (.int .i64 0))) fun k=>M.pure [k])) fun l=>ae (ay (nth l 0) true 1 (ae (af (aa T 95 (.ip (ab f)) 0)) fun m=>ae (af (aj T 9 m)) fun n=>ae (af (aa T 55 (nth b 1) 1)) fun o=>ae (af (aj T 36 o)) fun p=>ae (af (ao T .sub 3 (nth b 4) (.int .i64 1))) fun q=>ae (af (ak T 36 p q)) fun r=>ae (af (aa T 95 r 0)) fun s=>ae (af (aj T 9 s)) fun u=>ae (af (ao T .leq 9 n u)) fun v=>M.pure [v])) fun w=>ae (ay j false 1 (ae (af (aJ (nth l 0) (nth w 0) (.bool false))) fun x=>M.pure [x])) fun y=>ae (af (aJ j (.bool true) (nth y 0))) fun z=>ae (ay z false 1 (ae (af (aa T 95 (.ip (ab f)) 1)) fun A=>ae (af (aj T 55 A)) fun B=>ae (af (ao T .sub 3 (nth b 0) (.int .i64 1))) fun C=>ae (cW (call 64 [B,C])) fun D=>ae (af (fm UnOp.not D)) fun E=>M.pure [E])) fun F=>ae (af (aJ z (.bool true) (nth F 0))) fun G=>ar G (M.pure (AV.bool false)) (ae (af (ao T .add 3 (nth b 4) (.int .i64 1))) fun H=>a [nth b 0,nth b 1,nth b 2,nth b 3,H])) (M.pure (AV.bool true))
def XL64_0{call:CC}:bL (L64_0 call ah) fun _n=>L64_0 call ah  :=by
 intro a b c d;unfold L64_0;exact (lb fun _=>(au (by(iterate 13 refine lb fun _=>?_);exact (au (aR.const _) (lb fun _=>c _))) (aR.const _)))
def FL64_0(call:CC)(vs:List AV):ah (L64_0 call ah) vs=L64_0 call ah  (ah (L64_0 call ah)) vs:=aY (XL64_0) vs
def S64(call:CC)(fx:bH AV)(a0 a1:AV):M AV:=ae (af (ao T .eql 3 a1 (.int .i64 0))) fun a=>ae (ay a false 1 (ae (af (aa T 55 (.ip (ab a0)) 0)) fun b=>ae (af (aj T 3 b)) fun c=>ae (af (ao T .lss 3 c (.int .i64 0))) fun d=>M.pure [d])) fun e=>ae (af (aJ a (.bool true) (nth e 0))) fun f=>ae (ay f false 1 (ae (af (aa T 55 (.ip (ab a0)) 0)) fun g=>ae (af (aj T 3 g)) fun h=>ae (af (ao T .geq 3 h (.int .i64 3))) fun i=>M.pure [i])) fun j=>ae (af (aJ f (.bool true) (nth j 0))) fun k=>ae (ay k false 1 (ae (af (aa T 55 (.ip (ab a0)) 1)) fun l=>ae (af (aj T 36 l)) fun m=>ae (af (aK T 36 m)) fun n=>ae (af (ao T .gtr 3 n (.int .i64 8))) fun o=>M.pure [o])) fun p=>ae (af (aJ k (.bool true) (nth p 0))) fun q=>ae (ay q false 1 (ae (af (aa T 55 (.ip (ab a0)) 0)) fun r=>ae (af (aj T 3 r)) fun s=>ae (af (ao T .neq 3 s (.int .i64 2))) fun u=>M.pure [u])) fun v=>ae (ay (nth v 0) true 1 (ae (af (aa T 55 (.ip (ab a0)) 1)) fun w=>ae (af (aj T 36 w)) fun x=>ae (af (aK T 36 x)) fun y=>ae (af (ao T .gtr 3 y (.int .i64 0))) fun z=>M.pure [z])) fun A=>ae (ay q false 1 (ae (af (aJ (nth v 0) (nth A 0) (.bool false))) fun B=>M.pure [B])) fun C=>ae (af (aJ q (.bool true) (nth C 0))) fun D=>ar D (M.pure (AV.bool false)) (ae (af (aa T 55 (.ip (ab a0)) 1)) fun E=>ae (af (aj T 36 E)) fun F=>ae (af (aK T 36 F)) fun G=>fx (L64_0 call fx) [a1,.ip (ab a0),F,G,.int .i64 0])
def E64(a0 a1:AV):EE 64 Tryz.f64 EY [a0,a1] (fun c x=>S64 c x a0 a1):=fun _ _=>by kernel_rfl
def C64(a0 a1:AV):ai pg 64 [a0,a1]=aM (S64 (ai pg) ah (cl az a0) (cl az a1)):=(aC aI rfl rfl rfl _).trans (LG aM (E64 (cl az a0) (cl az a1) _ _))
def S66(call:CC)(fx:bH AV)(a0:AV):M AV:=ae (af (aQ T false 57 [(0,.int .i64 1),(1,a0)])) fun a=>ae (aE 6 [] a) fun b=>M.pure (AV.agg [nth (ab b) 0,nth (ab b) 1,nth (ab b) 2,nth (ab b) 3,nth (ab b) 4,nth (ab b) 5])
def E66(a0:AV):EE 66 Tryz.f66 E0 [a0] (fun c x=>S66 c x a0):=fun _ _=>by kernel_rfl
def C66(a0:AV):ai pg 66 [a0]=aM (S66 (ai pg) ah (cl az a0)):=(aC aI rfl rfl rfl _).trans (LG aM (E66 (cl az a0) _ _))
def S69(call:CC)(fx:bH AV)(a0 a1 a2 a3:AV):M AV:=ae (af (aQ T false 67 [(0,.int .i64 11)])) fun a=>ae (call 40 [a0,a]) fun b=>ae (af (aj T 57 (.ip (ab a1)))) fun c=>ae (call 39 [a0,c,a3]) fun d=>ae (af (aQ T false 67 [(0,.int .i64 10)])) fun e=>ae (call 40 [a0,e]) fun f=>ae (af (bB a0)) fun g=>ae (af (aa T 93 g 1)) fun h=>ae (bj T 26 h) fun i=>ae (af (bB a0)) fun j=>ae (af (aa T 93 j 1)) fun k=>ae (bj T 26 k) fun l=>ae (af (aK T 26 l)) fun m=>ae (af (ak T 26 i b)) fun n=>ae (af (aa T 67 n 1)) fun o=>ae (bI T 3 o m) fun p=>ae (af (aj T 57 (.ip (ab a2)))) fun q=>ae (call 39 [a0,q,a3]) fun r=>ae (af (bB a0)) fun s=>ae (af (aa T 93 s 1)) fun u=>ae (bj T 26 u) fun v=>ae (af (bB a0)) fun w=>ae (af (aa T 93 w 1)) fun x=>ae (bj T 26 x) fun y=>ae (af (aK T 26 y)) fun z=>ae (af (ak T 26 v f)) fun A=>ae (af (aa T 67 A 1)) fun B=>ae (bI T 3 B z) fun C=>M.pure (AV.tup [])
def E69(a0 a1 a2 a3:AV):EE 69 Tryz.f69 E3 [a0,a1,a2,a3] (fun c x=>S69 c x a0 a1 a2 a3):=fun _ _=>by kernel_rfl
def C69(a0 a1 a2 a3:AV):ai pg 69 [a0,a1,a2,a3]=S69 (ai pg) ah a0 a1 a2 a3:=(cJ aI rfl rfl rfl _).trans (E69 a0 a1 a2 a3 _ _)
def L70_0(call:CC)(fx:bH AV)(a:RR)(b:List AV):M AV:=ae (af (ao T .lss 3 (nth b 4) (nth b 3))) fun c=>ar c (ae (af (ak T 37 (nth b 2) (nth b 4))) fun d=>ae (af (aj T 57 d)) fun e=>ae (aT 6 e) fun f=>ae (af (aj T 57 (.ip (ab f)))) fun g=>ae (call 39 [nth b 0,g,nth b 1]) fun h=>ae (af (ao T .add 3 (nth b 4) (.int .i64 1))) fun i=>a [nth b 0,nth b 1,nth b 2,nth b 3,i]) (M.pure (AV.tup []))
def XL70_0{call:CC}:bL (L70_0 call ah) fun _n=>L70_0 call ah  :=by
 intro a b c d;unfold L70_0;exact (lb fun _=>(au (by(iterate 6 refine lb fun _=>?_);exact (c _)) (aR.const _)))
def FL70_0(call:CC)(vs:List AV):ah (L70_0 call ah) vs=L70_0 call ah  (ah (L70_0 call ah)) vs:=aY (XL70_0) vs
def S70(call:CC)(fx:bH AV)(a0 a1 a2:AV):M AV:=ae (af (aK T 37 a1)) fun a=>fx (L70_0 call fx) [a0,a2,a1,a,.int .i64 0]
def E70(a0 a1 a2:AV):EE 70 Tryz.f70 E4 [a0,a1,a2] (fun c x=>S70 c x a0 a1 a2):=fun _ _=>by kernel_rfl
def C70(a0 a1 a2:AV):ai pg 70 [a0,a1,a2]=S70 (ai pg) ah a0 a1 a2:=(cJ aI rfl rfl rfl _).trans (E70 a0 a1 a2 _ _)
def S71(call:CC)(fx:bH AV)(a0 a1:AV):M AV:=ae (af (aa T 57 (.ip (ab a1)) 0)) fun a=>ae (af (aj T 3 a)) fun b=>ae (af (ao T .eql 3 b (.int .i64 3))) fun c=>ar c (ae (af (aQ T false 67 [(0,.int .i64 4)])) fun d=>ae (aE 5 [] d) fun e=>M.pure (AV.agg [nth (ab e) 0,nth (ab e) 1,nth (ab e) 2,nth (ab e) 3,nth (ab e) 4])) (ae (af (ao T .eql 3 b (.int .i64 4))) fun f=>ar f (ae (af (aQ T false 67 [(0,.int .i64 5)])) fun g=>ae (aE 5 [] g) fun h=>M.pure (AV.agg [nth (ab h) 0,nth (ab h) 1,nth (ab h) 2,nth (ab h) 3,nth (ab h) 4])) (ae (af (ao T .eql 3 b (.int .i64 5))) fun i=>ar i (ae (af (aQ T false 67 [(0,.int .i64 6)])) fun j=>ae (aE 5 [] j) fun k=>M.pure (AV.agg [nth (ab k) 0,nth (ab k) 1,nth (ab k) 2,nth (ab k) 3,nth (ab k) 4])) (ae (af (ao T .eql 3 b (.int .i64 6))) fun l=>ar l (ae (af (aQ T false 67 [(0,.int .i64 7)])) fun m=>ae (aE 5 [] m) fun n=>M.pure (AV.agg [nth (ab n) 0,nth (ab n) 1,nth (ab n) 2,nth (ab n) 3,nth (ab n) 4])) (ae (af (ao T .eql 3 b (.int .i64 7))) fun o=>ar o (ae (af (aQ T false 67 [(0,.int .i64 8)])) fun p=>ae (aE 5 [] p) fun q=>M.pure (AV.agg [nth (ab q) 0,nth (ab q) 1,nth (ab q) 2,nth (ab q) 3,nth (ab q) 4])) (ae (af (ao T .eql 3 b (.int .i64 10))) fun r=>ar r (ae (af (aQ T false 67 [(0,.int .i64 9)])) fun s=>ae (aE 5 [] s) fun u=>M.pure (AV.agg [nth (ab u) 0,nth (ab u) 1,nth (ab u) 2,nth (ab u) 3,nth (ab u) 4])) (ae (af (ao T .eql 3 b (.int .i64 13))) fun v=>ar v (ae (af (aa T 57 (.ip (ab a1)) 4)) fun w=>ae (af (aj T 35 w)) fun x=>ae (call 59 [x]) fun y=>ae (af (aQ T false 67 [(0,.int .i64 12),(4,y)])) fun z=>ae (aE 5 [] z) fun A=>M.pure (AV.agg [nth (ab A) 0,nth (ab A) 1,nth (ab A) 2,nth (ab A) 3,nth (ab A) 4])) (ae (af (ao T .eql 3 b (.int .i64 14))) fun B=>ar B (ae (af (aa T 57 (.ip (ab a1)) 2)) fun C=>ae (af (aj T 9 C)) fun D=>ae (af (aQ T false 67 [(0,.int .i64 13),(2,D)])) fun E=>ae (aE 5 [] E) fun F=>M.pure (AV.agg [nth (ab F) 0,nth (ab F) 1,nth (ab F) 2,nth (ab F) 3,nth (ab F) 4])) (ae (af (ao T .eql 3 b (.int .i64 15))) fun G=>ar G (ae (af (aa T 57 (.ip (ab a1)) 2)) fun H=>ae (af (aj T 9 H)) fun I=>ae (af (aa T 57 (.ip (ab a1)) 3)) fun J=>ae (af (aj T 9 J)) fun K=>ae (af (aa T 57 (.ip (ab a1)) 5)) fun L=>ae (af (aj T 37 L)) fun N=>ae (af (aK T 37 N)) fun O=>ae (af (aQ T false 67 [(0,.int .i64 14),(2,I),(3,K),(1,O)])) fun P=>ae (aE 5 [] P) fun Q=>M.pure (AV.agg [nth (ab Q) 0,nth (ab Q) 1,nth (ab Q) 2,nth (ab Q) 3,nth (ab Q) 4])) (ae (af (ao T .eql 3 b (.int .i64 16))) fun R=>ar R (ae (af (aa T 57 (.ip (ab a1)) 1)) fun S=>ae (af (aj T 3 S)) fun U=>ae (af (aQ T false 67 [(0,.int .i64 15),(1,U)])) fun V=>ae (aE 5 [] V) fun W=>M.pure (AV.agg [nth (ab W) 0,nth (ab W) 1,nth (ab W) 2,nth (ab W) 3,nth (ab W) 4])) (ae (af (aa T 57 (.ip (ab a1)) 2)) fun X=>ae (af (aj T 9 X)) fun Y=>ae (call 68 [a0,Y]) fun Z=>ae (af (aQ T false 67 [(0,.int .i64 17),(1,Z)])) fun u0=>ae (aE 5 [] u0) fun u1=>M.pure (AV.agg [nth (ab u1) 0,nth (ab u1) 1,nth (ab u1) 2,nth (ab u1) 3,nth (ab u1) 4])))))))))))
def E71(a0 a1:AV):EE 71 Tryz.f71 E6 [a0,a1] (fun c x=>S71 c x a0 a1):=fun _ _=>by kernel_rfl
def C71(a0 a1:AV):ai pg 71 [a0,a1]=S71 (ai pg) ah a0 a1:=(cJ aI rfl rfl rfl _).trans (E71 a0 a1 _ _)
def S75(call:CC)(fx:bH AV)(a0:AV):M AV:=ae (af (ao T .geq 5 a0 (.int .u8 48))) fun a=>ae (ay a true 1 (ae (af (ao T .leq 5 a0 (.int .u8 57))) fun b=>M.pure [b])) fun c=>ae (af (aJ a (nth c 0) (.bool false))) fun d=>M.pure d
def E75(a0:AV):EE 75 Tryz.f75 Fc [a0] (fun c x=>S75 c x a0):=fun _ _=>by kernel_rfl
def C75(a0:AV):ai pg 75 [a0]=aM (S75 (ai pg) ah (cl az a0)):=(aC aI rfl rfl rfl _).trans (LG aM (E75 (cl az a0) _ _))
def S79(call:CC)(fx:bH AV)(a0:AV):M AV:=ae (af (aj T 55 (.ip (ab a0)))) fun a=>ae (call 77 [a]) fun b=>ae (af (fm UnOp.not b)) fun c=>M.pure c
def E79(a0:AV):EE 79 Tryz.f79 Fg [a0] (fun c x=>S79 c x a0):=fun _ _=>by kernel_rfl
def C79(a0:AV):ai pg 79 [a0]=aM (S79 (ai pg) ah (cl az a0)):=(aC aI rfl rfl rfl _).trans (LG aM (E79 (cl az a0) _ _))
def S80(call:CC)(fx:bH AV)(a0 a1 a2 a3:AV):M AV:=ae (af (aQ T false 42 [(0,a0)])) fun a=>ae (af (aQ T true 109 [(0,a)])) fun b=>ae (newH (ab b)) fun c=>ae (af (aj T 57 (.ip (ab a2)))) fun d=>ae (call 46 [c,a1,d]) fun e=>ae (af (aG e 0)) fun f=>ae (af (aG e 1)) fun g=>ae (aT 2 f) fun h=>ae (af (ao T .neq 30 g (.int .i64 0))) fun i=>ar i (M.pure g) (ae (af (bB c)) fun j=>ae (af (aa T 109 j 2)) fun k=>ae (bj T 3 k) fun l=>ae (af (ao T .neq 3 l (.int .i64 0))) fun m=>ar m (M.pure (AV.int .i64 14)) (ae (af (aj T 55 (.ip (ab h)))) fun n=>ae (af (aj T 55 (.ip (ab a3)))) fun o=>ae (call 47 [n,o]) fun p=>ae (af (fm UnOp.not p)) fun q=>ar q (M.pure (AV.int .i64 13)) (M.pure (AV.int .i64 0))))
def E80(a0 a1 a2 a3:AV):EE 80 Tryz.f80 Fh [a0,a1,a2,a3] (fun c x=>S80 c x a0 a1 a2 a3):=fun _ _=>by kernel_rfl
def C80(a0 a1 a2 a3:AV):ai pg 80 [a0,a1,a2,a3]=aM (S80 (ai pg) ah (cl az a0) (cl az a1) (cl az a2) (cl az a3)):=(aC aI rfl rfl rfl _).trans (LG aM (E80 (cl az a0) (cl az a1) (cl az a2) (cl az a3) _ _))
def K83_0(call:CC)(fx:bH AV)(a:List AV):M AV:=ae (af (aj T 55 (nth a 0))) fun b=>ae (aE 2 [] b) fun c=>M.pure (AV.tup [.agg [nth (ab c) 0,nth (ab c) 1],.int .i64 0])
def S83(call:CC)(fx:bH AV)(a0 a1 a2:AV):M AV:=ae (af (bB a0)) fun a=>ae (af (aa T 109 a 0)) fun b=>ae (af (aa T 42 b 2)) fun c=>ae (bj T 36 c) fun d=>ae (af (aa T 57 (.ip (ab a2)) 2)) fun e=>ae (af (aj T 9 e)) fun f=>ae (call 81 [d,f]) fun g=>ae (af (aG g 0)) fun h=>ae (af (aG g 1)) fun i=>ae (aT 2 h) fun j=>ae (af (fm UnOp.not i)) fun k=>ar k (ae (af (aQ T false 55 [])) fun l=>ae (aE 2 [] l) fun m=>M.pure (AV.tup [.agg [nth (ab m) 0,nth (ab m) 1],.int .i64 12])) (jn (K83_0 call fx) fun n=>ae (af (aa T 57 (.ip (ab a2)) 0)) fun o=>ae (af (aj T 3 o)) fun p=>ae (af (ao T .eql 3 p (.int .i64 18))) fun q=>ar q (ae (af (aa T 57 (.ip (ab a2)) 5)) fun r=>ae (af (aj T 37 r)) fun s=>ae (af (ak T 37 s (.int .i64 0))) fun u=>ae (af (aj T 57 u)) fun v=>ae (call 46 [a0,a1,v]) fun w=>ae (af (aG w 0)) fun x=>ae (af (aG w 1)) fun y=>ae (aT 2 x) fun z=>ae (af (ao T .neq 30 y (.int .i64 0))) fun A=>ar A (ae (af (aQ T false 55 [])) fun B=>ae (aE 2 [] B) fun C=>M.pure (AV.tup [.agg [nth (ab C) 0,nth (ab C) 1],y])) (ae (af (aj T 55 (.ip (ab z)))) fun D=>ae (af (aj T 55 (.ip (ab j)))) fun E=>ae (call 47 [D,E]) fun F=>ae (af (fm UnOp.not F)) fun G=>ar G (ae (af (aQ T false 55 [])) fun H=>ae (aE 2 [] H) fun I=>M.pure (AV.tup [.agg [nth (ab I) 0,nth (ab I) 1],.int .i64 13])) (n [.ip (ab j),.int .i64 0,.sl []]))) (n [.ip (ab j),.int .i64 0,.sl []]))
def E83(a0 a1 a2:AV):EE 83 Tryz.f83 Fi [a0,a1,a2] (fun c x=>S83 c x a0 a1 a2):=fun _ _=>by kernel_rfl
def C83(a0 a1 a2:AV):ai pg 83 [a0,a1,a2]=S83 (ai pg) ah a0 a1 a2:=(cJ aI rfl rfl rfl _).trans (E83 a0 a1 a2 _ _)
def S88(call:CC)(fx:bH AV)(a0 a1:AV):M AV:=ae (af (aa T 55 a1 1)) fun a=>ae (af (aj T 36 a)) fun b=>ae (af (aa T 95 (.ip (ab a0)) 0)) fun c=>ae (af (aj T 9 c)) fun d=>ae (call 81 [b,d]) fun e=>ae (af (aG e 0)) fun f=>ae (af (aG e 1)) fun g=>ae (aT 2 f) fun h=>ae (af (fm UnOp.not g)) fun i=>ae (ay i false 1 (ae (af (aj T 55 (.ip (ab h)))) fun j=>ae (af (aa T 95 (.ip (ab a0)) 1)) fun k=>ae (af (aj T 55 k)) fun l=>ae (call 47 [j,l]) fun m=>ae (af (fm UnOp.not m)) fun n=>M.pure [n])) fun o=>ae (af (aJ i (.bool true) (nth o 0))) fun p=>M.pure p
def E88(a0 a1:AV):EE 88 Tryz.f88 Fq [a0,a1] (fun c x=>S88 c x a0 a1):=fun _ _=>by kernel_rfl
def C88(a0 a1:AV):ai pg 88 [a0,a1]=aM (S88 (ai pg) ah (cl az a0) (cl az a1)):=(aC aI rfl rfl rfl _).trans (LG aM (E88 (cl az a0) (cl az a1) _ _))
def K98_0(call:CC)(fx:bH AV)(a:List AV):M AV:=ar (nth a 2) (ae (af (aa T 57 (nth a 0) 2)) fun b=>ae (af (aj T 9 b)) fun c=>ae (cq c) fun d=>ae (aE 6 [] (.agg [nth a 9,nth a 10,c,nth a 12,nth a 13,nth a 14])) fun e=>M.pure (AV.tup [.agg [nth (ab e) 0,nth (ab e) 1,nth (ab e) 2,nth (ab e) 3,nth (ab e) 4,nth (ab e) 5],.int .i64 1])) (ae (af (ao T .eql 3 (nth a 1) (.int .i64 16))) fun f=>ar f (ae (af (aa T 57 (nth a 0) 1)) fun g=>ae (af (aj T 3 g)) fun h=>ae (cq h) fun i=>ae (aE 6 [] (.agg [nth a 9,h,nth a 11,nth a 12,nth a 13,nth a 14])) fun j=>M.pure (AV.tup [.agg [nth (ab j) 0,nth (ab j) 1,nth (ab j) 2,nth (ab j) 3,nth (ab j) 4,nth (ab j) 5],.int .i64 1])) (ae (af (ao T .eql 3 (nth a 1) (.int .i64 10))) fun k=>ar k (ae (aE 6 [] (.agg [nth a 9,nth a 10,nth a 11,nth a 12,nth a 13,nth a 14])) fun l=>M.pure (AV.tup [.agg [nth (ab l) 0,nth (ab l) 1,nth (ab l) 2,nth (ab l) 3,nth (ab l) 4,nth (ab l) 5],.int .i64 1])) (ae (af (ao T .eql 3 (nth a 1) (.int .i64 12))) fun m=>ar m (ae (af (aa T 57 (nth a 0) 2)) fun n=>ae (af (aj T 9 n)) fun o=>ae (cq o) fun p=>ae (aE 6 [] (.agg [nth a 9,nth a 10,o,nth a 12,nth a 13,nth a 14])) fun q=>M.pure (AV.tup [.agg [nth (ab q) 0,nth (ab q) 1,nth (ab q) 2,nth (ab q) 3,nth (ab q) 4,nth (ab q) 5],.int .i64 2])) (ae (af (ao T .eql 3 (nth a 1) (.int .i64 11))) fun r=>ar r (ae (aE 6 [] (.agg [nth a 9,nth a 10,nth a 11,nth a 12,nth a 13,nth a 14])) fun s=>M.pure (AV.tup [.agg [nth (ab s) 0,nth (ab s) 1,nth (ab s) 2,nth (ab s) 3,nth (ab s) 4,nth (ab s) 5],.int .i64 3])) (ae (af (ao T .eql 3 (nth a 1) (.int .i64 13))) fun u=>ar u (ae (af (aa T 57 (nth a 0) 4)) fun v=>ae (af (aj T 35 v)) fun w=>ae (cq w) fun x=>ae (af (aa T 57 (nth a 0) 4)) fun y=>ae (af (aj T 35 y)) fun z=>ae (af (aK T 35 z)) fun A=>ae (aE 6 [] (.agg [nth a 9,nth a 10,nth a 11,nth a 12,w,nth a 14])) fun B=>M.pure (AV.tup [.agg [nth (ab B) 0,nth (ab B) 1,nth (ab B) 2,nth (ab B) 3,nth (ab B) 4,nth (ab B) 5],A])) (ae (af (ao T .eql 3 (nth a 1) (.int .i64 15))) fun C=>ar C (ae (af (aa T 57 (nth a 0) 2)) fun D=>ae (af (aj T 9 D)) fun E=>ae (af (aa T 57 (nth a 0) 3)) fun F=>ae (af (aj T 9 F)) fun G=>ae (cq E) fun H=>ae (cq G) fun I=>ae (aE 6 [] (.agg [nth a 9,nth a 10,E,G,nth a 13,nth a 14])) fun J=>M.pure (AV.tup [.agg [nth (ab J) 0,nth (ab J) 1,nth (ab J) 2,nth (ab J) 3,nth (ab J) 4,nth (ab J) 5],.int .i64 (-1)])) (ae (aE 6 [] (.agg [nth a 9,nth a 10,nth a 11,nth a 12,nth a 13,nth a 14])) fun K=>M.pure (AV.tup [.agg [nth (ab K) 0,nth (ab K) 1,nth (ab K) 2,nth (ab K) 3,nth (ab K) 4,nth (ab K) 5],.int .i64 2]))))))))
def K98_1(call:CC)(fx:bH AV)(a:List AV):M AV:=ar (nth a 2) (ae (af (aa T 57 (nth a 0) 2)) fun b=>ae (af (aj T 9 b)) fun c=>ae (cq c) fun d=>ae (aE 6 [] (.agg [nth a 9,nth a 10,c,nth a 12,nth a 13,nth a 14])) fun e=>M.pure (AV.tup [.agg [nth (ab e) 0,nth (ab e) 1,nth (ab e) 2,nth (ab e) 3,nth (ab e) 4,nth (ab e) 5],.int .i64 0])) (jn (K98_0 call fx) fun f=>ae (af (ao T .eql 3 (nth a 1) (.int .i64 18))) fun g=>ar g (f [nth a 0,nth a 1,g,nth a 3,nth a 4,nth a 5,nth a 6,nth a 7,nth a 8,nth a 9,nth a 10,nth a 11,nth a 12,nth a 13,nth a 14]) (ae (af (ao T .eql 3 (nth a 1) (.int .i64 14))) fun h=>f [nth a 0,nth a 1,h,nth a 3,nth a 4,nth a 5,nth a 6,nth a 7,nth a 8,nth a 9,nth a 10,nth a 11,nth a 12,nth a 13,nth a 14]))
def K98_2(call:CC)(fx:bH AV)(a:List AV):M AV:=ar (nth a 2) (ae (af (aa T 57 (nth a 0) 1)) fun b=>ae (af (aj T 3 b)) fun c=>ae (cq c) fun d=>ae (aE 6 [] (.agg [nth a 9,c,nth a 11,nth a 12,nth a 13,nth a 14])) fun e=>M.pure (AV.tup [.agg [nth (ab e) 0,nth (ab e) 1,nth (ab e) 2,nth (ab e) 3,nth (ab e) 4,nth (ab e) 5],.int .i64 0])) (jn (K98_1 call fx) fun f=>ae (af (ao T .eql 3 (nth a 1) (.int .i64 2))) fun g=>ar g (f [nth a 0,nth a 1,g,nth a 3,nth a 4,nth a 5,nth a 6,nth a 7,nth a 8,nth a 9,nth a 10,nth a 11,nth a 12,nth a 13,nth a 14]) (ae (af (ao T .eql 3 (nth a 1) (.int .i64 17))) fun h=>f [nth a 0,nth a 1,h,nth a 3,nth a 4,nth a 5,nth a 6,nth a 7,nth a 8,nth a 9,nth a 10,nth a 11,nth a 12,nth a 13,nth a 14]))
def S98(call:CC)(fx:bH AV)(a0:AV):M AV:=ae (af (aa T 57 (.ip (ab a0)) 0)) fun a=>ae (af (aj T 3 a)) fun b=>ae (af (aa T 57 (.ip (ab a0)) 5)) fun c=>ae (af (aj T 37 c)) fun d=>ae (af (aQ T false 57 [(0,b),(5,d)])) fun e=>ae (aE 6 [] e) fun f=>ae (af (aa T 57 (.ip (ab a0)) 0)) fun g=>ae (af (aj T 3 g)) fun h=>jn (K98_2 call fx) fun i=>ae (af (ao T .eql 3 h (.int .i64 0))) fun j=>ar j (i [.ip (ab a0),h,j,.int .i64 0,.int .i64 0,.str [],.str [],.sl [],.sl [],nth (ab f) 0,nth (ab f) 1,nth (ab f) 2,nth (ab f) 3,nth (ab f) 4,nth (ab f) 5]) (ae (af (ao T .eql 3 h (.int .i64 1))) fun k=>i [.ip (ab a0),h,k,.int .i64 0,.int .i64 0,.str [],.str [],.sl [],.sl [],nth (ab f) 0,nth (ab f) 1,nth (ab f) 2,nth (ab f) 3,nth (ab f) 4,nth (ab f) 5])
def E98(a0:AV):EE 98 Tryz.f98 Fw [a0] (fun c x=>S98 c x a0):=fun _ _=>by kernel_rfl
def C98(a0:AV):ai pg 98 [a0]=aM (S98 (ai pg) ah (cl az a0)):=(aC aI rfl rfl rfl _).trans (LG aM (E98 (cl az a0) _ _))
def L100_0(call:CC)(fx:bH AV)(a:RR)(b:List AV):M AV:=ae (af (ao T .lss 3 (nth b 3) (nth b 2))) fun c=>ar c (ae (af (ak T 36 (nth b 0) (nth b 3))) fun d=>ae (af (aj T 95 d)) fun e=>ae (cd call (nth b 1) [e]) fun f=>ar f (M.pure (nth b 3)) (ae (af (ao T .add 3 (nth b 3) (.int .i64 1))) fun g=>a [nth b 0,nth b 1,nth b 2,g])) (M.pure (AV.int .i64 (-1)))
def XL100_0{call:CC}:bL (L100_0 call ah) fun _n=>L100_0 call ah  :=by
 intro a b c d;unfold L100_0;exact (lb fun _=>(au (lb fun _=>(lb fun _=>(lb fun _=>(au (aR.const _) (lb fun _=>c _))))) (aR.const _)))
def FL100_0(call:CC)(vs:List AV):ah (L100_0 call ah) vs=L100_0 call ah  (ah (L100_0 call ah)) vs:=aY (XL100_0) vs
def S100(call:CC)(fx:bH AV)(a0 a1:AV):M AV:=ae (af (aK T 36 a0)) fun a=>fx (L100_0 call fx) [a0,a1,a,.int .i64 0]
def E100(a0 a1:AV):EE 100 Tryz.f100 zW [a0,a1] (fun c x=>S100 c x a0 a1):=fun _ _=>by kernel_rfl
def C100(a0 a1:AV):ai pg 100 [a0,a1]=aM (S100 (ai pg) ah (cl az a0) (cl az a1)):=(aC aI rfl rfl rfl _).trans (LG aM (E100 (cl az a0) (cl az a1) _ _))
def S107(call:CC)(fx:bH AV)(a0 a1:AV):M AV:=ae (af (aa T 55 (.ip (ab a0)) 0)) fun a=>ae (af (aj T 3 a)) fun b=>ae (af (aj T 3 a1)) fun c=>ae (af (ao T .neq 3 b c)) fun d=>M.pure d
def E107(a0 a1:AV):EE 107 Tryz.f107 Aa [a0,a1] (fun c x=>S107 c x a0 a1):=fun _ _=>by kernel_rfl
def C107(a0 a1:AV):ai pg 107 [a0,a1]=aM (S107 (ai pg) ah (cl az a0) (cl az a1)):=(aC aI rfl rfl rfl _).trans (LG aM (E107 (cl az a0) (cl az a1) _ _))
def S121(call:CC)(fx:bH AV)(a0 a1:AV):M AV:=ae (af (aK T 9 a0)) fun a=>ae (af (aK T 9 a1)) fun b=>ae (af (ao T .geq 3 a b)) fun c=>ae (ay c true 1 (ae (af (aK T 9 a1)) fun d=>ae (af (dj T 9 a0 none (some d) none)) fun e=>ae (af (ao T .eql 9 e a1)) fun f=>M.pure [f])) fun g=>ae (af (aJ c (nth g 0) (.bool false))) fun h=>M.pure h
def E121(a0 a1:AV):EE 121 Tryz.f121 Ac [a0,a1] (fun c x=>S121 c x a0 a1):=fun _ _=>by kernel_rfl
def C121(a0 a1:AV):ai pg 121 [a0,a1]=aM (S121 (ai pg) ah (cl az a0) (cl az a1)):=(aC aI rfl rfl rfl _).trans (LG aM (E121 (cl az a0) (cl az a1) _ _))
end
end Go.Proofs.YtpmcemjkdkbicaaGreatDoor
