/- What the functions of the seat compute, part 2: the texts of the claim, one behind the other. Conditions: bounds, as each theorem names them. -/
import Derived.Test.YteemeakjlfnapaaGreatDoorTa
import Derived.RangeFuncNested
import Derived.RangeFuncBound
import Derived.RangeFuncCalls
import Derived.RangeFuncLeaves
import Derived.RangeFuncBox
import Derived.Shelf.Abstract
import Derived.Shelf.RegionOpen
import Derived.OwnWalkIn
import Derived.TacticsInMore
import Derived.LoopNIn
import Derived.LoopIn
set_option linter.defProp false
set_option linter.unusedSimpArgs false
set_option linter.unusedVariables false
namespace Go.Proofs.YteemeakjlfnapaaGreatDoor
open Go Go.Av Go.RowKit Go.Shelf
attribute [local go_sem] Oper.semAt_some
abbrev cJ:=ByteArray×Int×(Option Addr×Nat×Nat)
def cJ.k(x:cJ):Value:=.int .i64 x.2.1
def cJ.f(x:cJ):Value:=.slice x.2.2.1 x.2.2.2.1 x.2.2.2.2
def wZ(x:cJ):Value:=.agg #[.string x.1,x.k,x.f]
def back(zs:List cJ)(k:Nat):List (Nat×cJ):=(List.range k).map fun j=>(zs.length-1-j,zs[zs.length-1-j]?.getD default)
def oO(zs:List cJ)(k:Nat):back zs (k+1)=back zs k++[(zs.length-1-k,zs[zs.length-1-k]?.getD default)]:=by simp[back,List.range_succ]
def rn(zs:List cJ)(k:Nat):(back zs k).length=k:=by simp[back]
def my(W:World)(b off:Nat)(zs:List cJ):Prop:=∀j,j<zs.length->W.cell? ⟨b,off+j*3,none⟩=some (.string (zs[j]?.getD default).1)/\W.cell? ⟨b,off+j*3+1,none⟩=some (zs[j]?.getD default).k/\W.cell? ⟨b,off+j*3+2,none⟩=some (zs[j]?.getD default).f
def my.below{n₀:Nat}{A B:World}(h:Below n₀ A B){b off:Nat}(hb:b<n₀){zs:List cJ}(c:my A b off zs):my B b off zs:=fun j hj=>by
 obtain⟨h1,h2,h3⟩:=c j hj;exact⟨(h.cell (p:=⟨b,_,none⟩) hb).trans h1,(h.cell (p:=⟨b,_,none⟩) hb).trans h2,(h.cell (p:=⟨b,_,none⟩) hb).trans h3⟩
set_option maxRecDepth 100000 in
set_option maxHeartbeats 2000000 in
def Df(F:Fence)(n:Nat)(h7:F.fn 252)(hro:F.round=none)(hn:1<=n)(l Bs n₀ b off cap:Nat)(zs:List cJ)(hreach:zs.length<=1000000000)(hb:b<n₀)(hBn:Bs<n₀)(J Jx:List (Nat×cJ)->World->Prop)
  (hY:∀pre x W,J pre W->pre.length<zs.length->YieldAt F (n-1) Tryz.prog l #[.int .i64 (x.1:Int),wZ x.2] W fun e W'=>
   (e= .returned (.bool true)/\J (pre++[x]) W'/\Below n₀ W W')\/(e= .returned (.bool false)/\Jx (pre++[x]) W'))
  (W:World) (hBs:W.cell? ⟨Bs,0,none⟩=some (.slice (some ⟨b,off,none⟩) zs.length cap)) (hc:my W b off zs) (h0:J [] W):
  CallsIn F n Tryz.prog 252 #[.func (.yield l) #[] #[],.pointer (some ⟨Bs,0,none⟩)] W fun e W'=>(∃v,e= .returned v)/\
   ((∃ys,ys=back zs zs.length/\J ys W')\/(∃pre,(∃k,k<=zs.length/\pre=back zs k)/\Jx pre W')):=by
 refine callsIn_of_wp Tryz.func252 rfl h7 ?_ hro;simp only[Tryz.ntmps252,IY,HG,HM,Nat.reduceAdd,Nat.reduceSub,Jt,Ju,JI,Jz,Ir,H8]
 gi_wp2
 gi_loopw [3] (fun i wr=>∃k:Nat,k<=zs.length/\i= .int .i64 ((zs.length:Int)-1-k)/\J (back zs k) wr/\Below n₀ W wr)
  (fun i _=>(intOf i+1).toNat)
 case atStart=>exact⟨0,H5 _,by simp,h0,Below.refl _ _⟩
 case round=>
  obtain⟨k,hk,rfl,hJs,hnx⟩:=hrel;have hbs:wr.cell? ⟨Bs,0,none⟩=some (.slice (some ⟨b,off,none⟩) zs.length cap):=(hnx.cell (p:=⟨Bs,0,none⟩) hBn).trans hBs;by_cases hlt:k<zs.length
  ·obtain⟨fn,tmps,assign,body,hy,hR⟩:=hY _ (zs.length-1-k,zs[zs.length-1-k]?.getD default) wr hJs (by rw[rn];exact hlt);dsimp only at hy;obtain⟨m,hm⟩:∃m:Nat,(zs.length:Int)-1-k=m:=⟨zs.length-1-k,by omega⟩;have hm':zs.length-1-k=m:=by omega
   rw[hm']at hy hR;rw[hm];obtain⟨c1,c2,c3⟩:=(hc.below hnx hb) m (by omega);generalize hz:zs[m]?.getD default=z at hy hR c1 c2 c3;obtain⟨z1,z2,z3,z4,z5⟩:=z;have hml:m<zs.length:=by omega
   simp only[wZ,cJ.k,cJ.f]at hy c2 c3
   gi_wp2
   refine hR.mono ?_;rintro e W3 (⟨rfl,hJ3,hk3⟩|⟨rfl,hJx3⟩)
   ·gi_wp2
    go_roundw
    case rel=>exact⟨k+1,by omega,by congr 1;omega,by rw[oO,hm',hz];exact hJ3,hnx.trans hk3⟩
    case measure=>simp[intOf]<;>omega
   ·gi_wp2
    refine bodyPost_ret (results_none rfl _ _ _) rfl ?_;exact⟨⟨_,rfl⟩,.inr ⟨_,⟨k+1,by omega,by rw[oO,hm',hz]⟩,hJx3⟩⟩
  ·obtain rfl:k=zs.length:=by omega
   gi_wp2
   go_end0
   exact⟨⟨_,rfl⟩,.inl ⟨_,rfl,hJs⟩⟩
set_option maxRecDepth 100000 in
set_option maxHeartbeats 1000000 in
def ud(F:Fence)(n:Nat)(h7:F.fn 252)(hro:F.round=none)(l Bs:Nat)(p:Option Addr)(cap:Nat)(J:List (Nat×cJ)->World->Prop)(W:World)(hBs:W.cell? ⟨Bs,0,none⟩=some (.slice p 0 cap))(h0:J [] W):
  CallsIn F n Tryz.prog 252 #[.func (.yield l) #[] #[],.pointer (some ⟨Bs,0,none⟩)] W fun e W'=>(∃v,e= .returned v)/\J [] W':=by
 refine callsIn_of_wp Tryz.func252 rfl h7 ?_ hro;simp only[Tryz.ntmps252,IY,HG,HM,Nat.reduceAdd,Nat.reduceSub,Jt,Ju,JI,Jz,Ir,H8]
 gi_wp2
 gi_loopw [3] (fun i wr=>i= .int .i64 (-1)/\J [] wr) (fun _ _=>0)
 case atStart=>exact⟨rfl,h0⟩
 case round=>
  obtain⟨rfl,hJs⟩:=hrel
  gi_wp2
  go_end0
  exact⟨⟨_,rfl⟩,hJs⟩
set_option maxHeartbeats 1000000 in
def Fo(F:Fence)(n:Nat)(h5:F.fn 228)(hro:F.round=none)(a:Option Addr)(len cap:Nat)(w:World):
  CallsIn F n Tryz.prog 228 #[.slice a len cap] w fun e w'=>e= .returned (.func (.func 252) #[] #[.pointer (some ⟨w.heap.size,0,none⟩)])/\w'=w.alloc (.cells #[.slice a len cap] 25):=by
 refine callsIn_of_wp Tryz.func228 rfl h5 ?_ hro;simp only[Tryz.ntmps228,IY,HG,HM,Nat.reduceAdd,Nat.reduceSub,Jt,Ju,JI,Jz,Ir,H8]
 gi_wp2
 go_ret
 exact⟨rfl,rfl⟩
def jX(n₀:Nat)(W:World)(sv:Value)(zs:List cJ):Prop:=
 (zs=[]/\∃p cap,sv= .slice p 0 cap)\/∃b off cap,sv= .slice (some ⟨b,off,none⟩) zs.length cap/\b<n₀/\my W b off zs
theorem jX.below{n₀:Nat}{A B:World}(h:Below n₀ A B){sv:Value}{zs:List cJ}:jX n₀ A sv zs->jX n₀ B sv zs
 |.inl e=>.inl e
 |.inr ⟨b,off,cap,e,hb,hc⟩=>.inr ⟨b,off,cap,e,hb,hc.below h hb⟩
theorem jX.mono{n n':Nat}(h:n<=n'){W:World}{sv:Value}{zs:List cJ}:jX n W sv zs->jX n' W sv zs
 |.inl e=>.inl e
 |.inr ⟨b,off,cap,e,hb,hc⟩=>.inr ⟨b,off,cap,e,H6 hb h,hc⟩
def zn(F:Fence)(n:Nat)(h8:F.fn 252)(hro:F.round=none)(hn:1<=n)(Bs:Nat)(sv:Value)(zs:List cJ)(hreach:zs.length<=1000000000)(w:World)(hBs:Bs<w.heap.size)(hc:w.cell? ⟨Bs,0,none⟩=some sv)(hI:jX w.heap.size w sv zs):
  SeqStopsK F n Tryz.prog 252 #[.pointer (some ⟨Bs,0,none⟩)] (fun x:Nat×cJ=>#[Value.int .i64 (x.1:Int),wZ x.2]) (Below w.heap.size) (fun ys=>ys=back zs zs.length)
   (fun pre=>∃k,k<=zs.length/\pre=back zs k) zs.length w:=fun l J Jx W hW _ _ hY h0=>by
 have hc':=(hW.cell (p:=⟨Bs,0,none⟩) hBs).trans hc;rcases hI.below hW with⟨rfl,p,cap,rfl⟩|⟨b,off,cap,rfl,hb,hcs⟩
 ·exact (ud F n h8 hro l Bs p cap J W hc' h0).mono fun e W' ⟨he,hj⟩=>⟨he,.inl ⟨_,rfl,hj⟩⟩
 ·exact Df F n h8 hro hn l Bs w.heap.size b off cap zs hreach hb hBs J Jx hY W hc' hcs h0
def lq(zs:List cJ)(x:ByteArray):Option cJ:=zs.reverse.find? fun z=>decide (z.1=x)
def qv(zs:List cJ)(x:ByteArray)(z0 z1:Value):Value:=match lq zs x with
 |some z=>.tuple #[.agg #[z.k,z.f],.bool true]
 |none=>.tuple #[.agg #[z0,z1],.bool false]
def rp(zs:List cJ){k:Nat}(hk:k<=zs.length):(back zs k).map (·.2)=zs.reverse.take k:=by
 apply List.ext_getElem
 ·simp[back,hk]
 ·intro i h1 h2;have hi:i<k:=by simpa [back]using h1
  have h3:zs.length-1-i<zs.length:=by omega
  simp[back,h3]
def sd{zs:List cJ}{x:ByteArray}(h:∀p∈back zs zs.length,p.2.1≠x):lq zs x=none:=by
 unfold lq;rw[List.find?_eq_none];intro z hz;have hm:=rp zs (Hu _);rw[IQ (by simp)]at hm;rw[<- hm]at hz;obtain⟨p,hp,rfl⟩:=IH.1 hz;simpa using h p hp
def se{zs:List cJ}{x:ByteArray}{k:Nat}(hk:k<=zs.length){ini:List (Nat×cJ)}{last:Nat×cJ}(e1:back zs k=ini++[last])(e2:∀p∈ini,p.2.1≠x)(e3:last.2.1=x):lq zs x=some last.2:=by
 have hm:=rp zs hk;rw[e1,Kn]at hm;unfold lq;rw[<- I2 k zs.reverse,<- hm,ID,List.find?_append];have h1:(ini.map (·.2)).find? (fun z=>decide (z.1=x))=none:=by
  rw[List.find?_eq_none];intro z hz;obtain⟨p,hp,rfl⟩:=IH.1 hz;simpa using e2 p hp
 rw[h1];simp[e3]
def cb(W:World)(B:Nat)(t:TypeId)(cs:Array Value):Prop:=W.heap[B]? = some (.cells cs t (0,0))
def cb.lt{W:World}{B:Nat}{t:TypeId}{cs:Array Value}(h:cb W B t cs):B<W.heap.size:=(H4.1 h).1
def cb.cell{W:World}{B:Nat}{t:TypeId}{cs:Array Value}(h:cb W B t cs)(o:Nat):W.cell? ⟨B,o,none⟩=cs[o]?:=by simp[World.cell?,show W.heap[B]? = _ from h]
def cb.frozen{W:World}{B:Nat}{t:TypeId}{cs:Array Value}(h:cb W B t cs)(o:Nat):W.frozen? ⟨B,o,none⟩=false:=by simp[World.frozen?,show W.heap[B]? = _ from h]
def cb.new(W:World)(t:TypeId)(cs:Array Value):cb (W.alloc (.cells cs t)) W.heap.size t cs:=World.alloc_heap_new W _
def cb.kept{W W':World}{row:Option Nat}{B:Nat}{t:TypeId}{cs:Array Value}(h:cb W B t cs)(hg:W.grownBy W' row)(hne:some B≠row):cb W' B t cs:=(hg.block B h.lt hne).trans h
def cb.alloc{W:World}{B:Nat}{t:TypeId}{cs:Array Value}(h:cb W B t cs)(o:Obj):cb (W.alloc o) B t cs:=h.kept (World.grownBy_alloc W o none) (by simp)
def cb.put{W:World}{B:Nat}{t:TypeId}{cs:Array Value}(h:cb W B t cs){l:Nat}{o:Obj}(o':Obj)(hl:W.heap[l]? = some o)(ho:o.isCells=false):cb (W.putObj l o') B t cs:=
 h.kept (grownBy_putObj' W l o') (fun e=>by cases e;rw[show W.heap[B]? = _ from h]at hl;cases hl;cases ho)
def oz(W:World)(b o:Nat)(v:Value):W.grownBy (W.setCell ⟨b,o,none⟩ v) (some b):=
 ⟨rfl,rfl,rfl,(KeepsWalks.setCell W _ v).size,fun k _ hk=>Below.heap_setCell _ _ _ k (fun e=>hk (by rw[e]))⟩
def cb.other{W:World}{B B' o:Nat}{t:TypeId}{cs:Array Value}(h:cb W B t cs)(hne:B≠B')(u:Value):cb (W.setCell ⟨B',o,none⟩ u) B t cs:=h.kept (oz W B' o u) (fun e=>hne (by cases e;rfl))
def cb.set{W:World}{B:Nat}{t:TypeId}{cs:Array Value}(h:cb W B t cs)(o:Nat)(v:Value):cb (W.setCell ⟨B,o,none⟩ v) B t (cs.setIfInBounds o v):=by
 obtain⟨hlt,hk⟩:=H4.1 h;show (W.heap.modify B _)[B]? = _;rw[HW (by rw[Array.size_modify];exact hlt),Array.getElem_modify_self,hk];rfl
def yC{x y:ByteArray}(h:(x.toList== y.toList)=true):x=y:=by
 have:=HX.1 h
 rw[ByteArray.toList_eq,ByteArray.toList_eq]at this;exact ByteArray.ext (I0 this)
def yD{x y:ByteArray}(h:(x.toList== y.toList)=false):x≠y:=by
 rintro rfl;simp at h
def fe{β:Type}(B:Nat)(t:TypeId)(f:β->Array Value):Own (fun s W=>cb W B t (f s)):=fun s X Y row hs hg hrow=>
 hs.kept hg (fun e'=>by obtain⟨o,ho,hc⟩:=hrow B e'.symm;rw[show X.heap[B]? = _ from hs]at ho;cases ho;cases hc)
set_option maxRecDepth 100000 in
set_option maxHeartbeats 4000000 in
def A5(F:Fence)(n:Nat)(h3:F.fn 181)(h5:F.fn 228)(h7:F.fn 252)(hro:F.round=none)(hn:3<=n)(a:Option Addr)(len cap:Nat)(x:ByteArray)(zs:List cJ)(hreach:zs.length<=1000000000)(w:World)(hI:jX w.heap.size w (.slice a len cap) zs):
  CallsIn F n Tryz.prog 181 #[.slice a len cap,.string x] w fun e W'=>e= .returned (qv zs x (.int .i64 0) (.slice none 0 0))/\Below w.heap.size w W':=by
 have h1:1<=n:=by omega
 refine callsIn_of_wp_marks Tryz.func181 rfl h3 ?_ hro;simp only[Tryz.ntmps181,IY,HG,HM,Nat.reduceAdd,Nat.reduceSub,Jt,Ju,JI,Jz,Ir,H8]
 gi_wp2_with (gi_at_call 228;refine (Fo F (n-1) h5 hro _ _ _ _).mono ?_;rintro e w' ⟨rfl,rfl⟩)
 have b0:=(((cb.new w 9 #[.string x]).alloc (.cells #[.int .i64 0,.slice none 0 0] 27)).alloc (.cells #[.bool false] 4)).alloc (.cells #[.slice a len cap] 25);have b1:=((cb.new (w.alloc (.cells #[.string x] 9)) 27 #[.int .i64 0,.slice none 0 0]).alloc (.cells #[.bool false] 4)).alloc (.cells #[.slice a len cap] 25);have b2:=(cb.new ((w.alloc (.cells #[.string x] 9)).alloc (.cells #[.int .i64 0,.slice none 0 0] 27)) 4 #[.bool false]).alloc (.cells #[.slice a len cap] 25);have b3:=cb.new (((w.alloc (.cells #[.string x] 9)).alloc (.cells #[.int .i64 0,.slice none 0 0] 27)).alloc (.cells #[.bool false] 4)) 25 #[.slice a len cap];simp only[World.size_alloc]at b1 b2 b3;have hB0:Below w.heap.size w ((((w.alloc (.cells #[.string x] 9)).alloc (.cells #[.int .i64 0,.slice none 0 0] 27)).alloc (.cells #[.bool false] 4)).alloc (.cells #[.slice a len cap] 25)):=
  ((((Below.refl _ w).alloc (Hu _) _).alloc (by simp) _).alloc (by simp;omega) _).alloc (by simp;omega) _
 have hsz:((((w.alloc (.cells #[.string x] 9)).alloc (.cells #[.int .i64 0,.slice none 0 0] 27)).alloc (.cells #[.bool false] 4)).alloc (.cells #[.slice a len cap] 25)).heap.size=w.heap.size+4:=by simp
 obtain⟨W0,hW0⟩:∃W0,((((w.alloc (.cells #[.string x] 9)).alloc (.cells #[.int .i64 0,.slice none 0 0] 27)).alloc (.cells #[.bool false] 4)).alloc (.cells #[.slice a len cap] 25))=W0:=⟨_,rfl⟩;rw[hW0]at b0 b1 b2 b3 hB0 hsz |-;clear hW0;refine wpIn_rangeFunc_ownH hro h1 (gf:=252) (lb:=#[.pointer (some ⟨w.heap.size+1+1+1,0,none⟩)]) rfl h7 (enters_of Tryz.func252 (by kernel_rfl) rfl)
  (zn F (n-1) h7 hro (by omega) (w.heap.size+1+1+1) _ zs hreach W0 (by omega) (b3.cell 0) ((hI.below hB0).mono (by omega))) belowK_t (belowK_b (Hu _)) (Below.refl _ _) (fun _=>rfl)
  (fun pre W=>(∀p∈pre,p.2.1≠x)/\(cb W w.heap.size 9 #[.string x]/\cb W (w.heap.size+1) 27 #[.int .i64 0,.slice none 0 0]/\cb W (w.heap.size+1+1) 4 #[.bool false]/\cb W (w.heap.size+1+1+1) 25 #[.slice a len cap])/\Below w.heap.size w W)
  (fun c pre W=>(c= .ret/\∃ini last,pre=ini++[last]/\(∀p∈ini,p.2.1≠x)/\last.2.1=x/\cb W (w.heap.size+1) 27 #[last.2.k,last.2.f]/\cb W (w.heap.size+1+1) 4 #[.bool true])/\Below w.heap.size w W)
  ?hI ?hIx ⟨fun _ h=>(by cases h),⟨b0,b1,b2,b3⟩,hB0⟩
  (fun y a' W=>∃Bx,cb W Bx 76 #[.string y.2.1,y.2.k,y.2.f]/\a'= { tmps:=#[.slice a len cap,.string x,undef,.pointer (some ⟨w.heap.size,0,none⟩),.pointer (some ⟨w.heap.size+1,0,none⟩),.pointer (some ⟨w.heap.size+1+1,0,none⟩),undef,.pointer (some ⟨Bx,0,none⟩),.slice a len cap,.func (.func 252) #[] #[.pointer (some ⟨w.heap.size+1+1+1,0,none⟩)],.int .i64 (y.1:Int),wZ y.2,undef,undef,undef,undef,undef,undef,undef],defers:=[] })
  (fun y a' _ X Y row hs hg hr=>by obtain⟨Bx,h2,h3⟩:=hs;exact⟨Bx,fe Bx 76 (fun(_:Unit)=>#[Value.string y.2.1,y.2.k,y.2.f]) () X Y row h2 hg (fun r e=>(hr r e).2),h3⟩)
  ?assign ?body ?done ?stop
 case hI=>exact OwnFrom.and (ownFrom_pure _ _) (OwnFrom.and (OwnFrom.and (Own.from (fe _ _ _) _) (OwnFrom.and (Own.from (fe _ _ _) _) (OwnFrom.and (Own.from (fe _ _ _) _) (Own.from (fe _ _ _) _)))) (ownFrom_below (Hu _) (by omega)))
 case hIx=>
  intro c;refine OwnFrom.and (Own.from (fun s A B row hs hg hr=>?_) _) (ownFrom_below (Hu _) (by omega));obtain⟨hc,ini,last,e1,e2,e3,e4,e5⟩:=hs;exact⟨hc,ini,last,e1,e2,e3,fe _ _ (fun(_:Unit)=>#[last.2.k,last.2.f]) () A B row e4 hg hr,fe _ _ (fun(_:Unit)=>#[Value.bool true]) () A B row e5 hg hr⟩
 case assign=>
  rintro l pre y W K ⟨hp,⟨r0,r1,r2,r3⟩,hB⟩ hK;obtain⟨yi,y1,y2,y3,y4,y5⟩:=y;simp only[wZ,cJ.k,cJ.f]at hK |-
  gi_wp2
  exact hK _ _ ((KeepsOthers.alloc _ _).from _) ((Below.refl _ W).alloc (by have:=r3.lt;omega) _) ⟨hp,⟨r0.alloc _,r1.alloc _,r2.alloc _,r3.alloc _⟩,hB.alloc hB.size _⟩ ⟨W.heap.size,cb.new W _ _,rfl⟩
 case body=>
  rintro l pre y a' W hl ⟨r,hr⟩ ⟨hp,⟨r0,r1,r2,r3⟩,hB⟩ ⟨Bx,rx,rfl⟩ hlt;obtain⟨yi,y1,y2,y3,y4,y5⟩:=y;simp only[wZ,cJ.k,cJ.f]at rx |-;have c0:=r0.cell 0;have rB:=rx.cell 0;have cx1:=rx.cell 1;have cx2:=rx.cell 2;have f10:=r1.frozen 0;have f11:=r1.frozen 1;have f20:=r2.frozen 0;have c10:=r1.cell 0;have c11:=r1.cell 1;have c20:=r2.cell 0;simp at c0 rB cx1 cx2 c10 c11 c20
  gi_wp2
  ·have hx:y1=x:=yC (by assumption);have r1':=((r1.set 0 (.int .i64 y2)).set 1 (.slice y3 y4 y5)).other (B':=w.heap.size+1+1) (o:=0) (by omega) (.bool true);have r2':=((r2.other (B':=w.heap.size+1) (o:=0) (by omega) (.int .i64 y2)).other (B':=w.heap.size+1) (o:=1) (by omega) (.slice y3 y4 y5)).set 0 (.bool true);exact⟨(((KeepsOthers.setCell _ _ _).trans (KeepsOthers.setCell _ _ _)).trans (KeepsOthers.setCell _ _ _)).from _,⟨rfl,pre,(yi,y1,y2,y3,y4,y5),rfl,hp,hx,r1',r2'⟩,
    ((hB.setCell (p:=⟨w.heap.size+1,0,none⟩) (by simp) _).setCell (p:=⟨w.heap.size+1,1,none⟩) (by simp) _).setCell (p:=⟨w.heap.size+1+1,0,none⟩) (by simp;omega) _⟩
  ·have hx:y1≠x:=yD (by assumption);exact⟨KeepsFrom.refl _ _,Below.refl _ _,fun p hp'=>(HV.1 hp').elim (hp p) (fun e=>by simp at e;subst e;exact hx),⟨r0,r1,r2,r3⟩,hB⟩
 case done=>
  rintro D ys W hD rfl ⟨hne,⟨r0,r1,r2,r3⟩,hB⟩ hK;have f10:=r1.frozen 0;have f11:=r1.frozen 1;have f20:=r2.frozen 0;have c10:=r1.cell 0;have c11:=r1.cell 1;have c20:=r2.cell 0;simp at c10 c11 c20
  gi_wp2
  have r1':=((r1.set 0 (.int .i64 0)).set 1 (.slice none 0 0)).other (B':=w.heap.size+1+1) (o:=0) (by omega) (.bool false);have r2':=((r2.other (B':=w.heap.size+1) (o:=0) (by omega) (.int .i64 0)).other (B':=w.heap.size+1) (o:=1) (by omega) (.slice none 0 0)).set 0 (.bool false);have hB':=((hB.setCell (p:=⟨w.heap.size+1,0,none⟩) (by simp) (.int .i64 0)).setCell (p:=⟨w.heap.size+1,1,none⟩) (by simp) (.slice none 0 0)).setCell (p:=⟨w.heap.size+1+1,0,none⟩) (by simp;omega) (.bool false);have hK':=(((KeepsOthers.setCell W ⟨w.heap.size+1,0,none⟩ (.int .i64 0)).trans (KeepsOthers.setCell _ ⟨w.heap.size+1,1,none⟩ (.slice none 0 0))).trans (KeepsOthers.setCell _ ⟨w.heap.size+1+1,0,none⟩ (.bool false))).same D _ hK rfl;refine⟨by simp,.inl ⟨_,_,rfl,run_takeDeferred hK',?_⟩⟩;have q10:=(r1'.put (.deferred none) hK' rfl).cell 0;have q11:=(r1'.put (.deferred none) hK' rfl).cell 1;have q20:=(r2'.put (.deferred none) hK' rfl).cell 0;simp at q10 q11 q20;refine⟨.tuple #[.agg #[.int .i64 0,.slice none 0 0],.bool false],?_,?_,hB'.trans (belowK_b (w:=w) (Hu _) _ D _ _ (by omega) hK' rfl rfl)⟩
  rotate_left
  ·unfold qv;rw[sd hne]
  ·simp[results,Tryz.f181,go_sem,q10,q11,q20]
 case stop=>
  rintro D c pre W hD ⟨k,hk,rfl⟩ ⟨⟨rfl,ini,last,e1,e2,e3,r1,r2⟩,hB⟩ hK
  gi_wp2
  refine⟨by simp,.inl ⟨_,_,rfl,run_takeDeferred hK,?_⟩⟩;have q10:=(r1.put (.deferred none) hK rfl).cell 0;have q11:=(r1.put (.deferred none) hK rfl).cell 1;have q20:=(r2.put (.deferred none) hK rfl).cell 0;simp at q10 q11 q20;refine⟨.tuple #[.agg #[last.2.k,last.2.f],.bool true],?_,?_,hB.trans (belowK_b (w:=w) (Hu _) W D _ _ (by omega) hK rfl rfl)⟩
  rotate_left
  ·unfold qv;rw[se hk e1 e2 e3]
  ·simp[results,Tryz.f181,go_sem,q10,q11,q20]
end Go.Proofs.YteemeakjlfnapaaGreatDoor
namespace Go.Proofs.YteemeakjlfnapaaGreatDoor
open Go Go.Av Go.RowKit
set_option maxRecDepth 100000
def Ef(S:ar)(β:List bj)(y:List UInt8×Int×List AV)(z:cJ):Prop:=z.1.data.toList=y.1/\z.2.1=y.2.1/\VR S β (.sl y.2.2) z.f
def iA(S:ar)(β:List bj):List (List UInt8×Int×List AV)->List cJ->Prop
 |[],zs=>zs=[]
 |y:: l,zs=>∃z r,zs=z:: r/\Ef S β y z/\iA S β l r
theorem iA.length{S:ar}{β:List bj}:{l:List (List UInt8×Int×List AV)} ->{zs:List cJ} ->iA S β l zs->zs.length=l.length
 |[],_,h=>by simp only[iA]at h;simp[h]
 |y:: l,zs,h=>by
  simp only[iA]at h;obtain⟨z,r,rfl,_,h⟩:=h;simp[iA.length h]
def wD{e:AV}{y:List UInt8×Int×List AV}(h:rQ e=some y):e= .agg [.str y.1,.int .i64 y.2.1,.sl y.2.2]:=by
 unfold rQ at h;split at h
 ·cases h;rfl
 ·cases h
theorem E1{S:ar}{β:List bj}{b sz:Nat}:(es:List AV)->(off:Nat)->(l:List (List UInt8×Int×List AV))->bq S β es b off sz->eX es=some l->
  ∃zs:List cJ,iA S β l zs/\∀j,j<zs.length->S b (off+j*3)=some (.string (zs[j]?.getD default).1)/\S b (off+j*3+1)=some (zs[j]?.getD default).k/\S b (off+j*3+2)=some (zs[j]?.getD default).f
 |[],off,l,_,h=>by
  simp only[eX,Ho]at h;subst h;exact⟨[],rfl,fun j hj=>by simp at hj⟩
 | e :: es,off,l,he,h=>by
  simp only[eX]at h;cases h1:rQ e with
  |none=>rw[h1]at h;cases h
  | some y=>
   cases h2:eX es with
   |none=>rw[h1,h2]at h;cases h
   | some l'=>
    rw[h1,h2]at h;simp only[Ho]at h;subst h;simp only[bq]at he;obtain⟨⟨v,hv,hs,hc⟩,he⟩:=he
    have:=wD h1
    subst this;simp only[VR,aN]at hv;obtain⟨vs,rfl,_,_,rfl,⟨x,rfl,hx⟩,_,_,rfl,rfl,v3,_,rfl,hv3,rfl⟩:=hv;obtain⟨p,cap,hp,hq1,hq2,hq3⟩:=hv3;subst hp;have hsz:sz=3:=by rw[<- hs];rfl
    subst hsz;obtain⟨zs,hR,hZ⟩:=E1 es (off+3) l' he h2;have c0:=hc 0 _ rfl;have c1:=hc 1 _ rfl;have c2:=hc 2 _ rfl;refine⟨(x,y.2.1,(p,y.2.2.length,cap)):: zs,⟨_,_,rfl,⟨hx,rfl,by simp only[cJ.f,VR];exact⟨p,cap,rfl,hq1,hq2,hq3⟩⟩,hR⟩,fun j hj=>?_⟩;cases j with
    |zero=>exact⟨by simpa using c0,by simpa [cJ.k]using c1,by simpa [cJ.f]using c2⟩
    |succ j=>
     have:=hZ j (by simpa using hj)
     rw[show off+3+j*3=off+(j+1)*3 by omega]at this;simpa using this
theorem ko{S:ar}{β:List bj}{x:ByteArray}{name:List UInt8}(hx:x.data.toList=name):{l:List (List UInt8×Int×List AV)} ->{zs:List cJ} ->iA S β l zs->
  (aJ (fun z=>z.1== name) l=none/\aJ (fun z:cJ=>decide (z.1=x)) zs=none)\/∃y z,aJ (fun z=>z.1== name) l=some y/\aJ (fun z:cJ=>decide (z.1=x)) zs=some z/\Ef S β y z
 |[],zs,h=>by simp only[iA]at h;subst h;exact .inl ⟨rfl,rfl⟩
 | y :: l,zs,h=>by
  simp only[iA]at h;obtain⟨z,r,rfl,hz,h⟩:=h;rcases ko hx h with⟨h1,h2⟩|⟨y',z',h1,h2,h3⟩
  ·have he:(y.1== name)=decide (z.1=x):=by
    rw[<- hz.1,<- hx];by_cases h:z.1=x
    ·subst h;simp
    ·have h':z.1.data.toList≠x.data.toList:=fun h'=>h (ByteArray.ext (I0 h'));rw[Kq h];exact HB.2 h'
   simp only[aJ,h1,h2,he];cases decide (z.1=x)with
   |true=>exact .inr ⟨y,z,rfl,rfl,hz⟩
   |false=>exact .inl ⟨rfl,rfl⟩
  ·simp only[aJ,h1,h2];exact .inr ⟨_,_,rfl,rfl,h3⟩
def Dv(call:FuncId->List AV->M AV)(args:List AV)(h:Hp)(S:ar)(β:List bj)(w:World)(vs:List Value)(hr:je call args h≠.fail)(hg:mm β h w)(hw:Wf S w)(hh:cf S β w h)(hv:aN S β args vs):
  Calls Tryz.prog 181 vs.toArray w (dc none S β h w (je call args h)):=by
 unfold je at hr |-;split at hr
 ·rename_i es name;cases hl:eX es with
  |none=>rw[hl]at hr;exact absurd rfl hr
  | some l=>
   rw[hl]at hr;simp only at hr |-;cases hc:decide (l.length<=1000000000)with
   |false=>rw[hc]at hr;exact absurd rfl hr
   | true=>
    simp only[Hr];simp only[aN,VR]at hv;obtain⟨_,_,rfl,⟨a,cap,rfl,hle,hnil,hq⟩,_,_,rfl,⟨x,rfl,hx⟩,rfl⟩:=hv;have hlen:∀(es:List AV)(l:List (List UInt8×Int×List AV)),eX es=some l->l.length=es.length:=by
     intro es
     induction es with
     |nil=>intro l h;simp only[eX,Ho]at h;subst h;rfl
     | cons e es ih=>
      intro l h;simp only[eX]at h;split at h
      ·rename_i h2;cases h;simp[ih _ h2]
      ·cases h
    have hll:=hlen es l hl;have hz:∃zs:List cJ,iA S β l zs/\jX w.heap.size w (.slice a zs.length cap) zs:=by
     cases es with
     |nil=>
      simp only[eX,Ho]at hl;subst hl;exact⟨[],rfl,.inl ⟨rfl,a,cap,rfl⟩⟩
     | cons e es=>
      cases a with
      |none=>have:=hnil rfl;subst this;simp at hle
      | some q=>
       obtain⟨hs,sz,hE⟩:=hq q rfl;have hcap:0<cap:=by simp at hle;omega
       obtain⟨b,off,sp⟩:=q;have hs':sp=none:=hs hcap;subst hs';obtain⟨zs,hR,hZ⟩:=E1 (e:: es) off l hE hl;refine⟨zs,hR,.inr ⟨b,off,cap,rfl,?_,fun j hj=>?_⟩⟩
       ·have h0:=(hZ 0 (by rw[hR.length,hll];simp)).1;exact hw.lt h0
       ·obtain⟨h1,h2,h3⟩:=hZ j hj;exact⟨hw _ _ _ h1,hw _ _ _ h2,hw _ _ _ h3⟩
    obtain⟨zs,hR,hF⟩:=hz;have hzl:=hR.length;rw[show es.length=zs.length by omega];refine (callsIn_wide (n:=3)).1 ((A5 Fence.wide 3 trivial trivial trivial rfl (by omega) a zs.length cap x zs (by have:=Jg hc;omega) w hF).mono ?_);rintro e w' ⟨rfl,hb⟩;refine ci hw hh hb nH ?_;unfold qv ug lq;rw[<- oA];rcases ko hx hR with⟨h1,h2⟩|⟨y,z,h1,h2,h3⟩
    ·rw[h1,h2];simp only[VR,aN];exact⟨_,rfl,_,_,rfl,⟨_,rfl,_,_,rfl,rfl,_,_,rfl,⟨none,0,rfl,Hu _,fun _=>rfl,fun q hq=>by cases hq⟩,rfl⟩,_,_,rfl,rfl,rfl⟩
    ·rw[h1,h2];obtain⟨_,h4,h5⟩:=h3;simp only[VR,aN];exact⟨_,rfl,_,_,rfl,⟨_,rfl,_,_,rfl,by rw[<- h4];rfl,_,_,rfl,h5,rfl⟩,_,_,rfl,rfl,rfl⟩
 ·exact absurd rfl hr
end Go.Proofs.YteemeakjlfnapaaGreatDoor
namespace Go.Proofs.YteemeakjlfnapaaGreatDoor
open Go Go.Av
set_option maxRecDepth 100000
noncomputable def rB(n:Nat)(a:Ann):Cx:={ T:=T,call:=fun _ _=>M.fail,own:=own,iso:=fun _=>false,nw:=fun _=>false,nt:=n,ann:=a }
def kV(n:Nat)(a:Ann):cp Tryz.prog (rB n a).own (rB n a).call:=fun f args h S β w vs hr=>absurd rfl hr
def qh(n:Nat)(a:Ann):IsoCall (rB n a):=⟨fun f args h=>Bool.noConfusion h,fun f args h=>Bool.noConfusion h⟩
def EU(e:AV)(es:List AV):bH (rB Tryz.f103.ntmps pY) (cv 0) Tryz.f103 none [.sl (e:: es)]=ae (appH T 54 true (.sl []) (.sl (e:: es))) fun v=>ae (af (some v)) M.pure:=by kernel_rfl
def EV:bH (rB Tryz.f103.ntmps pY) (cv 0) Tryz.f103 none [.hn]=ae (af (some (.sl []))) M.pure:=by kernel_rfl
def EW(l off:Nat):bH (rB Tryz.f103.ntmps pY) (cv 0) Tryz.f103 none [.hs l off 0 1 false]=ae (appH T 54 true (.sl []) (.hs l off 0 1 false)) fun v=>ae (af (some v)) M.pure:=by kernel_rfl
def Do(call:FuncId->List AV->M AV)(args:List AV)(h:Hp)(S:ar)(β:List bj)(w:World)(vs:List Value)(hr:cX T 54 call args h≠.fail)(hg:mm β h w)(hw:Wf S w)(hh:cf S β w h)(hv:aN S β args vs):
  Calls Tryz.prog 103 vs.toArray w (dc none S β h w (cX T 54 call args h)):=by
 have key:∀es,args=[.sl es]->Calls Tryz.prog 103 vs.toArray w (dc none S β h w (cX T 54 call args h)):=by
  rintro es rfl;exact (iI (cx:=rB Tryz.f103.ntmps pY) (E:=fun es h=>cX T 54 call [.sl es] h) tok (kV _ _) (qh _ _) Tryz.func103 rfl (fun h=>by rfl) (fun e es h=>by rw[EU];exact Kv (tA _) h) (fun h=>by rw[EV];rfl) (fun l off h=>by rw[EW];rfl) hr hg hw hh hv).1
 unfold cX at hr;split at hr
 ·exact key _ rfl
 ·exact absurd rfl hr
end Go.Proofs.YteemeakjlfnapaaGreatDoor
