/- What the functions of the seat compute, part 2: the texts of the claim, one behind the other. Conditions: bounds, as each theorem names them. -/
import Derived.Test.YteemeakjlfnapaaGreatDoorTa
import Derived.RangeFuncNested
import Derived.RangeFuncBound
import Derived.RangeFuncCalls
import Derived.RangeFuncLeaves
import Derived.RangeFuncBox
import Derived.Shelf.Abstract
import Derived.Shelf.RegionOpen
import Derived.OwnWalkIn
import Derived.TacticsInMore
import Derived.LoopNIn
import Derived.LoopIn
set_option linter.defProp false
set_option linter.unusedSimpArgs false
set_option linter.unusedVariables false
namespace Go.Proofs.YteemeakjlfnapaaGreatDoor
open Go Go.Av Go.RowKit Go.Shelf
attribute [local go_sem] Oper.semAt_some
abbrev cb:=ByteArray×Int×(Option Addr×Nat×Nat)
def cb.k(x:cb):Value:=.int .i64 x.2.1
def cb.f(x:cb):Value:=.slice x.2.2.1 x.2.2.2.1 x.2.2.2.2
def tU(x:cb):Value:=.agg #[.string x.1,x.k,x.f]
def back(zs:List cb)(k:Nat):List (Nat×cb):=(List.range k).map fun j=>(zs.length-1-j,zs[zs.length-1-j]?.getD default)
def mP(zs:List cb)(k:Nat):back zs (k+1)=back zs k++[(zs.length-1-k,zs[zs.length-1-k]?.getD default)]:=by simp[back,List.range_succ]
def pd(zs:List cb)(k:Nat):(back zs k).length=k:=by simp[back]
def kI(W:World)(b off:Nat)(zs:List cb):Prop:=∀j,j<zs.length->W.cell? ⟨b,off+j*3,none⟩=some (.string (zs[j]?.getD default).1)/\W.cell? ⟨b,off+j*3+1,none⟩=some (zs[j]?.getD default).k/\W.cell? ⟨b,off+j*3+2,none⟩=some (zs[j]?.getD default).f
def kI.below{n₀:Nat}{A B:World}(h:Below n₀ A B){b off:Nat}(hb:b<n₀){zs:List cb}(c:kI A b off zs):kI B b off zs:=fun j hj=>by
 obtain⟨h1,h2,h3⟩:=c j hj;exact⟨(h.cell (p:=⟨b,_,none⟩) hb).trans h1,(h.cell (p:=⟨b,_,none⟩) hb).trans h2,(h.cell (p:=⟨b,_,none⟩) hb).trans h3⟩
set_option maxRecDepth 100000 in
set_option maxHeartbeats 2000000 in
def zP(F:Fence)(n:Nat)(h7:F.fn 252)(hro:F.round=none)(hn:1<=n)(l Bs n₀ b off cap:Nat)(zs:List cb)(hreach:zs.length<=1000000000)(hb:b<n₀)(hBn:Bs<n₀)(J Jx:List (Nat×cb)->World->Prop)
  (hY:∀pre x W,J pre W->pre.length<zs.length->YieldAt F (n-1) Tryz.prog l #[.int .i64 (x.1:Int),tU x.2] W fun e W'=>
   (e= .returned (.bool true)/\J (pre++[x]) W'/\Below n₀ W W')\/(e= .returned (.bool false)/\Jx (pre++[x]) W'))
  (W:World) (hBs:W.cell? ⟨Bs,0,none⟩=some (.slice (some ⟨b,off,none⟩) zs.length cap)) (hc:kI W b off zs) (h0:J [] W):
  CallsIn F n Tryz.prog 252 #[.func (.yield l) #[] #[],.pointer (some ⟨Bs,0,none⟩)] W fun e W'=>(∃v,e= .returned v)/\
   ((∃ys,ys=back zs zs.length/\J ys W')\/(∃pre,(∃k,k<=zs.length/\pre=back zs k)/\Jx pre W')):=by
 refine callsIn_of_wp Tryz.func252 rfl h7 ?_ hro;simp only[Tryz.ntmps252,E3,D4,D3,Nat.reduceAdd,Nat.reduceSub,FG,FH,FT,FI,Ez,Eg]
 gi_wp2
 gi_loopw [3] (fun i wr=>∃k:Nat,k<=zs.length/\i= .int .i64 ((zs.length:Int)-1-k)/\J (back zs k) wr/\Below n₀ W wr)
  (fun i _=>(intOf i+1).toNat)
 case atStart=>exact⟨0,Ef _,by simp,h0,Below.refl _ _⟩
 case round=>
  obtain⟨k,hk,rfl,hJs,hnx⟩:=hrel;have hbs:wr.cell? ⟨Bs,0,none⟩=some (.slice (some ⟨b,off,none⟩) zs.length cap):=(hnx.cell (p:=⟨Bs,0,none⟩) hBn).trans hBs;by_cases hlt:k<zs.length
  ·obtain⟨fn,tmps,assign,body,hy,hR⟩:=hY _ (zs.length-1-k,zs[zs.length-1-k]?.getD default) wr hJs (by rw[pd];exact hlt);dsimp only at hy;obtain⟨m,hm⟩:∃m:Nat,(zs.length:Int)-1-k=m:=⟨zs.length-1-k,by omega⟩;have hm':zs.length-1-k=m:=by omega
   rw[hm']at hy hR;rw[hm];obtain⟨c1,c2,c3⟩:=(hc.below hnx hb) m (by omega);generalize hz:zs[m]?.getD default=z at hy hR c1 c2 c3;obtain⟨z1,z2,z3,z4,z5⟩:=z;have hml:m<zs.length:=by omega
   simp only[tU,cb.k,cb.f]at hy c2 c3
   gi_wp2
   refine hR.mono ?_;rintro e W3 (⟨rfl,hJ3,hk3⟩|⟨rfl,hJx3⟩)
   ·gi_wp2
    go_roundw
    case rel=>exact⟨k+1,by omega,by congr 1;omega,by rw[mP,hm',hz];exact hJ3,hnx.trans hk3⟩
    case measure=>simp[intOf]<;>omega
   ·gi_wp2
    refine bodyPost_ret (results_none rfl _ _ _) rfl ?_;exact⟨⟨_,rfl⟩,.inr ⟨_,⟨k+1,by omega,by rw[mP,hm',hz]⟩,hJx3⟩⟩
  ·obtain rfl:k=zs.length:=by omega
   gi_wp2
   go_end0
   exact⟨⟨_,rfl⟩,.inl ⟨_,rfl,hJs⟩⟩
set_option maxRecDepth 100000 in
set_option maxHeartbeats 1000000 in
def ry(F:Fence)(n:Nat)(h7:F.fn 252)(hro:F.round=none)(l Bs:Nat)(p:Option Addr)(cap:Nat)(J:List (Nat×cb)->World->Prop)(W:World)(hBs:W.cell? ⟨Bs,0,none⟩=some (.slice p 0 cap))(h0:J [] W):
  CallsIn F n Tryz.prog 252 #[.func (.yield l) #[] #[],.pointer (some ⟨Bs,0,none⟩)] W fun e W'=>(∃v,e= .returned v)/\J [] W':=by
 refine callsIn_of_wp Tryz.func252 rfl h7 ?_ hro;simp only[Tryz.ntmps252,E3,D4,D3,Nat.reduceAdd,Nat.reduceSub,FG,FH,FT,FI,Ez,Eg]
 gi_wp2
 gi_loopw [3] (fun i wr=>i= .int .i64 (-1)/\J [] wr) (fun _ _=>0)
 case atStart=>exact⟨rfl,h0⟩
 case round=>
  obtain⟨rfl,hJs⟩:=hrel
  gi_wp2
  go_end0
  exact⟨⟨_,rfl⟩,hJs⟩
set_option maxHeartbeats 1000000 in
def BZ(F:Fence)(n:Nat)(h5:F.fn 228)(hro:F.round=none)(a:Option Addr)(len cap:Nat)(w:World):
  CallsIn F n Tryz.prog 228 #[.slice a len cap] w fun e w'=>e= .returned (.func (.func 252) #[] #[.pointer (some ⟨w.heap.size,0,none⟩)])/\w'=w.alloc (.cells #[.slice a len cap] 25):=by
 refine callsIn_of_wp Tryz.func228 rfl h5 ?_ hro;simp only[Tryz.ntmps228,E3,D4,D3,Nat.reduceAdd,Nat.reduceSub,FG,FH,FT,FI,Ez,Eg]
 gi_wp2
 go_ret
 exact⟨rfl,rfl⟩
def iF(n₀:Nat)(W:World)(sv:Value)(zs:List cb):Prop:=
 (zs=[]/\∃p cap,sv= .slice p 0 cap)\/∃b off cap,sv= .slice (some ⟨b,off,none⟩) zs.length cap/\b<n₀/\kI W b off zs
theorem iF.below{n₀:Nat}{A B:World}(h:Below n₀ A B){sv:Value}{zs:List cb}:iF n₀ A sv zs->iF n₀ B sv zs
 |.inl e=>.inl e
 |.inr ⟨b,off,cap,e,hb,hc⟩=>.inr ⟨b,off,cap,e,hb,hc.below h hb⟩
theorem iF.mono{n n':Nat}(h:n<=n'){W:World}{sv:Value}{zs:List cb}:iF n W sv zs->iF n' W sv zs
 |.inl e=>.inl e
 |.inr ⟨b,off,cap,e,hb,hc⟩=>.inr ⟨b,off,cap,e,Ec hb h,hc⟩
def vL(F:Fence)(n:Nat)(h8:F.fn 252)(hro:F.round=none)(hn:1<=n)(Bs:Nat)(sv:Value)(zs:List cb)(hreach:zs.length<=1000000000)(w:World)(hBs:Bs<w.heap.size)(hc:w.cell? ⟨Bs,0,none⟩=some sv)(hI:iF w.heap.size w sv zs):
  SeqStopsK F n Tryz.prog 252 #[.pointer (some ⟨Bs,0,none⟩)] (fun x:Nat×cb=>#[Value.int .i64 (x.1:Int),tU x.2]) (Below w.heap.size) (fun ys=>ys=back zs zs.length)
   (fun pre=>∃k,k<=zs.length/\pre=back zs k) zs.length w:=fun l J Jx W hW _ _ hY h0=>by
 have hc':=(hW.cell (p:=⟨Bs,0,none⟩) hBs).trans hc;rcases hI.below hW with⟨rfl,p,cap,rfl⟩|⟨b,off,cap,rfl,hb,hcs⟩
 ·exact (ry F n h8 hro l Bs p cap J W hc' h0).mono fun e W' ⟨he,hj⟩=>⟨he,.inl ⟨_,rfl,hj⟩⟩
 ·exact zP F n h8 hro hn l Bs w.heap.size b off cap zs hreach hb hBs J Jx hY W hc' hcs h0
def jJ(zs:List cb)(x:ByteArray):Option cb:=zs.reverse.find? fun z=>decide (z.1=x)
def ol(zs:List cb)(x:ByteArray)(z0 z1:Value):Value:=match jJ zs x with
 |some z=>.tuple #[.agg #[z.k,z.f],.bool true]
 |none=>.tuple #[.agg #[z0,z1],.bool false]
def pe(zs:List cb){k:Nat}(hk:k<=zs.length):(back zs k).map (·.2)=zs.reverse.take k:=by
 apply FU
 ·simp[back,hk]
 ·intro i h1 h2;have hi:i<k:=by simpa [back]using h1
  have h3:zs.length-1-i<zs.length:=by omega
  simp[back,h3]
def pU{zs:List cb}{x:ByteArray}(h:∀p∈back zs zs.length,p.2.1≠x):jJ zs x=none:=by
 unfold jJ;rw[Gi];intro z hz;have hm:=pe zs (DD _);rw[EZ (by simp)]at hm;rw[<- hm]at hz;obtain⟨p,hp,rfl⟩:=Ey.1 hz;simpa using h p hp
def pW{zs:List cb}{x:ByteArray}{k:Nat}(hk:k<=zs.length){ini:List (Nat×cb)}{last:Nat×cb}(e1:back zs k=ini++[last])(e2:∀p∈ini,p.2.1≠x)(e3:last.2.1=x):jJ zs x=some last.2:=by
 have hm:=pe zs hk;rw[e1,GD]at hm;unfold jJ;rw[<- Fc k zs.reverse,<- hm,EP,List.find?_append];have h1:(ini.map (·.2)).find? (fun z=>decide (z.1=x))=none:=by
  rw[Gi];intro z hz;obtain⟨p,hp,rfl⟩:=Ey.1 hz;simpa using e2 p hp
 rw[h1];simp[e3]
def bC(W:World)(B:Nat)(t:TypeId)(cs:Array Value):Prop:=W.heap[B]? = some (.cells cs t (0,0))
def bC.lt{W:World}{B:Nat}{t:TypeId}{cs:Array Value}(h:bC W B t cs):B<W.heap.size:=(Ea.1 h).1
def bC.cell{W:World}{B:Nat}{t:TypeId}{cs:Array Value}(h:bC W B t cs)(o:Nat):W.cell? ⟨B,o,none⟩=cs[o]?:=by simp[World.cell?,show W.heap[B]? = _ from h]
def bC.frozen{W:World}{B:Nat}{t:TypeId}{cs:Array Value}(h:bC W B t cs)(o:Nat):W.frozen? ⟨B,o,none⟩=false:=by simp[World.frozen?,show W.heap[B]? = _ from h]
def bC.new(W:World)(t:TypeId)(cs:Array Value):bC (W.alloc (.cells cs t)) W.heap.size t cs:=World.alloc_heap_new W _
def bC.kept{W W':World}{row:Option Nat}{B:Nat}{t:TypeId}{cs:Array Value}(h:bC W B t cs)(hg:W.grownBy W' row)(hne:some B≠row):bC W' B t cs:=(hg.block B h.lt hne).trans h
def bC.alloc{W:World}{B:Nat}{t:TypeId}{cs:Array Value}(h:bC W B t cs)(o:Obj):bC (W.alloc o) B t cs:=h.kept (World.grownBy_alloc W o none) (by simp)
def bC.put{W:World}{B:Nat}{t:TypeId}{cs:Array Value}(h:bC W B t cs){l:Nat}{o:Obj}(o':Obj)(hl:W.heap[l]? = some o)(ho:o.isCells=false):bC (W.putObj l o') B t cs:=
 h.kept (grownBy_putObj' W l o') (fun e=>by cases e;rw[show W.heap[B]? = _ from h]at hl;cases hl;cases ho)
def mB(W:World)(b o:Nat)(v:Value):W.grownBy (W.setCell ⟨b,o,none⟩ v) (some b):=
 ⟨rfl,rfl,rfl,(KeepsWalks.setCell W _ v).size,fun k _ hk=>Below.heap_setCell _ _ _ k (fun e=>hk (by rw[e]))⟩
def bC.other{W:World}{B B' o:Nat}{t:TypeId}{cs:Array Value}(h:bC W B t cs)(hne:B≠B')(u:Value):bC (W.setCell ⟨B',o,none⟩ u) B t cs:=h.kept (mB W B' o u) (fun e=>hne (by cases e;rfl))
def bC.set{W:World}{B:Nat}{t:TypeId}{cs:Array Value}(h:bC W B t cs)(o:Nat)(v:Value):bC (W.setCell ⟨B,o,none⟩ v) B t (cs.setIfInBounds o v):=by
 obtain⟨hlt,hk⟩:=Ea.1 h;show (W.heap.modify B _)[B]? = _;rw[D6 (by rw[Array.size_modify];exact hlt),Array.getElem_modify_self,hk];rfl
def uK{x y:ByteArray}(h:(x.toList== y.toList)=true):x=y:=by
 have:=EU.1 h
 rw[ByteArray.toList_eq,ByteArray.toList_eq]at this;exact ByteArray.ext (E8 this)
def uL{x y:ByteArray}(h:(x.toList== y.toList)=false):x≠y:=by
 rintro rfl;simp at h
def ec{β:Type}(B:Nat)(t:TypeId)(f:β->Array Value):Own (fun s W=>bC W B t (f s)):=fun s X Y row hs hg hrow=>
 hs.kept hg (fun e'=>by obtain⟨o,ho,hc⟩:=hrow B e'.symm;rw[show X.heap[B]? = _ from hs]at ho;cases ho;cases hc)
set_option maxRecDepth 100000 in
set_option maxHeartbeats 4000000 in
def xC(F:Fence)(n:Nat)(h3:F.fn 181)(h5:F.fn 228)(h7:F.fn 252)(hro:F.round=none)(hn:3<=n)(a:Option Addr)(len cap:Nat)(x:ByteArray)(zs:List cb)(hreach:zs.length<=1000000000)(w:World)(hI:iF w.heap.size w (.slice a len cap) zs):
  CallsIn F n Tryz.prog 181 #[.slice a len cap,.string x] w fun e W'=>e= .returned (ol zs x (.int .i64 0) (.slice none 0 0))/\Below w.heap.size w W':=by
 have h1:1<=n:=by omega
 refine callsIn_of_wp_marks Tryz.func181 rfl h3 ?_ hro;simp only[Tryz.ntmps181,E3,D4,D3,Nat.reduceAdd,Nat.reduceSub,FG,FH,FT,FI,Ez,Eg]
 gi_wp2_with (gi_at_call 228;refine (BZ F (n-1) h5 hro _ _ _ _).mono ?_;rintro e w' ⟨rfl,rfl⟩)
 have b0:=(((bC.new w 9 #[.string x]).alloc (.cells #[.int .i64 0,.slice none 0 0] 27)).alloc (.cells #[.bool false] 4)).alloc (.cells #[.slice a len cap] 25);have b1:=((bC.new (w.alloc (.cells #[.string x] 9)) 27 #[.int .i64 0,.slice none 0 0]).alloc (.cells #[.bool false] 4)).alloc (.cells #[.slice a len cap] 25);have b2:=(bC.new ((w.alloc (.cells #[.string x] 9)).alloc (.cells #[.int .i64 0,.slice none 0 0] 27)) 4 #[.bool false]).alloc (.cells #[.slice a len cap] 25);have b3:=bC.new (((w.alloc (.cells #[.string x] 9)).alloc (.cells #[.int .i64 0,.slice none 0 0] 27)).alloc (.cells #[.bool false] 4)) 25 #[.slice a len cap];simp only[World.size_alloc]at b1 b2 b3;have hB0:Below w.heap.size w ((((w.alloc (.cells #[.string x] 9)).alloc (.cells #[.int .i64 0,.slice none 0 0] 27)).alloc (.cells #[.bool false] 4)).alloc (.cells #[.slice a len cap] 25)):=
  ((((Below.refl _ w).alloc (DD _) _).alloc (by simp) _).alloc (by simp;omega) _).alloc (by simp;omega) _
 have hsz:((((w.alloc (.cells #[.string x] 9)).alloc (.cells #[.int .i64 0,.slice none 0 0] 27)).alloc (.cells #[.bool false] 4)).alloc (.cells #[.slice a len cap] 25)).heap.size=w.heap.size+4:=by simp
 obtain⟨W0,hW0⟩:∃W0,((((w.alloc (.cells #[.string x] 9)).alloc (.cells #[.int .i64 0,.slice none 0 0] 27)).alloc (.cells #[.bool false] 4)).alloc (.cells #[.slice a len cap] 25))=W0:=⟨_,rfl⟩;rw[hW0]at b0 b1 b2 b3 hB0 hsz |-;clear hW0;refine wpIn_rangeFunc_ownH hro h1 (gf:=252) (lb:=#[.pointer (some ⟨w.heap.size+1+1+1,0,none⟩)]) rfl h7 (enters_of Tryz.func252 (by kernel_rfl) rfl)
  (vL F (n-1) h7 hro (by omega) (w.heap.size+1+1+1) _ zs hreach W0 (by omega) (b3.cell 0) ((hI.below hB0).mono (by omega))) belowK_t (belowK_b (DD _)) (Below.refl _ _) (fun _=>rfl)
  (fun pre W=>(∀p∈pre,p.2.1≠x)/\(bC W w.heap.size 9 #[.string x]/\bC W (w.heap.size+1) 27 #[.int .i64 0,.slice none 0 0]/\bC W (w.heap.size+1+1) 4 #[.bool false]/\bC W (w.heap.size+1+1+1) 25 #[.slice a len cap])/\Below w.heap.size w W)
  (fun c pre W=>(c= .ret/\∃ini last,pre=ini++[last]/\(∀p∈ini,p.2.1≠x)/\last.2.1=x/\bC W (w.heap.size+1) 27 #[last.2.k,last.2.f]/\bC W (w.heap.size+1+1) 4 #[.bool true])/\Below w.heap.size w W)
  ?hI ?hIx ⟨fun _ h=>(by cases h),⟨b0,b1,b2,b3⟩,hB0⟩
  (fun y a' W=>∃Bx,bC W Bx 76 #[.string y.2.1,y.2.k,y.2.f]/\a'= { tmps:=#[.slice a len cap,.string x,undef,.pointer (some ⟨w.heap.size,0,none⟩),.pointer (some ⟨w.heap.size+1,0,none⟩),.pointer (some ⟨w.heap.size+1+1,0,none⟩),undef,.pointer (some ⟨Bx,0,none⟩),.slice a len cap,.func (.func 252) #[] #[.pointer (some ⟨w.heap.size+1+1+1,0,none⟩)],.int .i64 (y.1:Int),tU y.2,undef,undef,undef,undef,undef,undef,undef],defers:=[] })
  (fun y a' _ X Y row hs hg hr=>by obtain⟨Bx,h2,h3⟩:=hs;exact⟨Bx,ec Bx 76 (fun(_:Unit)=>#[Value.string y.2.1,y.2.k,y.2.f]) () X Y row h2 hg (fun r e=>(hr r e).2),h3⟩)
  ?assign ?body ?done ?stop
 case hI=>exact OwnFrom.and (ownFrom_pure _ _) (OwnFrom.and (OwnFrom.and (Own.from (ec _ _ _) _) (OwnFrom.and (Own.from (ec _ _ _) _) (OwnFrom.and (Own.from (ec _ _ _) _) (Own.from (ec _ _ _) _)))) (ownFrom_below (DD _) (by omega)))
 case hIx=>
  intro c;refine OwnFrom.and (Own.from (fun s A B row hs hg hr=>?_) _) (ownFrom_below (DD _) (by omega));obtain⟨hc,ini,last,e1,e2,e3,e4,e5⟩:=hs;exact⟨hc,ini,last,e1,e2,e3,ec _ _ (fun(_:Unit)=>#[last.2.k,last.2.f]) () A B row e4 hg hr,ec _ _ (fun(_:Unit)=>#[Value.bool true]) () A B row e5 hg hr⟩
 case assign=>
  rintro l pre y W K ⟨hp,⟨r0,r1,r2,r3⟩,hB⟩ hK;obtain⟨yi,y1,y2,y3,y4,y5⟩:=y;simp only[tU,cb.k,cb.f]at hK |-
  gi_wp2
  exact hK _ _ ((KeepsOthers.alloc _ _).from _) ((Below.refl _ W).alloc (by have:=r3.lt;omega) _) ⟨hp,⟨r0.alloc _,r1.alloc _,r2.alloc _,r3.alloc _⟩,hB.alloc hB.size _⟩ ⟨W.heap.size,bC.new W _ _,rfl⟩
 case body=>
  rintro l pre y a' W hl ⟨r,hr⟩ ⟨hp,⟨r0,r1,r2,r3⟩,hB⟩ ⟨Bx,rx,rfl⟩ hlt;obtain⟨yi,y1,y2,y3,y4,y5⟩:=y;simp only[tU,cb.k,cb.f]at rx |-;have c0:=r0.cell 0;have tb:=rx.cell 0;have cx1:=rx.cell 1;have cx2:=rx.cell 2;have f10:=r1.frozen 0;have f11:=r1.frozen 1;have f20:=r2.frozen 0;have c10:=r1.cell 0;have c11:=r1.cell 1;have c20:=r2.cell 0;simp at c0 tb cx1 cx2 c10 c11 c20
  gi_wp2
  ·have hx:y1=x:=uK (by assumption);have r1':=((r1.set 0 (.int .i64 y2)).set 1 (.slice y3 y4 y5)).other (B':=w.heap.size+1+1) (o:=0) (by omega) (.bool true);have r2':=((r2.other (B':=w.heap.size+1) (o:=0) (by omega) (.int .i64 y2)).other (B':=w.heap.size+1) (o:=1) (by omega) (.slice y3 y4 y5)).set 0 (.bool true);exact⟨(((KeepsOthers.setCell _ _ _).trans (KeepsOthers.setCell _ _ _)).trans (KeepsOthers.setCell _ _ _)).from _,⟨rfl,pre,(yi,y1,y2,y3,y4,y5),rfl,hp,hx,r1',r2'⟩,
    ((hB.setCell (p:=⟨w.heap.size+1,0,none⟩) (by simp) _).setCell (p:=⟨w.heap.size+1,1,none⟩) (by simp) _).setCell (p:=⟨w.heap.size+1+1,0,none⟩) (by simp;omega) _⟩
  ·have hx:y1≠x:=uL (by assumption);exact⟨KeepsFrom.refl _ _,Below.refl _ _,fun p hp'=>(Ed.1 hp').elim (hp p) (fun e=>by simp at e;subst e;exact hx),⟨r0,r1,r2,r3⟩,hB⟩
 case done=>
  rintro D ys W hD rfl ⟨hne,⟨r0,r1,r2,r3⟩,hB⟩ hK;have f10:=r1.frozen 0;have f11:=r1.frozen 1;have f20:=r2.frozen 0;have c10:=r1.cell 0;have c11:=r1.cell 1;have c20:=r2.cell 0;simp at c10 c11 c20
  gi_wp2
  have r1':=((r1.set 0 (.int .i64 0)).set 1 (.slice none 0 0)).other (B':=w.heap.size+1+1) (o:=0) (by omega) (.bool false);have r2':=((r2.other (B':=w.heap.size+1) (o:=0) (by omega) (.int .i64 0)).other (B':=w.heap.size+1) (o:=1) (by omega) (.slice none 0 0)).set 0 (.bool false);have hB':=((hB.setCell (p:=⟨w.heap.size+1,0,none⟩) (by simp) (.int .i64 0)).setCell (p:=⟨w.heap.size+1,1,none⟩) (by simp) (.slice none 0 0)).setCell (p:=⟨w.heap.size+1+1,0,none⟩) (by simp;omega) (.bool false);have hK':=(((KeepsOthers.setCell W ⟨w.heap.size+1,0,none⟩ (.int .i64 0)).trans (KeepsOthers.setCell _ ⟨w.heap.size+1,1,none⟩ (.slice none 0 0))).trans (KeepsOthers.setCell _ ⟨w.heap.size+1+1,0,none⟩ (.bool false))).same D _ hK rfl;refine⟨by simp,.inl ⟨_,_,rfl,run_takeDeferred hK',?_⟩⟩;have q10:=(r1'.put (.deferred none) hK' rfl).cell 0;have q11:=(r1'.put (.deferred none) hK' rfl).cell 1;have q20:=(r2'.put (.deferred none) hK' rfl).cell 0;simp at q10 q11 q20;refine⟨.tuple #[.agg #[.int .i64 0,.slice none 0 0],.bool false],?_,?_,hB'.trans (belowK_b (w:=w) (DD _) _ D _ _ (by omega) hK' rfl rfl)⟩
  rotate_left
  ·unfold ol;rw[pU hne]
  ·simp[results,Tryz.f181,go_sem,q10,q11,q20]
 case stop=>
  rintro D c pre W hD ⟨k,hk,rfl⟩ ⟨⟨rfl,ini,last,e1,e2,e3,r1,r2⟩,hB⟩ hK
  gi_wp2
  refine⟨by simp,.inl ⟨_,_,rfl,run_takeDeferred hK,?_⟩⟩;have q10:=(r1.put (.deferred none) hK rfl).cell 0;have q11:=(r1.put (.deferred none) hK rfl).cell 1;have q20:=(r2.put (.deferred none) hK rfl).cell 0;simp at q10 q11 q20;refine⟨.tuple #[.agg #[last.2.k,last.2.f],.bool true],?_,?_,hB.trans (belowK_b (w:=w) (DD _) W D _ _ (by omega) hK rfl rfl)⟩
  rotate_left
  ·unfold ol;rw[pW hk e1 e2 e3]
  ·simp[results,Tryz.f181,go_sem,q10,q11,q20]
end Go.Proofs.YteemeakjlfnapaaGreatDoor
namespace Go.Proofs.YteemeakjlfnapaaGreatDoor
open Go Go.Av Go.RowKit
set_option maxRecDepth 100000
def AX(S:ap)(β:List a8)(y:List UInt8×Int×List AV)(z:cb):Prop:=z.1.data.toList=y.1/\z.2.1=y.2.1/\VR S β (.sl y.2.2) z.f
def gy(S:ap)(β:List a8):List (List UInt8×Int×List AV)->List cb->Prop
 |[],zs=>zs=[]
 |y:: l,zs=>∃z r,zs=z:: r/\AX S β y z/\gy S β l r
theorem gy.length{S:ap}{β:List a8}:{l:List (List UInt8×Int×List AV)} ->{zs:List cb} ->gy S β l zs->zs.length=l.length
 |[],_,h=>by simp only[gy]at h;simp[h]
 |y:: l,zs,h=>by
  simp only[gy]at h;obtain⟨z,r,rfl,_,h⟩:=h;simp[gy.length h]
def tn{e:AV}{y:List UInt8×Int×List AV}(h:sk e=some y):e= .agg [.str y.1,.int .i64 y.2.1,.sl y.2.2]:=by
 unfold sk at h;split at h
 ·cases h;rfl
 ·cases h
theorem BF{S:ap}{β:List a8}{b sz:Nat}:(es:List AV)->(off:Nat)->(l:List (List UInt8×Int×List AV))->bc S β es b off sz->eZ es=some l->
  ∃zs:List cb,gy S β l zs/\∀j,j<zs.length->S b (off+j*3)=some (.string (zs[j]?.getD default).1)/\S b (off+j*3+1)=some (zs[j]?.getD default).k/\S b (off+j*3+2)=some (zs[j]?.getD default).f
 |[],off,l,_,h=>by
  simp only[eZ,Dw]at h;subst h;exact⟨[],rfl,fun j hj=>by simp at hj⟩
 | e :: es,off,l,he,h=>by
  simp only[eZ]at h;cases h1:sk e with
  |none=>rw[h1]at h;cases h
  | some y=>
   cases h2:eZ es with
   |none=>rw[h1,h2]at h;cases h
   | some l'=>
    rw[h1,h2]at h;simp only[Dw]at h;subst h;simp only[bc]at he;obtain⟨⟨v,hv,hs,hc⟩,he⟩:=he
    have:=tn h1
    subst this;simp only[VR,aG]at hv;obtain⟨vs,rfl,_,_,rfl,⟨x,rfl,hx⟩,_,_,rfl,rfl,v3,_,rfl,hv3,rfl⟩:=hv;obtain⟨p,cap,hp,hq1,hq2,hq3⟩:=hv3;subst hp;have hsz:sz=3:=by rw[<- hs];rfl
    subst hsz;obtain⟨zs,hR,hZ⟩:=BF es (off+3) l' he h2;have c0:=hc 0 _ rfl;have c1:=hc 1 _ rfl;have c2:=hc 2 _ rfl;refine⟨(x,y.2.1,(p,y.2.2.length,cap)):: zs,⟨_,_,rfl,⟨hx,rfl,by simp only[cb.f,VR];exact⟨p,cap,rfl,hq1,hq2,hq3⟩⟩,hR⟩,fun j hj=>?_⟩;cases j with
    |zero=>exact⟨by simpa using c0,by simpa [cb.k]using c1,by simpa [cb.f]using c2⟩
    |succ j=>
     have:=hZ j (by simpa using hj)
     rw[show off+3+j*3=off+(j+1)*3 by omega]at this;simpa using this
theorem iV{S:ap}{β:List a8}{x:ByteArray}{name:List UInt8}(hx:x.data.toList=name):{l:List (List UInt8×Int×List AV)} ->{zs:List cb} ->gy S β l zs->
  (gn (fun z=>z.1== name) l=none/\gn (fun z:cb=>decide (z.1=x)) zs=none)\/∃y z,gn (fun z=>z.1== name) l=some y/\gn (fun z:cb=>decide (z.1=x)) zs=some z/\AX S β y z
 |[],zs,h=>by simp only[gy]at h;subst h;exact .inl ⟨rfl,rfl⟩
 | y :: l,zs,h=>by
  simp only[gy]at h;obtain⟨z,r,rfl,hz,h⟩:=h;rcases iV hx h with⟨h1,h2⟩|⟨y',z',h1,h2,h3⟩
  ·have he:(y.1== name)=decide (z.1=x):=by
    rw[<- hz.1,<- hx];by_cases h:z.1=x
    ·subst h;simp
    ·have h':z.1.data.toList≠x.data.toList:=fun h'=>h (ByteArray.ext (E8 h'));rw[GF h];exact EX.2 h'
   simp only[gn,h1,h2,he];cases decide (z.1=x)with
   |true=>exact .inr ⟨y,z,rfl,rfl,hz⟩
   |false=>exact .inl ⟨rfl,rfl⟩
  ·simp only[gn,h1,h2];exact .inr ⟨_,_,rfl,rfl,h3⟩
def Aa(call:FuncId->List AV->M AV)(args:List AV)(h:Hp)(S:ap)(β:List a8)(w:World)(vs:List Value)(hr:kF call args h≠.fail)(hg:kJ β h w)(hw:Wf S w)(hh:bJ S β w h)(hv:aG S β args vs):
  Calls Tryz.prog 181 vs.toArray w (cF none S β h w (kF call args h)):=by
 unfold kF at hr |-;split at hr
 ·rename_i es name;cases hl:eZ es with
  |none=>rw[hl]at hr;exact absurd rfl hr
  | some l=>
   rw[hl]at hr;simp only at hr |-;cases hc:decide (l.length<=1000000000)with
   |false=>rw[hc]at hr;exact absurd rfl hr
   | true=>
    simp only[Dx];simp only[aG,VR]at hv;obtain⟨_,_,rfl,⟨a,cap,rfl,hle,hnil,hq⟩,_,_,rfl,⟨x,rfl,hx⟩,rfl⟩:=hv;have hlen:∀(es:List AV)(l:List (List UInt8×Int×List AV)),eZ es=some l->l.length=es.length:=by
     intro es
     induction es with
     |nil=>intro l h;simp only[eZ,Dw]at h;subst h;rfl
     | cons e es ih=>
      intro l h;simp only[eZ]at h;split at h
      ·rename_i h2;cases h;simp[ih _ h2]
      ·cases h
    have hll:=hlen es l hl;have hz:∃zs:List cb,gy S β l zs/\iF w.heap.size w (.slice a zs.length cap) zs:=by
     cases es with
     |nil=>
      simp only[eZ,Dw]at hl;subst hl;exact⟨[],rfl,.inl ⟨rfl,a,cap,rfl⟩⟩
     | cons e es=>
      cases a with
      |none=>have:=hnil rfl;subst this;simp at hle
      | some q=>
       obtain⟨hs,sz,hE⟩:=hq q rfl;have hcap:0<cap:=by simp at hle;omega
       obtain⟨b,off,sp⟩:=q;have hs':sp=none:=hs hcap;subst hs';obtain⟨zs,hR,hZ⟩:=BF (e:: es) off l hE hl;refine⟨zs,hR,.inr ⟨b,off,cap,rfl,?_,fun j hj=>?_⟩⟩
       ·have h0:=(hZ 0 (by rw[hR.length,hll];simp)).1;exact hw.lt h0
       ·obtain⟨h1,h2,h3⟩:=hZ j hj;exact⟨hw _ _ _ h1,hw _ _ _ h2,hw _ _ _ h3⟩
    obtain⟨zs,hR,hF⟩:=hz;have hzl:=hR.length;rw[show es.length=zs.length by omega];refine (callsIn_wide (n:=3)).1 ((xC Fence.wide 3 trivial trivial trivial rfl (by omega) a zs.length cap x zs (by have:=Fu hc;omega) w hF).mono ?_);rintro e w' ⟨rfl,hb⟩;refine bE hw hh hb lR ?_;unfold ol vQ jJ;rw[<- mC];rcases iV hx hR with⟨h1,h2⟩|⟨y,z,h1,h2,h3⟩
    ·rw[h1,h2];simp only[VR,aG];exact⟨_,rfl,_,_,rfl,⟨_,rfl,_,_,rfl,rfl,_,_,rfl,⟨none,0,rfl,DD _,fun _=>rfl,fun q hq=>by cases hq⟩,rfl⟩,_,_,rfl,rfl,rfl⟩
    ·rw[h1,h2];obtain⟨_,h4,h5⟩:=h3;simp only[VR,aG];exact⟨_,rfl,_,_,rfl,⟨_,rfl,_,_,rfl,by rw[<- h4];rfl,_,_,rfl,h5,rfl⟩,_,_,rfl,rfl,rfl⟩
 ·exact absurd rfl hr
end Go.Proofs.YteemeakjlfnapaaGreatDoor
namespace Go.Proofs.YteemeakjlfnapaaGreatDoor
open Go Go.Av
set_option maxRecDepth 100000
noncomputable def tb(n:Nat)(a:Ann):Cx:={ T:=T,call:=fun _ _=>M.fail,own:=own,iso:=fun _=>false,nw:=fun _=>false,nt:=n,ann:=a }
def mZ(n:Nat)(a:Ann):bI Tryz.prog (tb n a).own (tb n a).call:=fun f args h S β w vs hr=>absurd rfl hr
def sd(n:Nat)(a:Ann):IsoCall (tb n a):=⟨fun f args h=>Bool.noConfusion h,fun f args h=>Bool.noConfusion h⟩
def BC(e:AV)(es:List AV):bz (tb Tryz.f103.ntmps nQ) (bU 0) Tryz.f103 none [.sl (e:: es)]=af (appH T 54 true (.sl []) (.sl (e:: es))) fun v=>af (ah (some v)) M.pure:=by kernel_rfl
def BD:bz (tb Tryz.f103.ntmps nQ) (bU 0) Tryz.f103 none [.hn]=af (ah (some (.sl []))) M.pure:=by kernel_rfl
def BE(l off:Nat):bz (tb Tryz.f103.ntmps nQ) (bU 0) Tryz.f103 none [.hs l off 0 1 false]=af (appH T 54 true (.sl []) (.hs l off 0 1 false)) fun v=>af (ah (some v)) M.pure:=by kernel_rfl
def zW(call:FuncId->List AV->M AV)(args:List AV)(h:Hp)(S:ap)(β:List a8)(w:World)(vs:List Value)(hr:cv T 54 call args h≠.fail)(hg:kJ β h w)(hw:Wf S w)(hh:bJ S β w h)(hv:aG S β args vs):
  Calls Tryz.prog 103 vs.toArray w (cF none S β h w (cv T 54 call args h)):=by
 have key:∀es,args=[.sl es]->Calls Tryz.prog 103 vs.toArray w (cF none S β h w (cv T 54 call args h)):=by
  rintro es rfl;exact (jY (cx:=tb Tryz.f103.ntmps nQ) (E:=fun es h=>cv T 54 call [.sl es] h) tok (mZ _ _) (sd _ _) Tryz.func103 rfl (fun h=>by rfl) (fun e es h=>by rw[BC];exact congrFun (uH _) h) (fun h=>by rw[BD];rfl) (fun l off h=>by rw[BE];rfl) hr hg hw hh hv).1
 unfold cv at hr;split at hr
 ·exact key _ rfl
 ·exact absurd rfl hr
end Go.Proofs.YteemeakjlfnapaaGreatDoor
