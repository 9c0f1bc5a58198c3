/- What the functions compute, part 2. Conditions: bounds. -/
import Derived.Test.YtighgcgmocboaaaGreatDoorTa
import Derived.RangeFuncNested
import Derived.RangeFuncBound
import Derived.RangeFuncCalls
import Derived.RangeFuncLeaves
import Derived.RangeFuncBox
import Derived.Shelf.Abstract
import Derived.Shelf.RegionOpen
import Derived.OwnWalkIn
import Derived.TacticsInMore
import Derived.LoopNIn
import Derived.LoopIn
import Derived.Laws.BytesArg
import Derived.Laws.IdiomStrings
import Derived.Deep.LoopGhost
set_option linter.defProp false
set_option linter.unusedSimpArgs false
set_option linter.unusedVariables false
namespace Go.Proofs.YtighgcgmocboaaaGreatDoor
open Go Go.Av Go.RowKit Go.Shelf
attribute [local go_sem] Oper.semAt_some
abbrev dE:=ByteArray×Int×(Option Addr×Nat×Nat)
def dE.k(x:dE):Value:=.int .i64 x.2.1
def dE.f(x:dE):Value:=.slice x.2.2.1 x.2.2.2.1 x.2.2.2.2
def AZ(x:dE):Value:=.agg #[.string x.1,x.k,x.f]
def back(zs:List dE)(k:Nat):List (Nat×dE):=(List.range k).map fun j=>(zs.length-1-j,zs[zs.length-1-j]?.getD default)
def sx(zs:List dE)(k:Nat):back zs (k+1)=back zs k++[(zs.length-1-k,zs[zs.length-1-k]?.getD default)]:=by simp[back,List.range_succ]
def vd(zs:List dE)(k:Nat):(back zs k).length=k:=by simp[back]
def pL(W:World)(b off:Nat)(zs:List dE):Prop:=∀j,j<zs.length->W.cell? ⟨b,off+j*3,none⟩=some (.string (zs[j]?.getD default).1)/\W.cell? ⟨b,off+j*3+1,none⟩=some (zs[j]?.getD default).k/\W.cell? ⟨b,off+j*3+2,none⟩=some (zs[j]?.getD default).f
def pL.below{n₀:Nat}{A B:World}(h:Below n₀ A B){b off:Nat}(hb:b<n₀){zs:List dE}(c:pL A b off zs):pL B b off zs:=fun j hj=>by
 obtain⟨h1,h2,h3⟩:=c j hj;exact⟨(h.cell (p:=⟨b,_,none⟩) hb).trans h1,(h.cell (p:=⟨b,_,none⟩) hb).trans h2,(h.cell (p:=⟨b,_,none⟩) hb).trans h3⟩
set_option maxRecDepth 100000 in
set_option maxHeartbeats 2000000 in
def GL(F:Fence)(n:Nat)(h7:F.fn 172)(hro:F.round=none)(hn:1<=n)(l Bs n₀ b off cap:Nat)(zs:List dE)(hreach:zs.length<=1000000000)(hb:b<n₀)(hBn:Bs<n₀)(J Jx:List (Nat×dE)->World->Prop)
  (hY:∀pre x W,J pre W->pre.length<zs.length->YieldAt F (n-1) Tryz.prog l #[.int .i64 (x.1:Int),AZ x.2] W fun e W'=>
   (e= .returned (.bool true)/\J (pre++[x]) W'/\Below n₀ W W')\/(e= .returned (.bool false)/\Jx (pre++[x]) W'))
  (W:World) (hBs:W.cell? ⟨Bs,0,none⟩=some (.slice (some ⟨b,off,none⟩) zs.length cap)) (hc:pL W b off zs) (h0:J [] W):
  CallsIn F n Tryz.prog 172 #[.func (.yield l) #[] #[],.pointer (some ⟨Bs,0,none⟩)] W fun e W'=>(∃v,e= .returned v)/\
   ((∃ys,ys=back zs zs.length/\J ys W')\/(∃pre,(∃k,k<=zs.length/\pre=back zs k)/\Jx pre W')):=by
 refine callsIn_of_wp Tryz.func172 rfl h7 ?_ hro;simp only[Tryz.ntmps172,OJ,Nr,Nu,Nat.reduceAdd,Nat.reduceSub,O7,O8,Pn,Pa,NF,NQ]
 gi_wp2
 gi_loopw [3] (fun i wr=>∃k:Nat,k<=zs.length/\i= .int .i64 ((zs.length:Int)-1-k)/\J (back zs k) wr/\Below n₀ W wr)
  (fun i _=>(intOf i+1).toNat)
 case atStart=>exact⟨0,Nz _,by simp,h0,Below.refl _ _⟩
 case round=>
  obtain⟨k,hk,rfl,hJs,hnx⟩:=hrel;have hbs:wr.cell? ⟨Bs,0,none⟩=some (.slice (some ⟨b,off,none⟩) zs.length cap):=(hnx.cell (p:=⟨Bs,0,none⟩) hBn).trans hBs;by_cases hlt:k<zs.length
  ·obtain⟨fn,tmps,assign,body,hy,hR⟩:=hY _ (zs.length-1-k,zs[zs.length-1-k]?.getD default) wr hJs (by rw[vd];exact hlt);dsimp only at hy;obtain⟨m,hm⟩:∃m:Nat,(zs.length:Int)-1-k=m:=⟨zs.length-1-k,by omega⟩;have hm':zs.length-1-k=m:=by omega
   rw[hm']at hy hR;rw[hm];obtain⟨c1,c2,c3⟩:=(hc.below hnx hb) m (by omega);generalize hz:zs[m]?.getD default=z at hy hR c1 c2 c3;obtain⟨z1,z2,z3,z4,z5⟩:=z;have hml:m<zs.length:=by omega
   simp only[AZ,dE.k,dE.f]at hy c2 c3
   gi_wp2
   refine hR.mono ?_;rintro e W3 (⟨rfl,hJ3,hk3⟩|⟨rfl,hJx3⟩)
   ·gi_wp2
    go_roundw
    case rel=>exact⟨k+1,by omega,by congr 1;omega,by rw[sx,hm',hz];exact hJ3,hnx.trans hk3⟩
    case measure=>simp[intOf]<;>omega
   ·gi_wp2
    refine bodyPost_ret (results_none rfl _ _ _) rfl ?_;exact⟨⟨_,rfl⟩,.inr ⟨_,⟨k+1,by omega,by rw[sx,hm',hz]⟩,hJx3⟩⟩
  ·obtain rfl:k=zs.length:=by omega
   gi_wp2
   go_end0
   exact⟨⟨_,rfl⟩,.inl ⟨_,rfl,hJs⟩⟩
set_option maxRecDepth 100000 in
set_option maxHeartbeats 1000000 in
def xZ(F:Fence)(n:Nat)(h7:F.fn 172)(hro:F.round=none)(l Bs:Nat)(p:Option Addr)(cap:Nat)(J:List (Nat×dE)->World->Prop)(W:World)(hBs:W.cell? ⟨Bs,0,none⟩=some (.slice p 0 cap))(h0:J [] W):
  CallsIn F n Tryz.prog 172 #[.func (.yield l) #[] #[],.pointer (some ⟨Bs,0,none⟩)] W fun e W'=>(∃v,e= .returned v)/\J [] W':=by
 refine callsIn_of_wp Tryz.func172 rfl h7 ?_ hro;simp only[Tryz.ntmps172,OJ,Nr,Nu,Nat.reduceAdd,Nat.reduceSub,O7,O8,Pn,Pa,NF,NQ]
 gi_wp2
 gi_loopw [3] (fun i wr=>i= .int .i64 (-1)/\J [] wr) (fun _ _=>0)
 case atStart=>exact⟨rfl,h0⟩
 case round=>
  obtain⟨rfl,hJs⟩:=hrel
  gi_wp2
  go_end0
  exact⟨⟨_,rfl⟩,hJs⟩
set_option maxHeartbeats 1000000 in
def Ko(F:Fence)(n:Nat)(h5:F.fn 155)(hro:F.round=none)(a:Option Addr)(len cap:Nat)(w:World):
  CallsIn F n Tryz.prog 155 #[.slice a len cap] w fun e w'=>e= .returned (.func (.func 172) #[] #[.pointer (some ⟨w.heap.size,0,none⟩)])/\w'=w.alloc (.cells #[.slice a len cap] 23):=by
 refine callsIn_of_wp Tryz.func155 rfl h5 ?_ hro;simp only[Tryz.ntmps155,OJ,Nr,Nu,Nat.reduceAdd,Nat.reduceSub,O7,O8,Pn,Pa,NF,NQ]
 gi_wp2
 go_ret
 exact⟨rfl,rfl⟩
def mR(n₀:Nat)(W:World)(sv:Value)(zs:List dE):Prop:=
 (zs=[]/\∃p cap,sv= .slice p 0 cap)\/∃b off cap,sv= .slice (some ⟨b,off,none⟩) zs.length cap/\b<n₀/\pL W b off zs
theorem mR.below{n₀:Nat}{A B:World}(h:Below n₀ A B){sv:Value}{zs:List dE}:mR n₀ A sv zs->mR n₀ B sv zs
 |.inl e=>.inl e
 |.inr ⟨b,off,cap,e,hb,hc⟩=>.inr ⟨b,off,cap,e,hb,hc.below h hb⟩
theorem mR.mono{n n':Nat}(h:n<=n'){W:World}{sv:Value}{zs:List dE}:mR n W sv zs->mR n' W sv zs
 |.inl e=>.inl e
 |.inr ⟨b,off,cap,e,hb,hc⟩=>.inr ⟨b,off,cap,e,Nat.lt_of_lt_of_le hb h,hc⟩
def Cm(F:Fence)(n:Nat)(h8:F.fn 172)(hro:F.round=none)(hn:1<=n)(Bs:Nat)(sv:Value)(zs:List dE)(hreach:zs.length<=1000000000)(w:World)(hBs:Bs<w.heap.size)(hc:w.cell? ⟨Bs,0,none⟩=some sv)(hI:mR w.heap.size w sv zs):
  SeqStopsK F n Tryz.prog 172 #[.pointer (some ⟨Bs,0,none⟩)] (fun x:Nat×dE=>#[Value.int .i64 (x.1:Int),AZ x.2]) (Below w.heap.size) (fun ys=>ys=back zs zs.length)
   (fun pre=>∃k,k<=zs.length/\pre=back zs k) zs.length w:=fun l J Jx W hW _ _ hY h0=>by
 have hc':=(hW.cell (p:=⟨Bs,0,none⟩) hBs).trans hc;rcases hI.below hW with⟨rfl,p,cap,rfl⟩|⟨b,off,cap,rfl,hb,hcs⟩
 ·exact (xZ F n h8 hro l Bs p cap J W hc' h0).mono fun e W' ⟨he,hj⟩=>⟨he,.inl ⟨_,rfl,hj⟩⟩
 ·exact GL F n h8 hro hn l Bs w.heap.size b off cap zs hreach hb hBs J Jx hY W hc' hcs h0
def ou(zs:List dE)(x:ByteArray):Option dE:=zs.reverse.find? fun z=>decide (z.1=x)
def uc(zs:List dE)(x:ByteArray)(z0 z1:Value):Value:=match ou zs x with
 |some z=>.tuple #[.agg #[z.k,z.f],.bool true]
 |none=>.tuple #[.agg #[z0,z1],.bool false]
def ve(zs:List dE){k:Nat}(hk:k<=zs.length):(back zs k).map (·.2)=zs.reverse.take k:=by
 apply Pr
 ·simp[back,hk]
 ·intro i h1 h2;have hi:i<k:=by simpa [back]using h1
  have h3:zs.length-1-i<zs.length:=by omega
  simp[back,h3]
def wk{zs:List dE}{x:ByteArray}(h:∀p∈back zs zs.length,p.2.1≠x):ou zs x=none:=by
 unfold ou;rw[List.find?_eq_none];intro z hz;have hm:=ve zs (M7 _);rw[Od (by simp)]at hm;rw[<- hm]at hz;obtain⟨p,hp,rfl⟩:=Ou.1 hz;simpa using h p hp
def wm{zs:List dE}{x:ByteArray}{k:Nat}(hk:k<=zs.length){ini:List (Nat×dE)}{last:Nat×dE}(e1:back zs k=ini++[last])(e2:∀p∈ini,p.2.1≠x)(e3:last.2.1=x):ou zs x=some last.2:=by
 have hm:=ve zs hk;rw[e1,PK]at hm;unfold ou;rw[<- List.take_append_drop k zs.reverse,<- hm,OA,List.find?_append];have h1:(ini.map (·.2)).find? (fun z=>decide (z.1=x))=none:=by
  rw[List.find?_eq_none];intro z hz;obtain⟨p,hp,rfl⟩:=Ou.1 hz;simpa using e2 p hp
 rw[h1];simp[e3]
def cP(W:World)(B:Nat)(t:TypeId)(cs:Array Value):Prop:=W.heap[B]? = some (.cells cs t (0,0))
def cP.lt{W:World}{B:Nat}{t:TypeId}{cs:Array Value}(h:cP W B t cs):B<W.heap.size:=(Ob.1 h).1
def cP.cell{W:World}{B:Nat}{t:TypeId}{cs:Array Value}(h:cP W B t cs)(o:Nat):W.cell? ⟨B,o,none⟩=cs[o]?:=by simp[World.cell?,show W.heap[B]? = _ from h]
def cP.frozen{W:World}{B:Nat}{t:TypeId}{cs:Array Value}(h:cP W B t cs)(o:Nat):W.frozen? ⟨B,o,none⟩=false:=by simp[World.frozen?,show W.heap[B]? = _ from h]
def cP.new(W:World)(t:TypeId)(cs:Array Value):cP (W.alloc (.cells cs t)) W.heap.size t cs:=World.alloc_heap_new W _
def cP.kept{W W':World}{row:Option Nat}{B:Nat}{t:TypeId}{cs:Array Value}(h:cP W B t cs)(hg:W.grownBy W' row)(hne:some B≠row):cP W' B t cs:=(hg.block B h.lt hne).trans h
def cP.alloc{W:World}{B:Nat}{t:TypeId}{cs:Array Value}(h:cP W B t cs)(o:Obj):cP (W.alloc o) B t cs:=h.kept (World.grownBy_alloc W o none) (by simp)
def cP.put{W:World}{B:Nat}{t:TypeId}{cs:Array Value}(h:cP W B t cs){l:Nat}{o:Obj}(o':Obj)(hl:W.heap[l]? = some o)(ho:o.isCells=false):cP (W.putObj l o') B t cs:=
 h.kept (grownBy_putObj' W l o') (fun e=>by cases e;rw[show W.heap[B]? = _ from h]at hl;cases hl;cases ho)
def rR(W:World)(b o:Nat)(v:Value):W.grownBy (W.setCell ⟨b,o,none⟩ v) (some b):=
 ⟨rfl,rfl,rfl,(KeepsWalks.setCell W _ v).size,fun k _ hk=>Below.heap_setCell _ _ _ k (fun e=>hk (by rw[e]))⟩
def cP.other{W:World}{B B' o:Nat}{t:TypeId}{cs:Array Value}(h:cP W B t cs)(hne:B≠B')(u:Value):cP (W.setCell ⟨B',o,none⟩ u) B t cs:=h.kept (rR W B' o u) (fun e=>hne (by cases e;rfl))
def cP.set{W:World}{B:Nat}{t:TypeId}{cs:Array Value}(h:cP W B t cs)(o:Nat)(v:Value):cP (W.setCell ⟨B,o,none⟩ v) B t (cs.setIfInBounds o v):=by
 obtain⟨hlt,hk⟩:=Ob.1 h;show (W.heap.modify B _)[B]? = _;rw[NY (by rw[Array.size_modify];exact hlt),Array.getElem_modify_self,hk];rfl
def Bu{x y:ByteArray}(h:(x.toList== y.toList)=true):x=y:=by
 have:=NW.1 h
 rw[ByteArray.toList_eq,ByteArray.toList_eq]at this;exact ByteArray.ext (Array.ext' this)
def Bv{x y:ByteArray}(h:(x.toList== y.toList)=false):x≠y:=by
 rintro rfl;simp at h
def gP{β:Type}(B:Nat)(t:TypeId)(f:β->Array Value):Own (fun s W=>cP W B t (f s)):=fun s X Y row hs hg hrow=>
 hs.kept hg (fun e'=>by obtain⟨o,ho,hc⟩:=hrow B e'.symm;rw[show X.heap[B]? = _ from hs]at ho;cases ho;cases hc)
set_option maxRecDepth 100000 in
set_option maxHeartbeats 4000000 in
def El(F:Fence)(n:Nat)(h3:F.fn 137)(h5:F.fn 155)(h7:F.fn 172)(hro:F.round=none)(hn:3<=n)(a:Option Addr)(len cap:Nat)(x:ByteArray)(zs:List dE)(hreach:zs.length<=1000000000)(w:World)(hI:mR w.heap.size w (.slice a len cap) zs):
  CallsIn F n Tryz.prog 137 #[.slice a len cap,.string x] w fun e W'=>e= .returned (uc zs x (.int .i64 0) (.slice none 0 0))/\Below w.heap.size w W':=by
 have h1:1<=n:=by omega
 refine callsIn_of_wp_marks Tryz.func137 rfl h3 ?_ hro;simp only[Tryz.ntmps137,OJ,Nr,Nu,Nat.reduceAdd,Nat.reduceSub,O7,O8,Pn,Pa,NF,NQ]
 gi_wp2_with (gi_at_call 155;refine (Ko F (n-1) h5 hro _ _ _ _).mono ?_;rintro e w' ⟨rfl,rfl⟩)
 have b0:=(((cP.new w 9 #[.string x]).alloc (.cells #[.int .i64 0,.slice none 0 0] 35)).alloc (.cells #[.bool false] 4)).alloc (.cells #[.slice a len cap] 23);have b1:=((cP.new (w.alloc (.cells #[.string x] 9)) 35 #[.int .i64 0,.slice none 0 0]).alloc (.cells #[.bool false] 4)).alloc (.cells #[.slice a len cap] 23);have b2:=(cP.new ((w.alloc (.cells #[.string x] 9)).alloc (.cells #[.int .i64 0,.slice none 0 0] 35)) 4 #[.bool false]).alloc (.cells #[.slice a len cap] 23);have b3:=cP.new (((w.alloc (.cells #[.string x] 9)).alloc (.cells #[.int .i64 0,.slice none 0 0] 35)).alloc (.cells #[.bool false] 4)) 23 #[.slice a len cap];simp only[World.size_alloc]at b1 b2 b3;have hB0:Below w.heap.size w ((((w.alloc (.cells #[.string x] 9)).alloc (.cells #[.int .i64 0,.slice none 0 0] 35)).alloc (.cells #[.bool false] 4)).alloc (.cells #[.slice a len cap] 23)):=
  ((((Below.refl _ w).alloc (M7 _) _).alloc (by simp) _).alloc (by simp;omega) _).alloc (by simp;omega) _
 have hsz:((((w.alloc (.cells #[.string x] 9)).alloc (.cells #[.int .i64 0,.slice none 0 0] 35)).alloc (.cells #[.bool false] 4)).alloc (.cells #[.slice a len cap] 23)).heap.size=w.heap.size+4:=by simp
 obtain⟨W0,hW0⟩:∃W0,((((w.alloc (.cells #[.string x] 9)).alloc (.cells #[.int .i64 0,.slice none 0 0] 35)).alloc (.cells #[.bool false] 4)).alloc (.cells #[.slice a len cap] 23))=W0:=⟨_,rfl⟩;rw[hW0]at b0 b1 b2 b3 hB0 hsz |-;clear hW0;refine wpIn_rangeFunc_ownH hro h1 (gf:=172) (lb:=#[.pointer (some ⟨w.heap.size+1+1+1,0,none⟩)]) rfl h7 (enters_of Tryz.func172 (by kernel_rfl) rfl)
  (Cm F (n-1) h7 hro (by omega) (w.heap.size+1+1+1) _ zs hreach W0 (by omega) (b3.cell 0) ((hI.below hB0).mono (by omega))) belowK_t (belowK_b (M7 _)) (Below.refl _ _) (fun _=>rfl)
  (fun pre W=>(∀p∈pre,p.2.1≠x)/\(cP W w.heap.size 9 #[.string x]/\cP W (w.heap.size+1) 35 #[.int .i64 0,.slice none 0 0]/\cP W (w.heap.size+1+1) 4 #[.bool false]/\cP W (w.heap.size+1+1+1) 23 #[.slice a len cap])/\Below w.heap.size w W)
  (fun c pre W=>(c= .ret/\∃ini last,pre=ini++[last]/\(∀p∈ini,p.2.1≠x)/\last.2.1=x/\cP W (w.heap.size+1) 35 #[last.2.k,last.2.f]/\cP W (w.heap.size+1+1) 4 #[.bool true])/\Below w.heap.size w W)
  ?hI ?hIx ⟨fun _ h=>(by cases h),⟨b0,b1,b2,b3⟩,hB0⟩
  (fun y a' W=>∃Bx,cP W Bx 54 #[.string y.2.1,y.2.k,y.2.f]/\a'= { tmps:=#[.slice a len cap,.string x,undef,.pointer (some ⟨w.heap.size,0,none⟩),.pointer (some ⟨w.heap.size+1,0,none⟩),.pointer (some ⟨w.heap.size+1+1,0,none⟩),undef,.pointer (some ⟨Bx,0,none⟩),.slice a len cap,.func (.func 172) #[] #[.pointer (some ⟨w.heap.size+1+1+1,0,none⟩)],.int .i64 (y.1:Int),AZ y.2,undef,undef,undef,undef,undef,undef,undef],defers:=[] })
  (fun y a' _ X Y row hs hg hr=>by obtain⟨Bx,h2,h3⟩:=hs;exact⟨Bx,gP Bx 54 (fun(_:Unit)=>#[Value.string y.2.1,y.2.k,y.2.f]) () X Y row h2 hg (fun r e=>(hr r e).2),h3⟩)
  ?assign ?body ?done ?stop
 case hI=>exact OwnFrom.and (ownFrom_pure _ _) (OwnFrom.and (OwnFrom.and (Own.from (gP _ _ _) _) (OwnFrom.and (Own.from (gP _ _ _) _) (OwnFrom.and (Own.from (gP _ _ _) _) (Own.from (gP _ _ _) _)))) (ownFrom_below (M7 _) (by omega)))
 case hIx=>
  intro c;refine OwnFrom.and (Own.from (fun s A B row hs hg hr=>?_) _) (ownFrom_below (M7 _) (by omega));obtain⟨hc,ini,last,e1,e2,e3,e4,e5⟩:=hs;exact⟨hc,ini,last,e1,e2,e3,gP _ _ (fun(_:Unit)=>#[last.2.k,last.2.f]) () A B row e4 hg hr,gP _ _ (fun(_:Unit)=>#[Value.bool true]) () A B row e5 hg hr⟩
 case assign=>
  rintro l pre y W K ⟨hp,⟨r0,r1,r2,r3⟩,hB⟩ hK;obtain⟨yi,y1,y2,y3,y4,y5⟩:=y;simp only[AZ,dE.k,dE.f]at hK |-
  gi_wp2
  exact hK _ _ ((KeepsOthers.alloc _ _).from _) ((Below.refl _ W).alloc (by have:=r3.lt;omega) _) ⟨hp,⟨r0.alloc _,r1.alloc _,r2.alloc _,r3.alloc _⟩,hB.alloc hB.size _⟩ ⟨W.heap.size,cP.new W _ _,rfl⟩
 case body=>
  rintro l pre y a' W hl ⟨r,hr⟩ ⟨hp,⟨r0,r1,r2,r3⟩,hB⟩ ⟨Bx,rx,rfl⟩ hlt;obtain⟨yi,y1,y2,y3,y4,y5⟩:=y;simp only[AZ,dE.k,dE.f]at rx |-;have c0:=r0.cell 0;have z7:=rx.cell 0;have cx1:=rx.cell 1;have cx2:=rx.cell 2;have f10:=r1.frozen 0;have f11:=r1.frozen 1;have f20:=r2.frozen 0;have c10:=r1.cell 0;have c11:=r1.cell 1;have c20:=r2.cell 0;simp at c0 z7 cx1 cx2 c10 c11 c20
  gi_wp2
  ·have hx:y1=x:=Bu (by assumption);have r1':=((r1.set 0 (.int .i64 y2)).set 1 (.slice y3 y4 y5)).other (B':=w.heap.size+1+1) (o:=0) (by omega) (.bool true);have r2':=((r2.other (B':=w.heap.size+1) (o:=0) (by omega) (.int .i64 y2)).other (B':=w.heap.size+1) (o:=1) (by omega) (.slice y3 y4 y5)).set 0 (.bool true);exact⟨(((KeepsOthers.setCell _ _ _).trans (KeepsOthers.setCell _ _ _)).trans (KeepsOthers.setCell _ _ _)).from _,⟨rfl,pre,(yi,y1,y2,y3,y4,y5),rfl,hp,hx,r1',r2'⟩,
    ((hB.setCell (p:=⟨w.heap.size+1,0,none⟩) (by simp) _).setCell (p:=⟨w.heap.size+1,1,none⟩) (by simp) _).setCell (p:=⟨w.heap.size+1+1,0,none⟩) (by simp;omega) _⟩
  ·have hx:y1≠x:=Bv (by assumption);exact⟨KeepsFrom.refl _ _,Below.refl _ _,fun p hp'=>(N5.1 hp').elim (hp p) (fun e=>by simp at e;subst e;exact hx),⟨r0,r1,r2,r3⟩,hB⟩
 case done=>
  rintro D ys W hD rfl ⟨hne,⟨r0,r1,r2,r3⟩,hB⟩ hK;have f10:=r1.frozen 0;have f11:=r1.frozen 1;have f20:=r2.frozen 0;have c10:=r1.cell 0;have c11:=r1.cell 1;have c20:=r2.cell 0;simp at c10 c11 c20
  gi_wp2
  have r1':=((r1.set 0 (.int .i64 0)).set 1 (.slice none 0 0)).other (B':=w.heap.size+1+1) (o:=0) (by omega) (.bool false);have r2':=((r2.other (B':=w.heap.size+1) (o:=0) (by omega) (.int .i64 0)).other (B':=w.heap.size+1) (o:=1) (by omega) (.slice none 0 0)).set 0 (.bool false);have hB':=((hB.setCell (p:=⟨w.heap.size+1,0,none⟩) (by simp) (.int .i64 0)).setCell (p:=⟨w.heap.size+1,1,none⟩) (by simp) (.slice none 0 0)).setCell (p:=⟨w.heap.size+1+1,0,none⟩) (by simp;omega) (.bool false);have hK':=(((KeepsOthers.setCell W ⟨w.heap.size+1,0,none⟩ (.int .i64 0)).trans (KeepsOthers.setCell _ ⟨w.heap.size+1,1,none⟩ (.slice none 0 0))).trans (KeepsOthers.setCell _ ⟨w.heap.size+1+1,0,none⟩ (.bool false))).same D _ hK rfl;refine⟨by simp,.inl ⟨_,_,rfl,run_takeDeferred hK',?_⟩⟩;have q10:=(r1'.put (.deferred none) hK' rfl).cell 0;have q11:=(r1'.put (.deferred none) hK' rfl).cell 1;have q20:=(r2'.put (.deferred none) hK' rfl).cell 0;simp at q10 q11 q20;refine⟨.tuple #[.agg #[.int .i64 0,.slice none 0 0],.bool false],?_,?_,hB'.trans (belowK_b (w:=w) (M7 _) _ D _ _ (by omega) hK' rfl rfl)⟩
  rotate_left
  ·unfold uc;rw[wk hne]
  ·simp[results,Tryz.f137,go_sem,q10,q11,q20]
 case stop=>
  rintro D c pre W hD ⟨k,hk,rfl⟩ ⟨⟨rfl,ini,last,e1,e2,e3,r1,r2⟩,hB⟩ hK
  gi_wp2
  refine⟨by simp,.inl ⟨_,_,rfl,run_takeDeferred hK,?_⟩⟩;have q10:=(r1.put (.deferred none) hK rfl).cell 0;have q11:=(r1.put (.deferred none) hK rfl).cell 1;have q20:=(r2.put (.deferred none) hK rfl).cell 0;simp at q10 q11 q20;refine⟨.tuple #[.agg #[last.2.k,last.2.f],.bool true],?_,?_,hB.trans (belowK_b (w:=w) (M7 _) W D _ _ (by omega) hK rfl rfl)⟩
  rotate_left
  ·unfold uc;rw[wm hk e1 e2 e3]
  ·simp[results,Tryz.f137,go_sem,q10,q11,q20]
end Go.Proofs.YtighgcgmocboaaaGreatDoor
namespace Go.Proofs.YtighgcgmocboaaaGreatDoor
open Go Go.Av Go.RowKit
set_option maxRecDepth 100000
def H6(S:ay)(β:List bI)(y:List UInt8×Int×List AV)(z:dE):Prop:=z.1.data.toList=y.1/\z.2.1=y.2.1/\VR S β (.sl y.2.2) z.f
def kR(S:ay)(β:List bI):List (List UInt8×Int×List AV)->List dE->Prop
 |[],zs=>zs=[]
 |y:: l,zs=>∃z r,zs=z:: r/\H6 S β y z/\kR S β l r
theorem kR.length{S:ay}{β:List bI}:{l:List (List UInt8×Int×List AV)} ->{zs:List dE} ->kR S β l zs->zs.length=l.length
 |[],_,h=>by simp only[kR]at h;simp[h]
 |y:: l,zs,h=>by
  simp only[kR]at h;obtain⟨z,r,rfl,_,h⟩:=h;simp[kR.length h]
def Ag{e:AV}{y:List UInt8×Int×List AV}(h:vI e=some y):e= .agg [.str y.1,.int .i64 y.2.1,.sl y.2.2]:=by
 unfold vI at h
 grind
theorem JV{S:ay}{β:List bI}{b sz:Nat}:(es:List AV)->(off:Nat)->(l:List (List UInt8×Int×List AV))->bO S β es b off sz->gF es=some l->
  ∃zs:List dE,kR S β l zs/\∀j,j<zs.length->S b (off+j*3)=some (.string (zs[j]?.getD default).1)/\S b (off+j*3+1)=some (zs[j]?.getD default).k/\S b (off+j*3+2)=some (zs[j]?.getD default).f
 |[],off,l,_,h=>by
  simp only[gF,M4]at h;subst h;exact⟨[],rfl,fun j hj=>by simp at hj⟩
 | e:: es,off,l,he,h=>by
  simp only[gF]at h;cases h1:vI e with
  |none=>grind
  | some y=>
   cases h2:gF es with
   |none=>grind
   |some l'=>
    rw[h1,h2]at h;simp only[M4]at h;subst h;simp only[bO]at he;obtain⟨⟨v,hv,hs,hc⟩,he⟩:=he
    have:=Ag h1
    subst this;simp only[VR,aV]at hv;obtain⟨vs,rfl,_,_,rfl,⟨x,rfl,hx⟩,_,_,rfl,rfl,v3,_,rfl,hv3,rfl⟩:=hv;obtain⟨p,cap,hp,hq1,hq2,hq3⟩:=hv3;subst hp;have hsz:sz=3:=by rw[<- hs];rfl
    subst hsz;obtain⟨zs,hR,hZ⟩:=JV es (off+3) l' he h2;have c0:=hc 0 _ rfl;have c1:=hc 1 _ rfl;have c2:=hc 2 _ rfl;refine⟨(x,y.2.1,(p,y.2.2.length,cap)):: zs,⟨_,_,rfl,⟨hx,rfl,by simp only[dE.f,VR];grind⟩,hR⟩,fun j hj=>?_⟩
    grind [dE.k,dE.f]
theorem nk{S:ay}{β:List bI}{x:ByteArray}{name:List UInt8}(hx:x.data.toList=name):{l:List (List UInt8×Int×List AV)} ->{zs:List dE} ->kR S β l zs->
  (cC (fun z=>z.1== name) l=none/\cC (fun z:dE=>decide (z.1=x)) zs=none)\/∃y z,cC (fun z=>z.1== name) l=some y/\cC (fun z:dE=>decide (z.1=x)) zs=some z/\H6 S β y z
 |[],zs,h=>by simp only[kR]at h;subst h;exact .inl ⟨rfl,rfl⟩
 | y:: l,zs,h=>by
  simp only[kR]at h;obtain⟨z,r,rfl,hz,h⟩:=h;rcases nk hx h with⟨h1,h2⟩|⟨y',z',h1,h2,h3⟩
  ·have he:(y.1== name)=decide (z.1=x):=by
    rw[<- hz.1,<- hx];by_cases h:z.1=x
    ·subst h;simp
    ·grind [ByteArray.ext,Array.ext']
   simp only[cC,h1,h2,he]
   grind
  ·simp only[cC,h1,h2]
   grind
def Hi(call:FuncId->List AV->M AV)(args:List AV)(h:Hp)(S:ay)(β:List bI)(w:World)(vs:List Value)(hr:lP call args h≠.fail)(hg:pt S β h w)(hw:Wf S w)(hh:cS S β w h)(hv:aV S β args vs):
  Calls Tryz.prog 137 vs.toArray w (eh none S β h w (lP call args h)):=by
 unfold lP at hr |-;split at hr
 ·rename_i es name;cases hl:gF es with
  |none=>rw[hl]at hr;exact absurd rfl hr
  | some l=>
   rw[hl]at hr;simp only at hr |-;cases hc:decide (l.length<=1000000000)with
   |false=>rw[hc]at hr;exact absurd rfl hr
   | true=>
    simp only[M6];simp only[aV,VR]at hv;obtain⟨_,_,rfl,⟨a,cap,rfl,hle,hnil,hq⟩,_,_,rfl,⟨x,rfl,hx⟩,rfl⟩:=hv;have hlen:∀(es:List AV)(l:List (List UInt8×Int×List AV)),gF es=some l->l.length=es.length:=by
     intro es
     induction es with
     |nil=>grind [gF]
     |cons e es ih=>
      grind [gF]
    have hll:=hlen es l hl;have hz:∃zs:List dE,kR S β l zs/\mR w.heap.size w (.slice a zs.length cap) zs:=by
     cases es with
     |nil=>
      simp only[gF,M4]at hl;subst hl;exact⟨[],rfl,.inl ⟨rfl,a,cap,rfl⟩⟩
     | cons e es=>
      cases a with
      |none=>grind
      | some q=>
       obtain⟨hs,sz,hE⟩:=hq q rfl;have hcap:0<cap:=by simp at hle;omega
       obtain⟨b,off,sp⟩:=q;have hs':sp=none:=hs hcap;subst hs';obtain⟨zs,hR,hZ⟩:=JV (e:: es) off l hE hl;refine⟨zs,hR,.inr ⟨b,off,cap,rfl,?_,fun j hj=>?_⟩⟩
       ·have h0:=(hZ 0 (by rw[hR.length,hll];simp)).1;exact hw.lt h0
       ·obtain⟨h1,h2,h3⟩:=hZ j hj;exact⟨hw _ _ _ h1,hw _ _ _ h2,hw _ _ _ h3⟩
    obtain⟨zs,hR,hF⟩:=hz;have hzl:=hR.length;rw[show es.length=zs.length by omega];refine (callsIn_wide (n:=3)).1 ((El Fence.wide 3 trivial trivial trivial rfl (by omega) a zs.length cap x zs (by grind) w hF).mono ?_);rintro e w' ⟨rfl,hb⟩;refine cF hw hh hb pr ?_;unfold uc yc ou;rw[<- rT];rcases nk hx hR with⟨h1,h2⟩|⟨y,z,h1,h2,h3⟩
    ·rw[h1,h2];simp only[VR,aV];exact⟨_,rfl,_,_,rfl,⟨_,rfl,_,_,rfl,rfl,_,_,rfl,⟨none,0,rfl,M7 _,fun _=>rfl,fun q hq=>by cases hq⟩,rfl⟩,_,_,rfl,rfl,rfl⟩
    ·rw[h1,h2];obtain⟨_,h4,h5⟩:=h3;simp only[VR,aV];exact⟨_,rfl,_,_,rfl,⟨_,rfl,_,_,rfl,by rw[<- h4];rfl,_,_,rfl,h5,rfl⟩,_,_,rfl,rfl,rfl⟩
 ·exact absurd rfl hr
theorem sM:∀(f u:Nat),(dt f u).length<=f
 |0,_=>by simp[dt]
 |f+1,u=>by
  simp only[dt];cases decide (u<10)with
  |true=>simp
  |false=>have:=sM f (u / 10);simp;omega
def Fg(w:World)(z:Int)(h0:0<=z)(h1:z<256):(convert 65 9 (.slice (some ⟨w.heap.size,0,none⟩) 1 1)).run Tryz.prog (w.alloc (.cells #[.int .u8 z] 5))= .ok (.string ⟨#[UInt8.ofNat z.toNat]⟩) (w.alloc (.cells #[.int .u8 z] 5)):=by
 have h:=run_convert_bytes_back (P:=Tryz.prog) (w.alloc (.cells #[.int .u8 z] 5)) 65 9 5 ⟨w.heap.size,0,none⟩ 1 [UInt8.ofNat z.toNat] Tryz.underlying65 Tryz.underlying5 Tryz.underlying9 (fun j hj=>by
  simp at hj;subst hj;have e:((UInt8.ofNat z.toNat).toNat:Int)=z:=by simp[OM];omega
  show (w.alloc (.cells #[.int .u8 z] 5)).cell? _=some (.int .u8 ((UInt8.ofNat z.toNat).toNat:Int));rw[e];have hh:=heap_alloc_new w (Obj.cells #[Value.int .u8 z] 5);show (w.alloc (.cells #[.int .u8 z] 5)).cell? ⟨w.heap.size,0,none⟩=_;unfold World.cell?;simp only[hh];rfl)
 simpa using h
def Bz(t u:ByteArray):(t++u).data.toList=t.data.toList++u.data.toList:=by simp
set_option maxHeartbeats 8000000 in
theorem yT:∀(f u:Nat)(w:World),f<=19->u<10 ^ (f+1)->u<=9223372036854775808->Calls Tryz.prog 71 #[.int .i64 (-(u:Int))] w fun e w'=>(∃x:ByteArray,e= .returned (.string x)/\x.data.toList=dt (f+1) u)/\Below w.heap.size w w'
 | f,u,w,hf,h,hb=>by
  have f1:(-(u:Int)).tmod 10= -((u:Int) % 10):=by rw[Int.neg_tmod,Int.tmod_eq_emod_of_nonneg (by omega)]
  have f2:(-(u:Int)).tdiv 10= -((u:Int) / 10):=by rw[Int.neg_tdiv,Int.tdiv_eq_ediv_of_nonneg (by omega)]
  rw[show dt (f+1) u=bif decide (u<10)then[UInt8.ofNat (48+u)]else dt f (u / 10)++[UInt8.ofNat (48+u % 10)]from rfl];by_cases h10:u<10
  ·rw[NJ h10];have g1:-10 < -(u:Int):=by omega
   go_enter Tryz.func71,Tryz.ntmps71
   go_wp2
   rw[Fg w (48+(u:Int) % 10) (by omega) (by omega)];simp only[Result.andThen];rw[Oper.upon_value]
   go_wp2
   go_ret
   have e2:u % 10=u:=by omega
   exact⟨⟨_,rfl,by rw[e2];rfl⟩,(Below.refl _ _).alloc (M7 _) _⟩
  ·rw[NV h10];have g1:¬ -10 < -(u:Int):=by omega
   have e2:(48+(u:Int) % 10).toNat=48+u % 10:=by omega
   obtain⟨g,rfl⟩:∃g,f=g+1:=⟨f-1,by
    rcases NO f with rfl|h0
    ·simp at h;omega
    ·omega⟩
   have ih:=fun w=>yT g (u / 10) w (by omega) (by rw[O3]at h;omega) (by omega);have hl:=sM (g+1) (u / 10);have q1:-((u:Int) / 10)= -((u / 10:Nat):Int):=by omega
   rw[q1]at f2
   go_enter Tryz.func71,Tryz.ntmps71
   go_wp2
   rw[Fg w (48+(u:Int) % 10) (by omega) (by omega)];simp only[Result.andThen];rw[Oper.upon_value]
   go_wp2_with (go_at_call 71;refine (ih _).mono ?_;rintro e w' ⟨⟨x,rfl,hx⟩,hb2⟩)
   ·rename_i hbig;have hsz:x.size=(dt (g+1) (u / 10)).length:=by rw[<- hx,NZ];rfl
    exfalso;omega
   ·go_ret
    exact⟨⟨_,rfl,by rw[Bz,hx];simp⟩,((Below.refl _ _).alloc (M7 _) _).trans (hb2.mono ((Below.refl w.heap.size w).alloc (M7 _) _).size)⟩
def Kz(call:FuncId->List AV->M AV)(args:List AV)(h:Hp)(S:ay)(β:List bI)(w:World)(vs:List Value)(hr:z8 call args h≠.fail)(_hg:pt S β h w)(hw:Wf S w)(hh:cS S β w h)(hv:aV S β args vs):
  Calls Tryz.prog 71 vs.toArray w (eh none S β h w (z8 call args h)):=by
 unfold z8 at hr |-;split at hr
 ·rename_i n;simp only[aV,VR]at hv;obtain⟨v,r,rfl,rfl,rfl⟩:=hv;cases hc:(decide (-9223372036854775808<=n)&&decide (n<=0))with
  |false=>rw[hc]at hr;exact absurd rfl hr
  |true=>
   simp only[M5,M8]at hc;simp only[M6];obtain⟨u,rfl⟩:∃u:Nat,n= -(u:Int):=⟨n.natAbs,by omega⟩;refine (yT 19 u w (by omega) (by omega) (by omega)).mono ?_;rintro e w' ⟨⟨x,rfl,hx⟩,hb⟩;exact cF hw hh hb pr (by simp only[VR];exact⟨x,rfl,by rw[hx];simp⟩)
 ·exact absurd rfl hr
end Go.Proofs.YtighgcgmocboaaaGreatDoor
namespace Go.Proofs.YtighgcgmocboaaaGreatDoor
open Go Go.Av
set_option maxRecDepth 100000
noncomputable def z7(n:Nat)(a:Ann):Cx:={ T:=T,call:=fun _ _=>fA,own:=own,iso:=fun _=>false,nw:=fun _=>false,nt:=n,ann:=a }
def sL(n:Nat)(a:Ann):db Tryz.prog (z7 n a).own (z7 n a).call:=fun f args h S β w vs hr=>absurd rfl hr
def yS(n:Nat)(a:Ann):IsoCall (z7 n a):=⟨fun f args h=>Bool.noConfusion h,fun f args h=>Bool.noConfusion h⟩
def Lv(e:AV)(es:List AV):cB (z7 Tryz.f48.ntmps yK) (dx 0) Tryz.f48 none [.sl (e:: es)]=ap (appH T 33 true (.sl []) (.sl (e:: es))) fun v=>ap (bF (some v)) am:=by kernel_rfl
def Lw:cB (z7 Tryz.f48.ntmps yK) (dx 0) Tryz.f48 none [.hn]=ap (bF (some (.sl []))) am:=by kernel_rfl
def Lx(l off:Nat):cB (z7 Tryz.f48.ntmps yK) (dx 0) Tryz.f48 none [.hs l off 0 1 false]=ap (appH T 33 true (.sl []) (.hs l off 0 1 false)) fun v=>ap (bF (some v)) am:=by kernel_rfl
def Ku(call:FuncId->List AV->M AV)(args:List AV)(h:Hp)(S:ay)(β:List bI)(w:World)(vs:List Value)(hr:dX T 33 call args h≠.fail)(hg:pt S β h w)(hw:Wf S w)(hh:cS S β w h)(hv:aV S β args vs):
  Calls Tryz.prog 48 vs.toArray w (eh none S β h w (dX T 33 call args h)):=by
 have key:∀es,args=[.sl es]->Calls Tryz.prog 48 vs.toArray w (eh none S β h w (dX T 33 call args h)):=by
  rintro es rfl;exact (oO (cx:=z7 Tryz.f48.ntmps yK) (E:=fun es h=>dX T 33 call [.sl es] h) tok (sL _ _) (yS _ _) Tryz.func48 rfl (fun h=>by rfl) (fun e es h=>by rw[Lv];exact congrFun (Br _) h) (fun h=>by rw[Lw];rfl) (fun l off h=>by rw[Lx];rfl) hr hg hw hh hv).1
 unfold dX at hr;split at hr
 ·exact key _ rfl
 ·exact absurd rfl hr
end Go.Proofs.YtighgcgmocboaaaGreatDoor
namespace Go.Proofs.YtighgcgmocboaaaGreatDoor
open Go Go.Av Go.Av.Ap
set_option maxRecDepth 100000
noncomputable section
abbrev FW(G:(List AV->M AV)->List AV->M AV):Prop:=∀vs,ak G vs=G (ak G) vs
def lB{α β:Type}{m:M α}{f:α->M β}{fs:Nat->α->M β}(hf:bR f fs):cQ (ap m f) fun n=>ap m (fs n):=cQ.bnd (eC _) hf
def lA{β:Type}{f:β->M AV}{fs:Nat->β->M AV}(h:bR f fs)(x:β):cQ (f x) fun n=>fs n x:=h x
def lZ{F:(List AV->M AV)->List AV->M AV}{Fs:Nat->(List AV->M AV)->List AV->M AV}(vs:List AV)(h1:∀a b,bR a b->∀v,cQ (F a v) fun n=>Fs n (b n) v)(h2:∀a b,bR a b->∀v,cQ (F a v) fun n=>F (b n) v)(h3:∀n a b,bR a b->∀v,cQ (Fs n a v) fun k=>Fs n (b k) v):cQ (ak F vs) fun n=>ak (Fs n) vs:=Af h1 h2 h3 vs
def fZ{G:(List AV->M AV)->List AV->M AV}(h:∀a b,bR a b->∀v,cQ (G a v) fun n=>G (b n) v:=by intros;repeat' first|with_reducible refine lB fun _=>?_|with_reducible refine nX ?_ ?_|with_reducible exact eC _|(with_reducible refine lA ?_ _;assumption)|with_reducible (refine lZ _ ?_ ?_ ?_<;>intros)|with_reducible refine qA ?_|with_reducible refine tg ?_|with_reducible (refine cQ.bnd ?_ fun _=>?_)|refine lB fun _=>?_|refine nX ?_ ?_|(refine lA ?_ _;assumption)):FW G:=fun vs=>yW h vs
def cY{k:Nat}{fn:Go.Func}{g:Ann}{xs l:List AV}{m:M AV}(h1:pg.other k=none:=by exact rfl)(h2:pg.funcs k=some (fn,g):=by exact rfl)(h3:g.iso=true:=by exact rfl)(hl:fo aA xs=l:=by exact rfl)(h:cB (pg.cx (ab pg) fn.ntmps g) ak fn (own k) l=m:=by kernel_rfl):ab pg k xs=aP m:=by subst hl;exact (iJ hOther h1 h2 h3 xs).trans (Nq aP h)
def cZ{k:Nat}{fn:Go.Func}{g:Ann}{xs:List AV}{m:M AV}(h1:pg.other k=none:=by exact rfl)(h2:pg.funcs k=some (fn,g):=by exact rfl)(h3:g.iso=false:=by exact rfl)(h:cB (pg.cx (ab pg) fn.ntmps g) ak fn (own k) xs=m:=by kernel_rfl):ab pg k xs=m:=(xq hOther h1 h2 h3 xs).trans h
def L6_0(call:CC)(fx:bi AV)(a:RR)(b:List AV):M AV:=bB 32 (aa b 0) 1 30 fun c=>df 30 c fun d=>bq .lss 3 (aa b 1) d fun e=>dD e (bX .lss 3 (aa b 1) (qi 9) fun f=>am [f]) fun g=>aD g (bB 32 (aa b 0) 1 30 fun h=>ji 30 h (aa b 1) 37 fun i=>ap (call 7 [i]) fun j=>ib UnOp.not j fun k=>aD k (am (.bool false)) (bq .add 3 (aa b 1) (qi 1) fun l=>a [aa b 0,l])) (bB 32 (aa b 0) 1 30 fun m=>df 30 m fun n=>bq .leq 3 n (qi 8) fun o=>am o)
def FL6_0(call:CC):FW (L6_0 call ak):=fZ
def S6(call:CC)(fx:bi AV)(a0:AV):M AV:=fx (L6_0 call fx) [qc a0,qi 0]
def C6(a0:AV):ab pg 6 [a0]=aP (S6 (ab pg) ak (cl aA a0)):=cY
def L10_0(call:CC)(fx:bi AV)(a:RR)(b:RR)(c:List AV):M AV:=df 33 (aa c 9) fun d=>bq .lss 3 d (aa c 3) fun e=>dD e (jz 33 (aa c 9) fun f=>bX .leq 3 f (qi 6) fun g=>am [g]) fun h=>dD h (ap (call 39 [aa c 1]) fun i=>bX .gtr 3 i (qi 0) fun j=>am [j]) fun k=>aD k (ap (call 40 [aa c 1,qi 4]) fun l=>AQ 33 1 [(0,l)] fun m=>ap (bF (fB T 33 (aa c 9) m)) fun n=>r7 n fun o=>b (LW c [n,aa c 10,aa c 11,aa c 12])) (ap (call 40 [aa c 1,qi 4]) fun p=>jj 2 [] p fun q=>ap (call 38 [aa c 1]) fun r=>r7 r fun s=>AQ 30 1 [(0,.agg [aa c 8,aa c 9,aa (af q) 0,aa (af q) 1,r])] fun u=>ap (bF (fB T 30 (aa c 7) u)) fun v=>r7 v fun w=>a (kO c [aa c 4,aa c 5,aa c 6,v]))
def L10_1(call:CC)(fx:bi AV)(a:RR)(b:List AV):M AV:=df 30 (aa b 6) fun c=>bq .lss 3 c (aa b 2) fun d=>dD d (jz 30 (aa b 6) fun e=>bX .leq 3 e (qi 30) fun f=>am [f]) fun g=>dD g (ap (call 39 [aa b 1]) fun h=>bX .gtr 3 h (qi 0) fun i=>am [i]) fun j=>aD j (ap (call 37 [aa b 1]) fun k=>rJ true 37 [(0,k)] fun l=>jj 5 [1] l fun m=>ap (call 38 [aa b 1]) fun n=>fx (L10_0 call fx a) (kO b [n,aa b 3,aa b 4,aa b 5,aa b 6,aa (af m) 0,.sl [],aa (af m) 2,aa (af m) 3,aa (af m) 4])) (ap (call 8 [.agg [aa b 5,aa b 6]]) fun o=>mQ o 0 fun p=>mQ o 1 fun q=>bq .neq 42 q (qi 0) fun r=>dz r (bX .neq 9 p (aa b 0) fun s=>am [s]) fun u=>aD u (rJ false 32 [] fun v=>jj 2 [] v fun w=>am (.tup [.agg [aa (af w) 0,aa (af w) 1],qi 2])) (jj 2 [] (.agg [aa b 5,aa b 6]) fun x=>am (.tup [.agg [aa (af x) 0,aa (af x) 1],qi 0])))
def FL10_0(call:CC)(a:RR):FW (L10_0 call ak a):=fZ
def FL10_1(call:CC):FW (L10_1 call ak):=fZ
def S10(call:CC)(fx:bi AV)(a0:AV):M AV:=ap (call 36 [a0]) fun a=>ap (call 37 [a]) fun b=>rJ true 32 [(0,b)] fun c=>jj 2 [1] c fun d=>ap (call 38 [a]) fun e=>fx (L10_1 call fx) [a0,a,e,.str [],.sl [],aa (af d) 0,.sl []]
def C10(a0:AV):ab pg 10 [a0]=aP (S10 (ab pg) ak (cl aA a0)):=cY
def L15_0(call:CC)(fx:bi AV)(a:RR)(b:List AV):M AV:=bB 37 (aa b 0) 1 33 fun c=>df 33 c fun d=>dU .lss 3 (aa b 2) d (bB 37 (aa b 0) 1 33 fun e=>ji 33 e (aa b 2) 35 fun f=>bB 37 (aa b 1) 1 33 fun g=>ji 33 g (aa b 2) 35 fun h=>ap (bH (call 50 [f,h])) fun i=>ib UnOp.not i fun j=>aD j (am (.bool false)) (bq .add 3 (aa b 2) (qi 1) fun k=>a [aa b 0,aa b 1,k])) (am (.bool true))
def FL15_0(call:CC):FW (L15_0 call ak):=fZ
def S15(call:CC)(fx:bi AV)(a0 a1:AV):M AV:=bB 37 (qc a0) 0 9 fun a=>bB 37 (qc a1) 0 9 fun b=>bq .neq 9 a b fun c=>dz c (bU 37 (qc a0) 3 3 fun d=>bU 37 (qc a1) 3 3 fun e=>bX .neq 3 d e fun f=>am [f]) fun g=>dz g (bU 37 (qc a0) 1 33 fun h=>jz 33 h fun i=>bU 37 (qc a1) 1 33 fun j=>jz 33 j fun k=>bX .neq 3 i k fun l=>am [l]) fun m=>dz m (bU 37 (qc a0) 2 35 fun n=>bU 37 (qc a1) 2 35 fun o=>ap (call 50 [n,o]) fun p=>kI UnOp.not p fun q=>am [q]) fun r=>aD r (am (.bool false)) (fx (L15_0 call fx) [qc a0,qc a1,qi 0])
def C15(a0 a1:AV):ab pg 15 [a0,a1]=aP (S15 (ab pg) ak (cl aA a0) (cl aA a1)):=cY
def L17_0(call:CC)(fx:bi AV)(a:RR)(b:RR)(c:List AV):M AV:=bB 37 (aa c 2) 1 33 fun d=>df 33 d fun e=>dU .lss 3 (aa c 3) e (bB 37 (aa c 2) 1 33 fun f=>ji 33 f (aa c 3) 35 fun g=>ap (call 54 [g]) fun h=>ib UnOp.not h fun i=>aD i (am (.bool false)) (bq .add 3 (aa c 3) (qi 1) fun j=>b (kO c [j]))) (bq .add 3 (aa c 1) (qi 1) fun k=>a [aa c 0,k])
def L17_1(call:CC)(fx:bi AV)(a:RR)(b:List AV):M AV:=bB 32 (aa b 0) 1 30 fun c=>df 30 c fun d=>dU .lss 3 (aa b 1) d (bB 32 (aa b 0) 1 30 fun e=>ji 30 e (aa b 1) 37 fun f=>mP 5 f fun g=>bB 37 (qc g) 0 9 fun h=>ap (bH (call 53 [h])) fun i=>ib UnOp.not i fun j=>ap (bc j false 1 (bX .gtr 3 (aa b 1) (qi 0) fun k=>am [k])) fun l=>ap (bc (aa l 0) true 1 (bU 32 (aa b 0) 1 30 fun m=>bX .sub 3 (aa b 1) (qi 1) fun n=>Ft 30 m n fun o=>bU 37 o 0 9 fun p=>bU 37 (qc g) 0 9 fun q=>bX .geq 9 p q fun r=>am [r])) fun s=>dz j (yn (aa l 0) (aa s 0) (.bool false) fun u=>am [u]) fun v=>dz v (bU 37 (qc g) 1 33 fun w=>jz 33 w fun x=>bX .gtr 3 x (qi 6) fun y=>am [y]) fun z=>dz z (bU 37 (qc g) 3 3 fun A=>bX .lss 3 A (qi 0) fun B=>am [B]) fun C=>dz C (bU 37 (qc g) 3 3 fun D=>bX .gtr 3 D (qi 15) fun E=>am [E]) fun F=>dz F (bU 37 (qc g) 2 35 fun G=>ap (bH (call 54 [G])) fun H=>kI UnOp.not H fun I=>am [I]) fun J=>aD J (am (.bool false)) (fx (L17_0 call fx a) [aa b 0,aa b 1,qc g,qi 0])) (am (.bool true))
def FL17_0(call:CC)(a:RR):FW (L17_0 call ak a):=fZ
def FL17_1(call:CC):FW (L17_1 call ak):=fZ
def S17(call:CC)(fx:bi AV)(a0:AV):M AV:=bB 32 (qc a0) 0 9 fun a=>ap (call 53 [a]) fun b=>ib UnOp.not b fun c=>dz c (bU 32 (qc a0) 1 30 fun d=>jz 30 d fun e=>bX .gtr 3 e (qi 30) fun f=>am [f]) fun g=>aD g (am (.bool false)) (fx (L17_1 call fx) [qc a0,qi 0])
def C17(a0:AV):ab pg 17 [a0]=aP (S17 (ab pg) ak (cl aA a0)):=cY
def S25(call:CC)(fx:bi AV)(a0:AV):M AV:=jf 35 (qc a0) fun a=>ap (call 66 [a,qi 40,qi 6]) fun b=>bq .leq 3 b (qi 40) fun c=>am c
def C25(a0:AV):ab pg 25 [a0]=aP (S25 (ab pg) ak (cl aA a0)):=cY
def S34(call:CC)(fx:bi AV)(a0:AV):M AV:=dU .lss 3 a0 (qi 0) (am (.str [])) (ap (call 72 [a0]) fun a=>am a)
def C34(a0:AV):ab pg 34 [a0]=aP (S34 (ab pg) ak (cl aA a0)):=cY
def L35_0(call:CC)(fx:bi AV)(a:RR)(b:List AV):M AV:=bB 35 (aa b 0) 1 23 fun c=>df 23 c fun d=>dU .lss 3 (aa b 2) d (bB 35 (aa b 0) 1 23 fun e=>rZ 23 e (aa b 2) fun f=>bB 54 f 0 9 fun g=>ap (bH (call 33 [g])) fun h=>bq .add 9 (aa b 1) h fun i=>bB 35 (aa b 0) 1 23 fun j=>rZ 23 j (aa b 2) fun k=>bB 54 k 1 35 fun l=>ap (bH (call 35 [l])) fun m=>bq .add 9 i m fun n=>bq .add 3 (aa b 2) (qi 1) fun o=>a [aa b 0,n,o]) (am (aa b 1))
def FL35_0(call:CC):FW (L35_0 call ak):=fZ
def S35(call:CC)(fx:bi AV)(a0:AV):M AV:=bB 35 (qc a0) 0 3 fun a=>ap (call 34 [a]) fun b=>bB 35 (qc a0) 0 3 fun c=>dU .neq 3 c (qi 2) (am b) (bB 35 (qc a0) 1 23 fun d=>df 23 d fun e=>ap (call 34 [e]) fun f=>bq .add 9 b f fun g=>fx (L35_0 call fx) [qc a0,g,qi 0])
def C35(a0:AV):ab pg 35 [a0]=aP (S35 (ab pg) ak (cl aA a0)):=cY
def S36(call:CC)(fx:bi AV)(a0:AV):M AV:=rJ true 98 [(0,a0)] fun a=>ap (newH (af a)) fun b=>am b
def C36(a0:AV):ab pg 36 [a0]=S36 (ab pg) ak a0:=cZ
def S39(call:CC)(fx:bi AV)(a0:AV):M AV:=mb a0 fun a=>kA 98 a 0 fun b=>pF 9 b fun c=>df 9 c fun d=>am d
def C39(a0:AV):ab pg 39 [a0]=S39 (ab pg) ak a0:=cZ
def L40_0(call:CC)(fx:bi AV)(a:RR)(b:List AV):M AV:=df 23 (aa b 6) fun c=>bq .lss 3 c (aa b 2) fun d=>dD d (jz 23 (aa b 6) fun e=>bX .leq 3 e (qi 8) fun f=>am [f]) fun g=>dD g (ap (call 39 [aa b 0]) fun h=>bX .gtr 3 h (qi 0) fun i=>am [i]) fun j=>aD j (ap (call 37 [aa b 0]) fun k=>rJ false 54 [(0,k)] fun l=>jj 3 [] l fun m=>bq .sub 3 (aa b 1) (qi 1) fun n=>ap (call 40 [aa b 0,n]) fun o=>jj 2 [] o fun p=>AQ 23 1 [(0,.agg [aa (af m) 0,aa (af p) 0,aa (af p) 1])] fun q=>ap (bF (fB T 23 (aa b 6) q)) fun r=>r7 r fun s=>a (LU b [r])) (jj 2 [] (.agg [aa b 5,aa b 6]) fun u=>am (.agg [aa (af u) 0,aa (af u) 1]))
def FL40_0(call:CC):FW (L40_0 call ak):=fZ
def S40(call:CC)(fx:bi AV)(a0 a1:AV):M AV:=ap (call 38 [a0]) fun a=>rJ true 35 [(0,a)] fun b=>jj 2 [1] b fun c=>bq .neq 3 (aa (af c) 0) (qi 2) fun d=>dz d (bX .eql 3 a1 (qi 0) fun e=>am [e]) fun f=>aD f (jj 2 [] (.agg [aa (af c) 0,.sl []]) fun g=>am (.agg [aa (af g) 0,aa (af g) 1])) (ap (call 38 [a0]) fun h=>fx (L40_0 call fx) [a0,a1,h,qi 0,.sl [],aa (af c) 0,.sl []])
def C40(a0 a1:AV):ab pg 40 [a0,a1]=S40 (ab pg) ak a0 a1:=cZ
def S51(call:CC)(fx:bi AV)(a0:AV):M AV:=ap (call 80 [a0]) fun a=>dD a (bX .add 9 (.str [32]) a0 fun b=>bX .add 9 b (.str [32]) fun c=>ap (call 81 [.str [32,97,110,100,32,98,97,99,107,32,98,111,111,108,32,99,108,111,99,107,32,101,108,115,101,32,102,97,108,115,101,32,102,105,108,101,115,32,102,110,32,102,111,114,119,97,114,100,32,103,101,116,32,105,102,32,105,110,32,105,110,116,32,108,101,116,32,109,111,100,117,108,101,32,109,111,118,101,32,110,101,116,32,110,111,116,32,111,114,32,112,117,98,32,115,101,99,114,101,116,115,32,115,101,116,32,116,104,101,110,32,116,114,117,101,32,117,115,101,32,118,97,114,32],c]) fun d=>kI UnOp.not d fun e=>am [e]) fun f=>am f
def C51(a0:AV):ab pg 51 [a0]=aP (S51 (ab pg) ak (cl aA a0)):=cY
def S54(call:CC)(fx:bi AV)(a0:AV):M AV:=jf 35 (qc a0) fun a=>ap (call 88 [a,qi 4]) fun b=>am b
def C54(a0:AV):ab pg 54 [a0]=aP (S54 (ab pg) ak (cl aA a0)):=cY
def S57(call:CC)(fx:bi AV)(a0 a1:AV):M AV:=bB 37 (qc a0) 0 9 fun a=>bB 37 (qc a1) 0 9 fun b=>ap (call 58 [a,b]) fun c=>am c
def C57(a0 a1:AV):ab pg 57 [a0,a1]=aP (S57 (ab pg) ak (cl aA a0) (cl aA a1)):=cY
def S58(call:CC)(fx:bi AV)(a0 a1:AV):M AV:=ap (call 94 [a0]) fun a=>ap (call 94 [a1]) fun b=>aD a (aD b (am (qi 0)) (am (qi (-1)))) (aD b (am (qi 1)) (dU .lss 9 a0 a1 (am (qi (-1))) (dU .gtr 9 a0 a1 (am (qi 1)) (am (qi 0)))))
def C58(a0 a1:AV):ab pg 58 [a0,a1]=aP (S58 (ab pg) ak (cl aA a0) (cl aA a1)):=cY
def L63_0(call:CC)(fx:bi AV)(a:RR)(b:List AV):M AV:=dU .lss 3 (aa b 4) (aa b 3) (ji 30 (aa b 2) (aa b 4) 37 fun c=>mP 5 c fun d=>ji 30 (aa b 0) (aa b 4) 37 fun e=>mP 5 e fun f=>jf 37 (qc d) fun g=>jf 37 (qc f) fun h=>ap (dO call (aa b 1) [g,h]) fun i=>ib UnOp.not i fun j=>aD j (am (.bool false)) (bq .add 3 (aa b 4) (qi 1) fun k=>a (wC b [k]))) (am (.bool true))
def FL63_0(call:CC):FW (L63_0 call ak):=fZ
def S63(call:CC)(fx:bi AV)(a0 a1 a2:AV):M AV:=df 30 a0 fun a=>df 30 a1 fun b=>dU .neq 3 a b (am (.bool false)) (df 30 a0 fun c=>fx (L63_0 call fx) [a1,a2,a0,c,qi 0])
def C63(a0 a1 a2:AV):ab pg 63 [a0,a1,a2]=aP (S63 (ab pg) ak (cl aA a0) (cl aA a1) (cl aA a2)):=cY
def L66_0(call:CC)(fx:bi AV)(a:RR)(b:List AV):M AV:=bB 35 (aa b 2) 1 23 fun c=>df 23 c fun d=>bq .lss 3 (aa b 4) d fun e=>dD e (bX .leq 3 (aa b 3) (aa b 0) fun f=>am [f]) fun g=>aD g (bB 35 (aa b 2) 1 23 fun h=>rZ 23 h (aa b 4) fun i=>bB 54 i 1 35 fun j=>bq .sub 3 (aa b 0) (aa b 3) fun k=>bq .sub 3 (aa b 1) (qi 1) fun l=>ap (call 66 [j,k,l]) fun m=>bq .add 3 (aa b 3) m fun n=>bq .add 3 (aa b 4) (qi 1) fun o=>a (kO b [n,o])) (am (aa b 3))
def FL66_0(call:CC):FW (L66_0 call ak):=fZ
def S66(call:CC)(fx:bi AV)(a0 a1 a2:AV):M AV:=dU .lss 3 a2 (qi 1) (bq .add 3 a1 (qi 1) fun a=>am a) (fx (L66_0 call fx) [a1,a2,qc a0,qi 1,qi 0])
def C66(a0 a1 a2:AV):ab pg 66 [a0,a1,a2]=aP (S66 (ab pg) ak (cl aA a0) (cl aA a1) (cl aA a2)):=cY
def S77(call:CC)(fx:bi AV)(a0:AV):M AV:=mb a0 fun a=>kA 102 a 0 fun b=>zq 9 b (.str []) fun c=>mb a0 fun d=>kA 102 d 1 fun e=>zq 4 e (.bool true) fun f=>am (qi 0)
def C77(a0:AV):ab pg 77 [a0]=S77 (ab pg) ak a0:=cZ
def L85_0(call:CC)(fx:bi AV)(a:RR)(b:List AV):M AV:=df 9 (aa b 0) fun c=>dU .lss 3 (aa b 1) c (ap (bF (bN T 9 (aa b 0) (aa b 1))) fun d=>ap (call 119 [d]) fun e=>ib UnOp.not e fun f=>dD f (ap (bF (bN T 9 (aa b 0) (aa b 1))) fun g=>ap (call 120 [g]) fun h=>kI UnOp.not h fun i=>am [i]) fun j=>aD j (am (.bool false)) (bq .add 3 (aa b 1) (qi 1) fun k=>a [aa b 0,k])) (am (.bool true))
def FL85_0(call:CC):FW (L85_0 call ak):=fZ
def S85(call:CC)(fx:bi AV)(a0:AV):M AV:=df 9 a0 fun a=>bq .lss 3 a (qi 1) fun b=>dz b (jz 9 a0 fun c=>bX .gtr 3 c (qi 20) fun d=>am [d]) fun e=>dz e (ap (bF (bN T 9 a0 (qi 0))) fun f=>ap (call 119 [f]) fun g=>kI UnOp.not g fun h=>am [h]) fun i=>aD i (am (.bool false)) (fx (L85_0 call fx) [a0,qi 1])
def C85(a0:AV):ab pg 85 [a0]=aP (S85 (ab pg) ak (cl aA a0)):=cY
def S94(call:CC)(fx:bi AV)(a0:AV):M AV:=bq .neq 9 a0 a0 fun a=>am a
def C94(a0:AV):ab pg 94 [a0]=aP (S94 (ab pg) ak (cl aA a0)):=cY
def L96_0(call:CC)(fx:bi AV)(a:RR)(b:List AV):M AV:=df 23 (aa b 0) fun c=>dU .lss 3 (aa b 2) c (rZ 23 (aa b 0) (aa b 2) fun d=>bB 54 d 1 35 fun e=>ap (call 54 [e]) fun f=>ib UnOp.not f fun g=>aD g (am (.bool false)) (bq .add 3 (aa b 2) (qi 1) fun h=>a [aa b 0,aa b 1,h])) (df 23 (aa b 0) fun i=>bq .leq 3 i (aa b 1) fun j=>dD j (ap (call 122 [aa b 0]) fun k=>ap (call 95 [k]) fun l=>am [l]) fun m=>am m)
def FL96_0(call:CC):FW (L96_0 call ak):=fZ
def S96(call:CC)(fx:bi AV)(a0 a1:AV):M AV:=fx (L96_0 call fx) [a0,a1,qi 0]
def C96(a0 a1:AV):ab pg 96 [a0,a1]=aP (S96 (ab pg) ak (cl aA a0) (cl aA a1)):=cY
def S100(call:CC)(fx:bi AV)(a0:AV):M AV:=jf 35 (qc a0) fun a=>ap (call 82 [a]) fun b=>am b
def C100(a0:AV):ab pg 100 [a0]=aP (S100 (ab pg) ak (cl aA a0)):=cY
def S101(call:CC)(fx:bi AV)(a0 a1:AV):M AV:=bB 35 (qc a0) 0 3 fun a=>bB 35 (qc a1) 0 3 fun b=>bq .eql 3 a b fun c=>dD c (bU 35 (qc a1) 1 23 fun d=>ap (call 135 [d,.fn (Fn.func 136) [] [qc a0]]) fun e=>kI UnOp.not e fun f=>am [f]) fun g=>am g
def C101(a0 a1:AV):ab pg 101 [a0,a1]=aP (S101 (ab pg) ak (cl aA a0) (cl aA a1)):=cY
def L111_0(call:CC)(fx:bi AV)(a:RR)(b:List AV):M AV:=mb (aa b 0) fun c=>kA 102 c 0 fun d=>pF 9 d fun e=>df 9 e fun f=>bq .lss 3 (aa b 2) f fun g=>dD g (bX .lss 3 (aa b 2) (qi 21) fun h=>am [h]) fun i=>dD i (Mv (aa b 0) fun j=>AK 102 j 0 fun k=>LR 9 k fun l=>ap (bF (bN T 9 l (aa b 2))) fun m=>bX .neq 5 m (aa b 1) fun n=>am [n]) fun o=>aD o (bq .add 3 (aa b 2) (qi 1) fun p=>a [aa b 0,aa b 1,p]) (mb (aa b 0) fun q=>kA 102 q 0 fun r=>pF 9 r fun s=>df 9 s fun u=>dU .geq 3 (aa b 2) u (ap (call 77 [aa b 0]) fun v=>am v) (mb (aa b 0) fun w=>kA 102 w 0 fun x=>pF 9 x fun y=>ap (bF (bN T 9 y (aa b 2))) fun z=>dU .neq 5 z (aa b 1) (ap (call 77 [aa b 0]) fun A=>am A) (mb (aa b 0) fun B=>kA 102 B 0 fun C=>pF 9 C fun D=>ap (bF (dl T 9 D none (some (aa b 2)) none)) fun E=>ap (call 144 [E]) fun F=>mQ F 0 fun G=>mQ F 1 fun H=>ib UnOp.not H fun I=>aD I (ap (call 77 [aa b 0]) fun J=>am J) (mb (aa b 0) fun K=>kA 102 K 0 fun L=>pF 9 L fun N=>bq .add 3 (aa b 2) (qi 1) fun O=>ap (bF (dl T 9 N (some O) none none)) fun P=>mb (aa b 0) fun Q=>kA 102 Q 0 fun R=>zq 9 R P fun S=>am G))))
def FL111_0(call:CC):FW (L111_0 call ak):=fZ
def S111(call:CC)(fx:bi AV)(a0 a1:AV):M AV:=fx (L111_0 call fx) [a0,a1,qi 0]
def C111(a0 a1:AV):ab pg 111 [a0,a1]=S111 (ab pg) ak a0 a1:=cZ
def L113_0(call:CC)(fx:bi AV)(a:RR)(b:List AV):M AV:=df 9 (aa b 0) fun c=>bq .lss 3 (aa b 2) c fun d=>dD d (ap (bF (bN T 9 (aa b 0) (aa b 2))) fun e=>ap (dO call (aa b 1) [e]) fun f=>am [f]) fun g=>aD g (bq .add 3 (aa b 2) (qi 1) fun h=>a [aa b 0,aa b 1,h]) (am (aa b 2))
def FL113_0(call:CC):FW (L113_0 call ak):=fZ
def S113(call:CC)(fx:bi AV)(a0 a1:AV):M AV:=fx (L113_0 call fx) [a0,a1,qi 0]
def C113(a0 a1:AV):ab pg 113 [a0,a1]=aP (S113 (ab pg) ak (cl aA a0) (cl aA a1)):=cY
def L118_0(call:CC)(fx:bi AV)(a:RR)(b:List AV):M AV:=dU .lss 3 (aa b 3) (aa b 2) (ji 33 (aa b 0) (aa b 3) 35 fun c=>ap (dO call (aa b 1) [c]) fun d=>aD d (am (aa b 3)) (bq .add 3 (aa b 3) (qi 1) fun e=>a (kO b [e]))) (am (qi (-1)))
def FL118_0(call:CC):FW (L118_0 call ak):=fZ
def S118(call:CC)(fx:bi AV)(a0 a1:AV):M AV:=df 33 a0 fun a=>fx (L118_0 call fx) [a0,a1,a,qi 0]
def C118(a0 a1:AV):ab pg 118 [a0,a1]=aP (S118 (ab pg) ak (cl aA a0) (cl aA a1)):=cY
def S119(call:CC)(fx:bi AV)(a0:AV):M AV:=bq .geq 5 a0 (.int .u8 97) fun a=>dD a (bX .leq 5 a0 (.int .u8 122) fun b=>am [b]) fun c=>am c
def C119(a0:AV):ab pg 119 [a0]=aP (S119 (ab pg) ak (cl aA a0)):=cY
def S136(call:CC)(fx:bi AV)(a0 a1:AV):M AV:=bB 35 a1 1 23 fun a=>bB 54 (qc a0) 0 9 fun b=>ap (call 137 [a,b]) fun c=>mQ c 0 fun d=>mQ c 1 fun e=>mP 2 d fun f=>ib UnOp.not e fun g=>dz g (mO 35 (qc f) fun h=>bU 54 (qc a0) 1 35 fun i=>ap (call 101 [h,i]) fun j=>kI UnOp.not j fun k=>am [k]) fun l=>am l
def C136(a0 a1:AV):ab pg 136 [a0,a1]=aP (S136 (ab pg) ak (cl aA a0) (cl aA a1)):=cY
def K146_0(call:CC)(fx:bi AV)(a:List AV):M AV:=aD (aa a 2) (bB 56 (aa a 0) 2 9 fun b=>r7 b fun c=>jj 6 [] (.agg [aa a 9,aa a 10,b,aa a 12,aa a 13,aa a 14]) fun d=>am (.tup [.agg (q8 (af d)),qi 1])) (dU .eql 3 (aa a 1) (qi 16) (bB 56 (aa a 0) 1 3 fun e=>r7 e fun f=>jj 6 [] (.agg [aa a 9,e,aa a 11,aa a 12,aa a 13,aa a 14]) fun g=>am (.tup [.agg (q8 (af g)),qi 1])) (dU .eql 3 (aa a 1) (qi 10) (jj 6 [] (.agg [aa a 9,aa a 10,aa a 11,aa a 12,aa a 13,aa a 14]) fun h=>am (.tup [.agg (q8 (af h)),qi 1])) (dU .eql 3 (aa a 1) (qi 12) (bB 56 (aa a 0) 2 9 fun i=>r7 i fun j=>jj 6 [] (.agg [aa a 9,aa a 10,i,aa a 12,aa a 13,aa a 14]) fun k=>am (.tup [.agg (q8 (af k)),qi 2])) (dU .eql 3 (aa a 1) (qi 11) (jj 6 [] (.agg [aa a 9,aa a 10,aa a 11,aa a 12,aa a 13,aa a 14]) fun l=>am (.tup [.agg (q8 (af l)),qi 3])) (dU .eql 3 (aa a 1) (qi 13) (bB 56 (aa a 0) 4 22 fun m=>r7 m fun n=>bB 56 (aa a 0) 4 22 fun o=>df 22 o fun p=>jj 6 [] (.agg [aa a 9,aa a 10,aa a 11,aa a 12,m,aa a 14]) fun q=>am (.tup [.agg (q8 (af q)),p])) (dU .eql 3 (aa a 1) (qi 15) (bB 56 (aa a 0) 2 9 fun r=>bB 56 (aa a 0) 3 9 fun s=>r7 r fun u=>r7 s fun v=>jj 6 [] (.agg [aa a 9,aa a 10,r,s,aa a 13,aa a 14]) fun w=>am (.tup [.agg (q8 (af w)),qi (-1)])) (jj 6 [] (.agg [aa a 9,aa a 10,aa a 11,aa a 12,aa a 13,aa a 14]) fun x=>am (.tup [.agg (q8 (af x)),qi 2]))))))))
def K146_1(call:CC)(fx:bi AV)(a:List AV):M AV:=aD (aa a 2) (bB 56 (aa a 0) 2 9 fun b=>r7 b fun c=>jj 6 [] (.agg [aa a 9,aa a 10,b,aa a 12,aa a 13,aa a 14]) fun d=>am (.tup [.agg (q8 (af d)),qi 0])) (jn (K146_0 call fx) fun e=>bq .eql 3 (aa a 1) (qi 18) fun f=>aD f (e [aa a 0,aa a 1,f,aa a 3,aa a 4,aa a 5,aa a 6,aa a 7,aa a 8,aa a 9,aa a 10,aa a 11,aa a 12,aa a 13,aa a 14]) (bq .eql 3 (aa a 1) (qi 14) fun g=>e [aa a 0,aa a 1,g,aa a 3,aa a 4,aa a 5,aa a 6,aa a 7,aa a 8,aa a 9,aa a 10,aa a 11,aa a 12,aa a 13,aa a 14]))
def K146_2(call:CC)(fx:bi AV)(a:List AV):M AV:=aD (aa a 2) (bB 56 (aa a 0) 1 3 fun b=>r7 b fun c=>jj 6 [] (.agg [aa a 9,b,aa a 11,aa a 12,aa a 13,aa a 14]) fun d=>am (.tup [.agg (q8 (af d)),qi 0])) (jn (K146_1 call fx) fun e=>bq .eql 3 (aa a 1) (qi 2) fun f=>aD f (e [aa a 0,aa a 1,f,aa a 3,aa a 4,aa a 5,aa a 6,aa a 7,aa a 8,aa a 9,aa a 10,aa a 11,aa a 12,aa a 13,aa a 14]) (bq .eql 3 (aa a 1) (qi 17) fun g=>e [aa a 0,aa a 1,g,aa a 3,aa a 4,aa a 5,aa a 6,aa a 7,aa a 8,aa a 9,aa a 10,aa a 11,aa a 12,aa a 13,aa a 14]))
def S146(call:CC)(fx:bi AV)(a0:AV):M AV:=bB 56 (qc a0) 0 3 fun a=>bB 56 (qc a0) 5 24 fun b=>rJ false 56 [(0,a),(5,b)] fun c=>jj 6 [] c fun d=>bB 56 (qc a0) 0 3 fun e=>jn (K146_2 call fx) fun f=>bq .eql 3 e (qi 0) fun g=>aD g (f [qc a0,e,g,qi 0,qi 0,.str [],.str [],.sl [],.sl [],aa (af d) 0,aa (af d) 1,aa (af d) 2,aa (af d) 3,aa (af d) 4,aa (af d) 5]) (bq .eql 3 e (qi 1) fun h=>f [qc a0,e,h,qi 0,qi 0,.str [],.str [],.sl [],.sl [],aa (af d) 0,aa (af d) 1,aa (af d) 2,aa (af d) 3,aa (af d) 4,aa (af d) 5])
def C146(a0:AV):ab pg 146 [a0]=aP (S146 (ab pg) ak (cl aA a0)):=cY
def S171(call:CC)(fx:bi AV)(a0 a1 a2 a3 a4:AV):M AV:=dz a1 (bU 56 (qc a0) 1 3 fun a=>bX .eql 3 a (qi 0) fun b=>am [b]) fun c=>ap (bc c true 1 (am [a2])) fun d=>ap (bc (aa d 0) false 1 (bU 56 (qc a0) 2 9 fun e=>bX .eql 9 e (.str []) fun f=>am [f])) fun g=>dD c (yn (aa d 0) (.bool true) (aa g 0) fun h=>am [h]) fun i=>ap (bc i true 1 (am [a3])) fun j=>ap (bc (aa j 0) false 1 (bU 56 (qc a0) 3 9 fun k=>bX .eql 9 k (.str []) fun l=>am [l])) fun m=>dD i (yn (aa j 0) (.bool true) (aa m 0) fun n=>am [n]) fun o=>ap (bc o true 1 (am [a4])) fun p=>ap (bc (aa p 0) false 1 (bU 56 (qc a0) 4 22 fun q=>jz 22 q fun r=>bX .eql 3 r (qi 0) fun s=>am [s])) fun u=>dD o (yn (aa p 0) (.bool true) (aa u 0) fun v=>am [v]) fun w=>am w
def C171(a0 a1 a2 a3 a4:AV):ab pg 171 [a0,a1,a2,a3,a4]=aP (S171 (ab pg) ak (cl aA a0) (cl aA a1) (cl aA a2) (cl aA a3) (cl aA a4)):=cY
end
end Go.Proofs.YtighgcgmocboaaaGreatDoor
