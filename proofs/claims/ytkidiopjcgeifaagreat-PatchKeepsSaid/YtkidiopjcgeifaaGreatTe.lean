/- What the functions compute, part 5. Conditions: bounds. -/
import Derived.Test.YtkidiopjcgeifaaGreatTd
import Derived.Test.YtkidiopjcgeifaaGreatRows
import Derived.Shelf.Vars
import Derived.ProofKit
import Derived.Deep.DeepHandedRow
import Derived.Deep.DeepWitnessRowRef
import Derived.Deep.DeepLaidRun
set_option linter.defProp false
set_option linter.unusedSimpArgs false
set_option linter.unusedVariables false
namespace Go.Proofs.YtkidiopjcgeifaaGreat
open Go Go.Av Go.RowKit Go.Shelf
attribute [local go_sem] Oper.semAt_some
abbrev fk:=ByteArray×Int×(Option Addr×Nat×Nat)
def fk.k(x:fk):Value:=.int .i64 x.2.1
def fk.f(x:fk):Value:=.slice x.2.2.1 x.2.2.2.1 x.2.2.2.2
def Ls(x:fk):Value:=.agg #[.string x.1,x.k,x.f]
def back(zs:List fk)(k:Nat):List (Nat×fk):=(List.range k).map fun j=>(zs.length-1-j,zs[zs.length-1-j]?.getD default)
def AK(zs:List fk)(k:Nat):back zs (k+1)=back zs k++[(zs.length-1-k,zs[zs.length-1-k]?.getD default)]:=by simp[back,List.range_succ]
def Ep(zs:List fk)(k:Nat):(back zs k).length=k:=by simp[back]
def xd(W:World)(b off:Nat)(zs:List fk):Prop:=∀j,j<zs.length->W.cell? ⟨b,off+j*3,none⟩=some (.string (zs[j]?.getD default).1)/\W.cell? ⟨b,off+j*3+1,none⟩=some (zs[j]?.getD default).k/\W.cell? ⟨b,off+j*3+2,none⟩=some (zs[j]?.getD default).f
variable {zs:List fk}
def xd.below{n₀:Nat}{A B:World}(h:Below n₀ A B){b off:Nat}(hb:b<n₀)(c:xd A b off zs):xd B b off zs:=fun j hj=>by
 obtain⟨h1,h2,h3⟩:=c j hj;exact⟨(h.cell (p:=⟨b,_,none⟩) hb).trans h1,(h.cell (p:=⟨b,_,none⟩) hb).trans h2,(h.cell (p:=⟨b,_,none⟩) hb).trans h3⟩
set_option maxRecDepth 100000 in
set_option maxHeartbeats 2000000 in
def Vj(F:Fence)(n:Nat)(h7:F.fn 196)(hro:F.round=none)(hn:1<=n)(l Bs n₀ b off cap:Nat)(zs:List fk)(hreach:zs.length<=1000000000)(hb:b<n₀)(hBn:Bs<n₀)(J Jx:List (Nat×fk)->World->Prop)
  (hY:∀pre x W,J pre W->pre.length<zs.length->YieldAt F (n-1) Tryz.prog l #[.int .i64 (x.1:Int),Ls x.2] W fun e W'=>
   (e= .returned (.bool true)/\J (pre++[x]) W'/\Below n₀ W W')\/(e= .returned (.bool false)/\Jx (pre++[x]) W'))
  (W:World) (hBs:W.cell? ⟨Bs,0,none⟩=some (.slice (some ⟨b,off,none⟩) zs.length cap)) (hc:xd W b off zs) (h0:J [] W):
  CallsIn F n Tryz.prog 196 #[.func (.yield l) #[] #[],.pointer (some ⟨Bs,0,none⟩)] W fun e W'=>(∃v,e= .returned v)/\
   ((∃ys,ys=back zs zs.length/\J ys W')\/(∃pre,(∃k,k<=zs.length/\pre=back zs k)/\Jx pre W')):=by
 refine callsIn_of_wp Tryz.func196 rfl h7 ?_ hro;simp only[Tryz.ntmps196,adn,acR,acS,Nat.reduceAdd,Nat.reduceSub,adq,adr,adC,adw,acT,ac1]
 gi_wp2
 gi_loopw [3] (fun i wr=>∃k:Nat,k<=zs.length/\i= .int .i64 ((zs.length:Int)-1-k)/\J (back zs k) wr/\Below n₀ W wr)
  (fun i _=>(intOf i+1).toNat)
 case atStart=>exact⟨0,acU _,AI,h0,Below.refl _ _⟩
 case round=>
  obtain⟨k,hk,rfl,hJs,hnx⟩:=hrel;have hbs:wr.cell? ⟨Bs,0,none⟩=some (.slice (some ⟨b,off,none⟩) zs.length cap):=(hnx.cell (p:=⟨Bs,0,none⟩) hBn).trans hBs;by_cases hlt:k<zs.length
  ·obtain⟨fn,tmps,assign,body,hy,hR⟩:=hY _ (zs.length-1-k,zs[zs.length-1-k]?.getD default) wr hJs (by rw[Ep];exact hlt);dsimp only at hy;obtain⟨m,hm⟩:∃m:Nat,(zs.length:Int)-1-k=m:=⟨zs.length-1-k,WD⟩;have hm':zs.length-1-k=m:=WD
   rw[hm']at hy hR;rw[hm];obtain⟨c1,c2,c3⟩:=(hc.below hnx hb) m WD;generalize hz:zs[m]?.getD default=z at hy hR c1 c2 c3;obtain⟨z1,z2,z3,z4,z5⟩:=z;have hml:m<zs.length:=WD
   simp only[Ls,fk.k,fk.f]at hy c2 c3
   gi_wp2
   refine hR.mono ?_;rintro e W3 (⟨rfl,hJ3,hk3⟩|⟨rfl,hJx3⟩)
   ·gi_wp2
    go_roundw
    case rel=>exact⟨k+1,WD,by congr 1;omega,by rw[AK,hm',hz];exact hJ3,hnx.trans hk3⟩
    case measure=>simp[intOf]<;>omega
   ·gi_wp2
    refine bodyPost_ret (results_none rfl _ _ _) rfl ?_;exact⟨⟨_,rfl⟩,.inr ⟨_,⟨k+1,WD,by rw[AK,hm',hz]⟩,hJx3⟩⟩
  ·obtain rfl:k=zs.length:=WD
   gi_wp2
   go_end0
   exact⟨⟨_,rfl⟩,.inl ⟨_,rfl,hJs⟩⟩
set_option maxRecDepth 100000 in
set_option maxHeartbeats 1000000 in
def HR(F:Fence)(n:Nat)(h7:F.fn 196)(hro:F.round=none)(l Bs:Nat)(p:Option Addr)(cap:Nat)(J:List (Nat×fk)->World->Prop)(W:World)(hBs:W.cell? ⟨Bs,0,none⟩=some (.slice p 0 cap))(h0:J [] W):
  CallsIn F n Tryz.prog 196 #[.func (.yield l) #[] #[],.pointer (some ⟨Bs,0,none⟩)] W fun e W'=>(∃v,e= .returned v)/\J [] W':=by
 refine callsIn_of_wp Tryz.func196 rfl h7 ?_ hro;simp only[Tryz.ntmps196,adn,acR,acS,Nat.reduceAdd,Nat.reduceSub,adq,adr,adC,adw,acT,ac1]
 gi_wp2
 gi_loopw [3] (fun i wr=>i= .int .i64 (-1)/\J [] wr) (fun _ _=>0)
 case atStart=>exact⟨rfl,h0⟩
 case round=>
  obtain⟨rfl,hJs⟩:=hrel
  gi_wp2
  go_end0
  exact⟨⟨_,rfl⟩,hJs⟩
set_option maxHeartbeats 1000000 in
def Y4(F:Fence)(n:Nat)(h5:F.fn 134)(hro:F.round=none)(a:Option Addr)(len cap:Nat)(w:World):
  CallsIn F n Tryz.prog 134 #[.slice a len cap] w fun e w'=>e= .returned (.func (.func 196) #[] #[.pointer (some ⟨w.heap.size,0,none⟩)])/\w'=w.alloc (.cells #[.slice a len cap] 23):=by
 refine callsIn_of_wp Tryz.func134 rfl h5 ?_ hro;simp only[Tryz.ntmps134,adn,acR,acS,Nat.reduceAdd,Nat.reduceSub,adq,adr,adC,adw,acT,ac1]
 gi_wp2
 go_ret
 exact⟨rfl,rfl⟩
def sU(n₀:Nat)(W:World)(sv:Value)(zs:List fk):Prop:=
 (zs=[]/\∃p cap,sv= .slice p 0 cap)\/∃b off cap,sv= .slice (some ⟨b,off,none⟩) zs.length cap/\b<n₀/\xd W b off zs
theorem sU.below{n₀:Nat}{A B:World}(h:Below n₀ A B){sv:Value}:sU n₀ A sv zs->sU n₀ B sv zs
 |.inl e=>.inl e
 |.inr ⟨b,off,cap,e,hb,hc⟩=>.inr ⟨b,off,cap,e,hb,hc.below h hb⟩
variable {W:World}
theorem sU.mono{n n':Nat}(h:n<=n'){sv:Value}:sU n W sv zs->sU n' W sv zs
 |.inl e=>.inl e
 |.inr ⟨b,off,cap,e,hb,hc⟩=>.inr ⟨b,off,cap,e,Nat.lt_of_lt_of_le hb h,hc⟩
def Nz(F:Fence)(n:Nat)(h8:F.fn 196)(hro:F.round=none)(hn:1<=n)(Bs:Nat)(sv:Value)(zs:List fk)(hreach:zs.length<=1000000000)(w:World)(hBs:Bs<w.heap.size)(hc:w.cell? ⟨Bs,0,none⟩=some sv)(hI:sU w.heap.size w sv zs):
  SeqStopsK F n Tryz.prog 196 #[.pointer (some ⟨Bs,0,none⟩)] (fun x:Nat×fk=>#[Value.int .i64 (x.1:Int),Ls x.2]) (Below w.heap.size) (fun ys=>ys=back zs zs.length)
   (fun pre=>∃k,k<=zs.length/\pre=back zs k) zs.length w:=fun l J Jx W hW _ _ hY h0=>by
 have hc':=(hW.cell (p:=⟨Bs,0,none⟩) hBs).trans hc;rcases hI.below hW with⟨rfl,p,cap,rfl⟩|⟨b,off,cap,rfl,hb,hcs⟩
 ·exact (HR F n h8 hro l Bs p cap J W hc' h0).mono fun e W' ⟨he,hj⟩=>⟨he,.inl ⟨_,rfl,hj⟩⟩
 ·exact Vj F n h8 hro hn l Bs w.heap.size b off cap zs hreach hb hBs J Jx hY W hc' hcs h0
def uL(zs:List fk)(x:ByteArray):Option fk:=zs.reverse.find? fun z=>decide (z.1=x)
def Da(zs:List fk)(x:ByteArray)(z0 z1:Value):Value:=match uL zs x with
 |some z=>.tuple #[.agg #[z.k,z.f],.bool true]
 |none=>.tuple #[.agg #[z0,z1],.bool false]
def Er(zs:List fk){k:Nat}(hk:k<=zs.length):(back zs k).map (·.2)=zs.reverse.take k:=by
 apply aee
 ·simp[back,hk]
 ·intro i h1 h2;have hi:i<k:=by simpa [back]using h1
  have h3:zs.length-1-i<zs.length:=WD
  simp[back,h3]
def Fv{x:ByteArray}(h:∀p∈back zs zs.length,p.2.1≠x):uL zs x=none:=by
 unfold uL;rw[aeC];intro z hz;have hm:=Er zs (acC _);rw[adY AI]at hm;rw[<- hm]at hz;obtain⟨p,hp,rfl⟩:=adj.1 hz;simpa using h p hp
def Fw{x:ByteArray}{k:Nat}(hk:k<=zs.length){ini:List (Nat×fk)}{last:Nat×fk}(e1:back zs k=ini++[last])(e2:∀p∈ini,p.2.1≠x)(e3:last.2.1=x):uL zs x=some last.2:=by
 have hm:=Er zs hk;rw[e1,adO]at hm;unfold uL;rw[<- List.take_append_drop k zs.reverse,<- hm,aec,aeE];have h1:(ini.map (·.2)).find? (fun z=>decide (z.1=x))=none:=by
  rw[aeC];intro z hz;obtain⟨p,hp,rfl⟩:=adj.1 hz;simpa using e2 p hp
 rw[h1];simp[e3]
def ee(W:World)(B:Nat)(t:TypeId)(cs:Array Value):Prop:=W.heap[B]? = some (.cells cs t (0,0))
variable {cs:Array Value}{B:Nat}{t:TypeId}
def ee.lt(h:ee W B t cs):B<W.heap.size:=(acN.1 h).1
def ee.cell(h:ee W B t cs)(o:Nat):W.cell? ⟨B,o,none⟩=cs[o]?:=by simp[World.cell?,show W.heap[B]? = _ from h]
def ee.frozen(h:ee W B t cs)(o:Nat):W.frozen? ⟨B,o,none⟩=false:=by simp[World.frozen?,show W.heap[B]? = _ from h]
def ee.new(W:World)(t:TypeId)(cs:Array Value):ee (W.alloc (.cells cs t)) W.heap.size t cs:=World.alloc_heap_new W _
def ee.kept{W':World}{row:Option Nat}(h:ee W B t cs)(hg:W.grownBy W' row)(hne:some B≠row):ee W' B t cs:=(hg.block B h.lt hne).trans h
def ee.alloc(h:ee W B t cs)(o:Obj):ee (W.alloc o) B t cs:=h.kept (World.grownBy_alloc W o none) AI
def ee.put(h:ee W B t cs){l:Nat}{o:Obj}(o':Obj)(hl:W.heap[l]? = some o)(ho:o.isCells=false):ee (W.putObj l o') B t cs:=
 h.kept (grownBy_putObj' W l o') (fun e=>by cases e;rw[show W.heap[B]? = _ from h]at hl;cases hl;cases ho)
def Ac(W:World)(b o:Nat)(v:Value):W.grownBy (W.setCell ⟨b,o,none⟩ v) (some b):=
 ⟨rfl,rfl,rfl,(KeepsWalks.setCell W _ v).size,fun k _ hk=>Below.heap_setCell _ _ _ k (fun e=>hk (by rw[e]))⟩
def ee.other{B' o:Nat}(h:ee W B t cs)(hne:B≠B')(u:Value):ee (W.setCell ⟨B',o,none⟩ u) B t cs:=h.kept (Ac W B' o u) (fun e=>hne (by cases e;rfl))
def ee.set(h:ee W B t cs)(o:Nat)(v:Value):ee (W.setCell ⟨B,o,none⟩ v) B t (cs.setIfInBounds o v):=by
 obtain⟨hlt,hk⟩:=acN.1 h;show (W.heap.modify B _)[B]? = _;rw[adf (by rw[Array.size_modify];exact hlt),Array.getElem_modify_self,hk];rfl
def Mk{x y:ByteArray}(h:(x.toList== y.toList)=true):x=y:=by
 have:=ada.1 h
 rw[ByteArray.toList_eq,ByteArray.toList_eq]at this;exact ByteArray.ext (Array.ext' this)
def Ml{x y:ByteArray}(h:(x.toList== y.toList)=false):x≠y:=by
 rintro rfl;simp at h
def kw{β:Type}(B:Nat)(t:TypeId)(f:β->Array Value):Own (fun s W=>ee W B t (f s)):=fun s X Y row hs hg hrow=>
 hs.kept hg (fun e'=>by obtain⟨o,ho,hc⟩:=hrow B e'.symm;rw[show X.heap[B]? = _ from hs]at ho;cases ho;cases hc)
set_option maxRecDepth 100000 in
set_option maxHeartbeats 4000000 in
def Qd(F:Fence)(n:Nat)(h3:F.fn 76)(h5:F.fn 134)(h7:F.fn 196)(hro:F.round=none)(hn:3<=n)(a:Option Addr)(len cap:Nat)(x:ByteArray)(zs:List fk)(hreach:zs.length<=1000000000)(w:World)(hI:sU w.heap.size w (.slice a len cap) zs):
  CallsIn F n Tryz.prog 76 #[.slice a len cap,.string x] w fun e W'=>e= .returned (Da zs x (.int .i64 0) (.slice none 0 0))/\Below w.heap.size w W':=by
 have h1:1<=n:=WD
 refine callsIn_of_wp_marks Tryz.func76 rfl h3 ?_ hro;simp only[Tryz.ntmps76,adn,acR,acS,Nat.reduceAdd,Nat.reduceSub,adq,adr,adC,adw,acT,ac1]
 gi_wp2_with (gi_at_call 134;refine (Y4 F (n-1) h5 hro _ _ _ _).mono ?_;rintro e w' ⟨rfl,rfl⟩)
 have b0:=(((ee.new w 9 #[.string x]).alloc (.cells #[.int .i64 0,.slice none 0 0] 52)).alloc (.cells #[.bool false] 4)).alloc (.cells #[.slice a len cap] 23);have b1:=((ee.new (w.alloc (.cells #[.string x] 9)) 52 #[.int .i64 0,.slice none 0 0]).alloc (.cells #[.bool false] 4)).alloc (.cells #[.slice a len cap] 23);have b2:=(ee.new ((w.alloc (.cells #[.string x] 9)).alloc (.cells #[.int .i64 0,.slice none 0 0] 52)) 4 #[.bool false]).alloc (.cells #[.slice a len cap] 23);have b3:=ee.new (((w.alloc (.cells #[.string x] 9)).alloc (.cells #[.int .i64 0,.slice none 0 0] 52)).alloc (.cells #[.bool false] 4)) 23 #[.slice a len cap];simp only[World.size_alloc]at b1 b2 b3;have hB0:Below w.heap.size w ((((w.alloc (.cells #[.string x] 9)).alloc (.cells #[.int .i64 0,.slice none 0 0] 52)).alloc (.cells #[.bool false] 4)).alloc (.cells #[.slice a len cap] 23)):=
  ((((Below.refl _ w).alloc (acC _) _).alloc AI _).alloc Bk _).alloc Bk _
 have hsz:((((w.alloc (.cells #[.string x] 9)).alloc (.cells #[.int .i64 0,.slice none 0 0] 52)).alloc (.cells #[.bool false] 4)).alloc (.cells #[.slice a len cap] 23)).heap.size=w.heap.size+4:=AI
 obtain⟨W0,hW0⟩:∃W0,((((w.alloc (.cells #[.string x] 9)).alloc (.cells #[.int .i64 0,.slice none 0 0] 52)).alloc (.cells #[.bool false] 4)).alloc (.cells #[.slice a len cap] 23))=W0:=⟨_,rfl⟩;rw[hW0]at b0 b1 b2 b3 hB0 hsz |-;clear hW0;refine wpIn_rangeFunc_ownH hro h1 (gf:=196) (lb:=#[.pointer (some ⟨w.heap.size+1+1+1,0,none⟩)]) rfl h7 (enters_of Tryz.func196 BT rfl)
  (Nz F (n-1) h7 hro WD (w.heap.size+1+1+1) _ zs hreach W0 WD (b3.cell 0) ((hI.below hB0).mono WD)) belowK_t (belowK_b (acC _)) (Below.refl _ _) (fun _=>rfl)
  (fun pre W=>(∀p∈pre,p.2.1≠x)/\(ee W w.heap.size 9 #[.string x]/\ee W (w.heap.size+1) 52 #[.int .i64 0,.slice none 0 0]/\ee W (w.heap.size+1+1) 4 #[.bool false]/\ee W (w.heap.size+1+1+1) 23 #[.slice a len cap])/\Below w.heap.size w W)
  (fun c pre W=>(c= .ret/\∃ini last,pre=ini++[last]/\(∀p∈ini,p.2.1≠x)/\last.2.1=x/\ee W (w.heap.size+1) 52 #[last.2.k,last.2.f]/\ee W (w.heap.size+1+1) 4 #[.bool true])/\Below w.heap.size w W)
  ?hI ?hIx ⟨fun _ h=>(by cases h),⟨b0,b1,b2,b3⟩,hB0⟩
  (fun y a' W=>∃Bx,ee W Bx 79 #[.string y.2.1,y.2.k,y.2.f]/\a'= { tmps:=#[.slice a len cap,.string x,undef,.pointer (some ⟨w.heap.size,0,none⟩),.pointer (some ⟨w.heap.size+1,0,none⟩),.pointer (some ⟨w.heap.size+1+1,0,none⟩),undef,.pointer (some ⟨Bx,0,none⟩),.slice a len cap,.func (.func 196) #[] #[.pointer (some ⟨w.heap.size+1+1+1,0,none⟩)],.int .i64 (y.1:Int),Ls y.2,undef,undef,undef,undef,undef,undef,undef],defers:=[] })
  (fun y a' _ X Y row hs hg hr=>by obtain⟨Bx,h2,h3⟩:=hs;exact⟨Bx,kw Bx 79 (fun(_:Unit)=>#[Value.string y.2.1,y.2.k,y.2.f]) () X Y row h2 hg (fun r e=>(hr r e).2),h3⟩)
  ?assign ?body ?done ?stop
 case hI=>exact OwnFrom.and (ownFrom_pure _ _) (OwnFrom.and (OwnFrom.and (Own.from (kw _ _ _) _) (OwnFrom.and (Own.from (kw _ _ _) _) (OwnFrom.and (Own.from (kw _ _ _) _) (Own.from (kw _ _ _) _)))) (ownFrom_below (acC _) WD))
 case hIx=>
  intro c;refine OwnFrom.and (Own.from (fun s A B row hs hg hr=>?_) _) (ownFrom_below (acC _) WD);obtain⟨hc,ini,last,e1,e2,e3,e4,e5⟩:=hs;exact⟨hc,ini,last,e1,e2,e3,kw _ _ (fun(_:Unit)=>#[last.2.k,last.2.f]) () A B row e4 hg hr,kw _ _ (fun(_:Unit)=>#[Value.bool true]) () A B row e5 hg hr⟩
 case assign=>
  rintro l pre y W K ⟨hp,⟨r0,r1,r2,r3⟩,hB⟩ hK;obtain⟨yi,y1,y2,y3,y4,y5⟩:=y;simp only[Ls,fk.k,fk.f]at hK |-
  gi_wp2
  exact hK _ _ ((KeepsOthers.alloc _ _).from _) ((Below.refl _ W).alloc (by have:=r3.lt;omega) _) ⟨hp,⟨r0.alloc _,r1.alloc _,r2.alloc _,r3.alloc _⟩,hB.alloc hB.size _⟩ ⟨W.heap.size,ee.new W _ _,rfl⟩
 case body=>
  rintro l pre y a' W hl ⟨r,hr⟩ ⟨hp,⟨r0,r1,r2,r3⟩,hB⟩ ⟨Bx,rx,rfl⟩ hlt;obtain⟨yi,y1,y2,y3,y4,y5⟩:=y;simp only[Ls,fk.k,fk.f]at rx |-;have c0:=r0.cell 0;have zR:=rx.cell 0;have cx1:=rx.cell 1;have cx2:=rx.cell 2;have f10:=r1.frozen 0;have f11:=r1.frozen 1;have f20:=r2.frozen 0;have c10:=r1.cell 0;have c11:=r1.cell 1;have c20:=r2.cell 0;simp at c0 zR cx1 cx2 c10 c11 c20
  gi_wp2
  ·have hx:y1=x:=Mk (by assumption);have r1':=((r1.set 0 (.int .i64 y2)).set 1 (.slice y3 y4 y5)).other (B':=w.heap.size+1+1) (o:=0) WD (.bool true);have r2':=((r2.other (B':=w.heap.size+1) (o:=0) WD (.int .i64 y2)).other (B':=w.heap.size+1) (o:=1) WD (.slice y3 y4 y5)).set 0 (.bool true);exact⟨(((KeepsOthers.setCell _ _ _).trans (KeepsOthers.setCell _ _ _)).trans (KeepsOthers.setCell _ _ _)).from _,⟨rfl,pre,(yi,y1,y2,y3,y4,y5),rfl,hp,hx,r1',r2'⟩,
    ((hB.setCell (p:=⟨w.heap.size+1,0,none⟩) AI _).setCell (p:=⟨w.heap.size+1,1,none⟩) AI _).setCell (p:=⟨w.heap.size+1+1,0,none⟩) Bk _⟩
  ·have hx:y1≠x:=Ml (by assumption);exact⟨KeepsFrom.refl _ _,Below.refl _ _,fun p hp'=>(acZ.1 hp').elim (hp p) (fun e=>by simp at e;subst e;exact hx),⟨r0,r1,r2,r3⟩,hB⟩
 case done=>
  rintro D ys W hD rfl ⟨hne,⟨r0,r1,r2,r3⟩,hB⟩ hK;have f10:=r1.frozen 0;have f11:=r1.frozen 1;have f20:=r2.frozen 0;have c10:=r1.cell 0;have c11:=r1.cell 1;have c20:=r2.cell 0;simp at c10 c11 c20
  gi_wp2
  have r1':=((r1.set 0 (.int .i64 0)).set 1 (.slice none 0 0)).other (B':=w.heap.size+1+1) (o:=0) WD (.bool false);have r2':=((r2.other (B':=w.heap.size+1) (o:=0) WD (.int .i64 0)).other (B':=w.heap.size+1) (o:=1) WD (.slice none 0 0)).set 0 (.bool false);have hB':=((hB.setCell (p:=⟨w.heap.size+1,0,none⟩) AI (.int .i64 0)).setCell (p:=⟨w.heap.size+1,1,none⟩) AI (.slice none 0 0)).setCell (p:=⟨w.heap.size+1+1,0,none⟩) Bk (.bool false);have hK':=(((KeepsOthers.setCell W ⟨w.heap.size+1,0,none⟩ (.int .i64 0)).trans (KeepsOthers.setCell _ ⟨w.heap.size+1,1,none⟩ (.slice none 0 0))).trans (KeepsOthers.setCell _ ⟨w.heap.size+1+1,0,none⟩ (.bool false))).same D _ hK rfl;refine⟨AI,.inl ⟨_,_,rfl,run_takeDeferred hK',?_⟩⟩;have VQ:=(r1'.put (.deferred none) hK' rfl).cell 0;have q11:=(r1'.put (.deferred none) hK' rfl).cell 1;have q20:=(r2'.put (.deferred none) hK' rfl).cell 0;simp at VQ q11 q20;refine⟨.tuple #[.agg #[.int .i64 0,.slice none 0 0],.bool false],?_,?_,hB'.trans (belowK_b (w:=w) (acC _) _ D _ _ WD hK' rfl rfl)⟩
  rotate_left
  ·unfold Da;rw[Fv hne]
  ·simp[results,Tryz.f76,go_sem,VQ,q11,q20]
 case stop=>
  rintro D c pre W hD ⟨k,hk,rfl⟩ ⟨⟨rfl,ini,last,e1,e2,e3,r1,r2⟩,hB⟩ hK
  gi_wp2
  refine⟨AI,.inl ⟨_,_,rfl,run_takeDeferred hK,?_⟩⟩;have VQ:=(r1.put (.deferred none) hK rfl).cell 0;have q11:=(r1.put (.deferred none) hK rfl).cell 1;have q20:=(r2.put (.deferred none) hK rfl).cell 0;simp at VQ q11 q20;refine⟨.tuple #[.agg #[last.2.k,last.2.f],.bool true],?_,?_,hB.trans (belowK_b (w:=w) (acC _) W D _ _ WD hK rfl rfl)⟩
  rotate_left
  ·unfold Da;rw[Fw hk e1 e2 e3]
  ·simp[results,Tryz.f76,go_sem,VQ,q11,q20]
end Go.Proofs.YtkidiopjcgeifaaGreat
namespace Go.Proofs.YtkidiopjcgeifaaGreat
open Go Go.Av Go.RowKit
set_option maxRecDepth 100000
def WB(S:az)(β:List bQ)(y:List UInt8×Int×List AV)(z:fk):Prop:=z.1.data.toList=y.1/\z.2.1=y.2.1/\VR S β (.sl y.2.2) z.f
def pL(S:az)(β:List bQ):List (List UInt8×Int×List AV)->List fk->Prop
 |[],zs=>zs=[]
 |y:: l,zs=>∃z r,zs=z:: r/\WB S β y z/\pL S β l r
theorem pL.length{S:az}{β:List bQ}:{l:List (List UInt8×Int×List AV)} ->{zs:List fk} ->pL S β l zs->zs.length=l.length
 |[],_,h=>by simp only[pL]at h;simp[h]
 |y:: l,zs,h=>by
  simp only[pL]at h;obtain⟨z,r,rfl,_,h⟩:=h;simp[pL.length h]
def KF{e:AV}{y:List UInt8×Int×List AV}(h:EV e=some y):e= .agg [.str y.1,qi y.2.1,.sl y.2.2]:=by
 unfold EV at h
 grind
theorem YD{S:az}{β:List bQ}{b sz:Nat}:(es:List AV)->(off:Nat)->(l:List (List UInt8×Int×List AV))->cr S β es b off sz->kl es=some l->
  ∃zs:List fk,pL S β l zs/\∀j,j<zs.length->S b (off+j*3)=some (.string (zs[j]?.getD default).1)/\S b (off+j*3+1)=some (zs[j]?.getD default).k/\S b (off+j*3+2)=some (zs[j]?.getD default).f
 |[],off,l,_,h=>by
  simp only[kl,acz]at h;subst h;exact⟨[],rfl,fun j hj=>by simp at hj⟩
 | e:: es,off,l,he,h=>by
  simp only[kl]at h;cases h1:EV e with
  |none=>grind
  | some y=>
   cases h2:kl es with
   |none=>grind
   |some l'=>
    rw[h1,h2]at h;simp only[acz]at h;subst h;simp only[cr]at he;obtain⟨⟨v,hv,hs,hc⟩,he⟩:=he
    have:=KF h1
    subst this;simp only[VR,be]at hv;obtain⟨vs,rfl,_,_,rfl,⟨x,rfl,hx⟩,_,_,rfl,rfl,v3,_,rfl,hv3,rfl⟩:=hv;obtain⟨p,cap,hp,hq1,hq2,hq3⟩:=hv3;subst hp;have hsz:sz=3:=by rw[<- hs];rfl
    subst hsz;obtain⟨zs,hR,hZ⟩:=YD es (off+3) l' he h2;have c0:=hc 0 _ rfl;have c1:=hc 1 _ rfl;have c2:=hc 2 _ rfl;refine⟨(x,y.2.1,(p,y.2.2.length,cap)):: zs,⟨_,_,rfl,⟨hx,rfl,by simp only[fk.f,VR];grind⟩,hR⟩,fun j hj=>?_⟩
    grind [fk.k,fk.f]
theorem tG{S:az}{β:List bQ}{x:ByteArray}{name:List UInt8}(hx:x.data.toList=name):{l:List (List UInt8×Int×List AV)} ->{zs:List fk} ->pL S β l zs->
  (dN (fun z=>z.1== name) l=none/\dN (fun z:fk=>decide (z.1=x)) zs=none)\/∃y z,dN (fun z=>z.1== name) l=some y/\dN (fun z:fk=>decide (z.1=x)) zs=some z/\WB S β y z
 |[],zs,h=>by simp only[pL]at h;subst h;exact .inl ⟨rfl,rfl⟩
 | y:: l,zs,h=>by
  simp only[pL]at h;obtain⟨z,r,rfl,hz,h⟩:=h;rcases tG hx h with⟨h1,h2⟩|⟨y',z',h1,h2,h3⟩
  ·have he:(y.1== name)=decide (z.1=x):=by
    rw[<- hz.1,<- hx];by_cases h:z.1=x
    ·subst h;simp
    ·grind [ByteArray.ext,Array.ext']
   simp only[dN,h1,h2,he]
   grind
  ·simp only[dN,h1,h2]
   grind
def Zi(call:FuncId->List AV->M AV)(args:List AV)(h:Hp)(S:az)(β:List bQ)(w:World)(vs:List Value)(hr:qZ call args h≠.fail)(hg:xg S β h w)(hw:Wf S w)(hh:dm S β w h)(hv:be S β args vs):
  Calls Tryz.prog 76 vs.toArray w (eS none S β h w (qZ call args h)):=by
 unfold qZ at hr |-;split at hr
 ·rename_i es name;cases hl:kl es with
  |none=>rw[hl]at hr;exact absurd rfl hr
  | some l=>
   rw[hl]at hr;simp only at hr |-;cases hc:decide (l.length<=1000000000)with
   |false=>rw[hc]at hr;exact absurd rfl hr
   | true=>
    simp only[acD];simp only[be,VR]at hv;obtain⟨_,_,rfl,⟨a,cap,rfl,hle,hnil,hq⟩,_,_,rfl,⟨x,rfl,hx⟩,rfl⟩:=hv;have hlen:∀(es:List AV)(l:List (List UInt8×Int×List AV)),kl es=some l->l.length=es.length:=by
     intro es
     induction es with
     |nil=>grind [kl]
     |cons e es ih=>
      grind [kl]
    have hll:=hlen es l hl;have hz:∃zs:List fk,pL S β l zs/\sU w.heap.size w (.slice a zs.length cap) zs:=by
     cases es with
     |nil=>
      simp only[kl,acz]at hl;subst hl;exact⟨[],rfl,.inl ⟨rfl,a,cap,rfl⟩⟩
     | cons e es=>
      cases a with
      |none=>grind
      | some q=>
       obtain⟨hs,sz,hE⟩:=hq q rfl;have hcap:0<cap:=by simp at hle;omega
       obtain⟨b,off,sp⟩:=q;have hs':sp=none:=hs hcap;subst hs';obtain⟨zs,hR,hZ⟩:=YD (e:: es) off l hE hl;refine⟨zs,hR,.inr ⟨b,off,cap,rfl,?_,fun j hj=>?_⟩⟩
       ·have h0:=(hZ 0 (by rw[hR.length,hll];simp)).1;exact hw.lt h0
       ·obtain⟨h1,h2,h3⟩:=hZ j hj;exact⟨hw _ _ _ h1,hw _ _ _ h2,hw _ _ _ h3⟩
    obtain⟨zs,hR,hF⟩:=hz;have hzl:=hR.length;rw[show es.length=zs.length by omega];refine (callsIn_wide (n:=3)).1 ((Qd Fence.wide 3 trivial trivial trivial rfl WD a zs.length cap x zs qr w hF).mono ?_);rintro e w' ⟨rfl,hb⟩;refine gX hw hh hb Ak ?_;unfold Da HU uL;rw[<- Ag];rcases tG hx hR with⟨h1,h2⟩|⟨y,z,h1,h2,h3⟩
    ·rw[h1,h2];simp only[VR,be];exact⟨_,rfl,_,_,rfl,⟨_,rfl,_,_,rfl,rfl,_,_,rfl,⟨none,0,rfl,acC _,fun _=>rfl,fun q hq=>by cases hq⟩,rfl⟩,_,_,rfl,rfl,rfl⟩
    ·rw[h1,h2];obtain⟨_,h4,h5⟩:=h3;simp only[VR,be];exact⟨_,rfl,_,_,rfl,⟨_,rfl,_,_,rfl,by rw[<- h4];rfl,_,_,rfl,h5,rfl⟩,_,_,rfl,rfl,rfl⟩
 ·exact absurd rfl hr
end Go.Proofs.YtkidiopjcgeifaaGreat
namespace Go.Proofs.YtkidiopjcgeifaaGreat.D
open Go Go.Av Go.Av.Ap
set_option maxRecDepth 100000
noncomputable def pg:Pg:={ T:=T,funcs:=xV sO,own:=own,other:=fun _=>none }
def hOther:ek pg:=fun f E h=>by cases h
def E86(call:FuncId->List AV->M AV)(fx:jW AV)(a0:AV):cj (pg.cx call Tryz.f86.ntmps L4) fx Tryz.f86 (own 86) [a0]=S86 call fx a0:=BT
def C86(a0:AV):aa pg 86 [a0]=aF (S86 (aa pg) ae (cl ai a0)):=(fw hOther rfl rfl rfl _).trans (acY aF (E86 _ _ (cl ai a0)))
def E36(call:FuncId->List AV->M AV)(fx:jW AV)(a0 a1:AV):cj (pg.cx call Tryz.f36.ntmps L3) fx Tryz.f36 (own 36) [a0,a1]=S36 call fx a0 a1:=BT
def C36(a0 a1:AV):aa pg 36 [a0,a1]=aF (S36 (aa pg) ae (cl ai a0) (cl ai a1)):=(fw hOther rfl rfl rfl _).trans (acY aF (E36 _ _ (cl ai a0) (cl ai a1)))
def E35(call:FuncId->List AV->M AV)(fx:jW AV)(a0 a1:AV):cj (pg.cx call Tryz.f35.ntmps RB) fx Tryz.f35 (own 35) [a0,a1]=S35 call fx a0 a1:=BT
def C35(a0 a1:AV):aa pg 35 [a0,a1]=aF (S35 (aa pg) ae (cl ai a0) (cl ai a1)):=(fw hOther rfl rfl rfl _).trans (acY aF (E35 _ _ (cl ai a0) (cl ai a1)))
@[simp] theorem JU(t:Nat)(a b:aA):bN T .gtr t (.str a) (.str b)=some (.bool !(aU a b||a== b)):=rfl
theorem t86(s:aA):aa pg 86 [.str s]=ao (.bool false):=by
 rw[C86];have e:bN T .neq 9 (.str s) (.str s)=some (.bool !(s== s)):=rfl;simp[S86,e]
def t36(a b:aA):aa pg 36 [.str a,.str b]=ao (.int .i64 (uy a b)):=by
 rw[C36];unfold uy;cases h1:aU a b with
 |true=>simp[S36,t86,h1]
 |false=>
  by_cases h2:a=b
  all_goals simp_all[S36,t86,kL]
def t35(a b:aA)(x1 x2 x3 x4 y1 y2 y3 y4:AV):aa pg 35 [.agg [.str a,x1,x2,x3,x4],.agg [.str b,y1,y2,y3,y4]]=ao (.int .i64 (uy a b)):=by
 rw[C35];have f0:∀cs,ar T 101 (.ip cs) 0=some (.ip (cs.drop 0)):=fun cs=>rfl;have l0:∀(s:aA)(cs:List AV),ay T 9 (.ip (.str s:: cs))=some (.str s):=fun s cs=>rfl;simp_all[S35,cl,eB,t36]
def good:@GoodPg ⟨True⟩ Tryz.prog pg:=by
 letI:Dr:=⟨True⟩
 exact⟨tok,yp,(fun f E h=>by cases h),(fun f h=>by cases h)⟩
end Go.Proofs.YtkidiopjcgeifaaGreat.D
namespace Go.Proofs.YtkidiopjcgeifaaGreat
open Go Go.Av Go.Av.Ap Go.RowKit Go.Sort
set_option maxRecDepth 1000000
def ab5(keys:List aA)(n:Nat):SWO (ltOf (OW keys n)):=by
 have h:∀i j,ltOf (OW keys n) i j=aU keys[i % n]! keys[j % n]!:=fun i j=>by
  unfold ltOf OW uy
  grind
 refine⟨fun x=>?_,fun x y z=>?_,fun x y z=>?_⟩
 ·rw[h,na]
 ·grind [iS]
 ·rw[h,h,h];intro h1 h2;cases h3:aU keys[x % n]! keys[z % n]! with
  |false=>rfl
  |true=>
   grind [iS,kL]
def KQ{ev:Nat->List Value}{k:Nat}{w:World}(hg:GOKw w){blk off n:Nat}{d:Array Nat}{os:Array Obj}(hb:gN<=blk):GOKw (sortWorldK ev k w blk off n d os):=
 hg.mono fun b hlt=>m9 ev k off n d os (Nat.lt_of_lt_of_le hlt hg.lt) WD
def MG:∀args w,(callFunc 35 args).run Tryz.prog w= .ok (.enter 35 args) w:=enters_of Tryz.func35 BT rfl
def Yt(a b:aA)(u v:List Value)(hu:∃(x:ByteArray)(r:List Value),u= .string x:: r/\x.data.toList=a)(hv:∃(x:ByteArray)(r:List Value),v= .string x:: r/\x.data.toList=b)(lu:u.length=5)(lv:v.length=5)(W:World)(hg:GOKw W):
  Calls Tryz.prog 35 #[.agg u.toArray,.agg v.toArray] W fun e w'=>e= .returned (.int .i64 (uy a b))/\∃q os',w'=grow (W.drewN q) os':=by
 letI:Dr:=⟨True⟩
 have hs:∀(s:aA)(u:List Value),(∃(x:ByteArray)(r:List Value),u= .string x:: r/\x.data.toList=s)->u.length=5->VR (nf W) [] (.agg [.str s,.any,.any,.any,.any]) (.agg u.toArray):=by
  rintro s u ⟨x,r,rfl,hx⟩ hl;obtain⟨r1,r2,r3,r4,rfl⟩:∃r1 r2 r3 r4,r=[r1,r2,r3,r4]:=by
   match r,hl with
   |[r1,r2,r3,r4],_=>grind
  simp only[VR];refine⟨_,rfl,?_⟩;simp only[be,VR];exact⟨_,_,rfl,⟨x,rfl,hx⟩,_,_,rfl,trivial,_,_,rfl,trivial,_,_,rfl,trivial,_,_,rfl,trivial,rfl⟩
 have hv2:be (nf W) [] [.agg [.str a,.any,.any,.any,.any],.agg [.str b,.any,.any,.any,.any]] [.agg u.toArray,.agg v.toArray]:=by
  simp only[be];exact⟨_,_,rfl,hs a u hu lu,_,_,rfl,hs b v hv lv,rfl⟩
 have h:=(nn D.good D.hOther 35 [.agg [.str a,.any,.any,.any,.any],.agg [.str b,.any,.any,.any,.any]] [] (nf W) [] W _ (by rw[D.t35];simp[ao]) ⟨hg,fun b _ ho=>by obtain⟨l,_,_,h1,_⟩:=ho;simp at h1,DW hg⟩ (fun _ _ _ h=>h) ⟨rfl,fun _=>.no,fun l cs hl=>by simp at hl⟩ hv2).1;rw[D.t35]at h;refine h.mono fun e w' hp=>?_;obtain⟨S',β',v,rfl,hv,L,_⟩:=hp;simp only[VR]at hv;subst hv;exact⟨rfl,L.grew trivial⟩
def SD:∀w,(isAgg 101).run Tryz.prog w= .ok true w:=fun w=>BT
def Q7:∀w,(Go.sizeOf 101).run Tryz.prog w= .ok 5 w:=fun w=>BT
theorem Gt(w:World)(blk off cap:Nat)(keys:List aA)(ev:Nat->List Value)(_h0:0<keys.length)(hl:∀i,(ev i).length=5)(h1:∀i,∀v∈ev i,v.oneCell'=true)(hk:∀i,∃(x:ByteArray)(r:List Value),ev i= .string x:: r/\x.data.toList=keys[i % keys.length]!)(hg:GOKw w)(hb:gN<=blk)(hH:HoldsK ev 5 w blk off (Array.range keys.length))(hlt:blk<w.heap.size)(hsz:keys.length<4611686018427387904):
  Calls Tryz.prog 34 #[.slice (some ⟨blk,off,none⟩) keys.length cap,.func (.func 35) #[] #[]] w fun e w'=>e= .returned (.tuple #[])/\∃n os,w'=sortWorldK ev 5 w blk off n (jZ keys).toArray os:=by
 have:=AnyQ.slices_SortFunc_eq abP 5 SD Q7 ev hl h1 (OW keys keys.length) (ab5 keys keys.length) 35 #[] blk off cap (Array.range keys.length) w MG
  (fun m os dk _ x y=>Yt _ _ _ _ (hk x) (hk y) (hl x) (hl y) _ (KQ hg hb)) hH hlt (by simpa using hsz)
 rw[Array.size_range]at this;refine this.mono ?_;simp_all[jZ]
def Zf(call:FuncId->List AV->M AV)(args:List AV)(h:Hp)(S:az)(β:List bQ)(w:World)(vs:List Value)(hr:km 5 35 call args h≠.fail)(hg:xg S β h w)(hw:Wf S w)(hh:dm S β w h)(hv:be S β args vs):
  Calls Tryz.prog 34 vs.toArray w (eS none S β h w (km 5 35 call args h)):=by
 have h0:=hr;unfold km at hr;split at hr
 ·rename_i g';cases hb:Nat.beq g' 35 with
  |false=>grind
  |true=>
   have e:km 5 35 call [.sl [],.fn (.func g') [] []] h= .ok (.tup []) h:=by simp only[km,hb,acD]
   rw[e];simp only[be,VR,acS]at hv;obtain⟨_,_,rfl,⟨a,cap,rfl,_⟩,v,_,rfl,_,rfl⟩:=hv;refine (AnyF.slices_SortFunc_none abP a cap v w).mono ?_;rintro e' w' ⟨rfl,rfl⟩;exact gX hw hh (Below.refl _ _) Ak (by simp only[VR,be];grind)
 ·rename_i g';cases hb:Nat.beq g' 35 with
  |false=>grind
  |true=>
   have e:km 5 35 call [.hn,.fn (.func g') [] []] h= .ok (.tup []) h:=by simp only[km,hb,acD]
   rw[e];simp only[be,VR]at hv;obtain⟨_,_,rfl,rfl,v,_,rfl,_,rfl⟩:=hv;refine (AnyF.slices_SortFunc_none abP none 0 v w).mono ?_;rintro e' w' ⟨rfl,rfl⟩;exact gX hw hh (Below.refl _ _) Ak (by simp only[VR,be];grind)
 ·grind [Nc,Gt]
 grind
end Go.Proofs.YtkidiopjcgeifaaGreat
namespace Go.Proofs.YtkidiopjcgeifaaGreat
open Go Go.Av Go.Av.Ap Go.RowKit
set_option maxRecDepth 1000000
theorem jV(z:Array Value)(n:Nat):(Builtin.zeroCells z n).size=n*z.size:=by
 simp[Builtin.zeroCells]
def qY{sz:Nat}{t:TypeId}{f:FuncId} (hc:∀(n:Nat),n<=1000000->∀w:World,Calls Tryz.prog f #[.slice none 0 0,.int .i64 n] w fun e w'=>∃a cap,e= .returned (.slice a 0 cap)/\
  ((a=none/\cap=0/\w'=w)\/(a=some ⟨w.heap.size,0,none⟩/\∃x,cap*sz<=x.size/\w'=w.drew.alloc (.cells x t))))
  (call:FuncId->List AV->M AV) (args:List AV) (h:Hp) (S:az) (β:List bQ) (w:World) (vs:List Value) (hr:mM call args h≠.fail) (_hg:xg S β h w) (hw:Wf S w) (hh:dm S β w h) (hv:be S β args vs):
  Calls Tryz.prog f vs.toArray w (eS (some sz) S β h w (mM call args h)):=by
 unfold mM at hr |-;split at hr
 ·rename_i n;cases hcd:(decide (0<=n)&&decide (n<=1000000))with
  |false=>rw[hcd]at hr;exact absurd rfl hr
  | true=>
   simp only[acB,acP]at hcd;simp only[acD];obtain⟨m,rfl⟩:∃m:Nat,n=m:=⟨n.toNat,WD⟩;simp only[be,VR]at hv;obtain⟨_,_,rfl,rfl,_,_,rfl,rfl,rfl⟩:=hv;refine (hc m WD w).mono ?_;rintro e w' ⟨a,cap,rfl,h1⟩;have hb:Below w.heap.size w w':=by
    rcases h1 with⟨_,_,rfl⟩|⟨_,x,_,rfl⟩
    ·exact Below.refl _ _
    ·exact (show Below w.heap.size w w.drew from⟨rfl,rfl,rfl,acC _,fun _ _=>rfl⟩).trans ((Below.refl _ w.drew).alloc (acC _) _)
   refine⟨S,β,_,rfl,?_,sr hw hh hb Ak (fun _ _ _=>rfl) (fun b o v hge hv=>by have:=hw.lt hv;omega),fun sz' hsz=>?_⟩
   ·simp only[VR];refine⟨a,cap,rfl,acU _,fun ha=>?_,fun q hq=>?_⟩
    ·grind
    ·rcases h1 with⟨rfl,_⟩|⟨rfl,_⟩
     ·cases hq
     ·cases hq;exact⟨fun _=>rfl,sz,trivial⟩
   ·cases hsz;refine⟨a,0,cap,rfl,acU _,fun ha=>?_,?_⟩
    ·grind
    ·rcases h1 with⟨_,rfl,_⟩|⟨rfl,x,hx,rfl⟩
     ·exact .inl rfl
     ·refine .inr ⟨w.heap.size,0,x,rfl,?_,WD,acC _,fun ho=>?_,fun o _=>?_⟩
      ·exact Row.new w.drew x t
      ·obtain⟨l,cs,n,k1,k2,k3⟩:=ho;obtain⟨_,ω,hH⟩:=hh;rcases hH l cs k1 k2 with⟨b',y,j1,j2,_⟩|⟨b',j1,_,_,j2⟩
       ·rw[k3]at j1;cases j1;exact absurd j2.lt WD
       ·rw[k3]at j1;cases j1;exact absurd j2.lt WD
      ·cases hS:S w.heap.size o with
       |none=>rfl
       |some v=>exact absurd (hw.lt hS) WD
 ·exact absurd rfl hr
def P1:(Tryz.prog.info? 9).bind (fun i=>i.zero.map fun z=>(i.size,i.bytes,z.cells.size))=some (1,16,1):=BT
def PV(n:Nat)(hn:n<=1000000)(w:World):Calls Tryz.prog 206 #[.slice none 0 0,.int .i64 n] w fun e w'=>∃a cap,e= .returned (.slice a 0 cap)/\
  ((a=none/\cap=0/\w'=w)\/(a=some ⟨w.heap.size,0,none⟩/\∃x,cap*1<=x.size/\w'=w.drew.alloc (.cells x 9))):=by
 rcases adp n with rfl|h0
 ·refine (Any8.slices_Grow_room acd none 0 0 0 w (acC _) WD WD (acC _)).mono ?_
  grind
 ·have hi:=P1;cases hi0:Tryz.prog.info? 9 with
  |none=>grind
  | some i0=>
   rw[hi0]at hi;simp only[ad7]at hi;cases hz0:i0.zero with
   |none=>grind
   |some z=>
    rw[hz0]at hi;simp only[adv,acz,ado]at hi;obtain⟨hs,hb,hz⟩:=hi;refine (Any8.slices_Grow_grow acd i0 z hi0 hz0 WD none 0 0 n [] w (acC _) WD (by rw[hb];omega) WD AI (fun _=>rfl) (fun a ha=>by cases ha)).mono ?_;rintro e w' ⟨rfl,rfl⟩;refine⟨_,_,rfl,.inr ⟨rfl,_,?_,rfl⟩⟩
    grind [jV]
def P2:(Tryz.prog.info? 159).bind (fun i=>i.zero.map fun z=>(i.size,i.bytes,z.cells.size))=some (9,144,9):=BT
def PW(n:Nat)(hn:n<=1000000)(w:World):Calls Tryz.prog 210 #[.slice none 0 0,.int .i64 n] w fun e w'=>∃a cap,e= .returned (.slice a 0 cap)/\
  ((a=none/\cap=0/\w'=w)\/(a=some ⟨w.heap.size,0,none⟩/\∃x,cap*9<=x.size/\w'=w.drew.alloc (.cells x 159))):=by
 rcases adp n with rfl|h0
 ·refine (Any8.slices_Grow_room acg none 0 0 0 w (acC _) WD WD (acC _)).mono ?_
  grind
 ·have hi:=P2;cases hi0:Tryz.prog.info? 159 with
  |none=>grind
  | some i0=>
   rw[hi0]at hi;simp only[ad7]at hi;cases hz0:i0.zero with
   |none=>grind
   |some z=>
    rw[hz0]at hi;simp only[adv,acz,ado]at hi;obtain⟨hs,hb,hz⟩:=hi;refine (Any8.slices_Grow_grow acg i0 z hi0 hz0 WD none 0 0 n [] w (acC _) WD (by rw[hb];omega) WD AI (fun _=>rfl) (fun a ha=>by cases ha)).mono ?_;rintro e w' ⟨rfl,rfl⟩;refine⟨_,_,rfl,.inr ⟨rfl,_,?_,rfl⟩⟩
    grind [jV]
def PZ:(Tryz.prog.info? 56).bind (fun i=>i.zero.map fun z=>(i.size,i.bytes,z.cells.size))=some (12,184,12):=BT
def PS(n:Nat)(hn:n<=1000000)(w:World):Calls Tryz.prog 212 #[.slice none 0 0,.int .i64 n] w fun e w'=>∃a cap,e= .returned (.slice a 0 cap)/\
  ((a=none/\cap=0/\w'=w)\/(a=some ⟨w.heap.size,0,none⟩/\∃x,cap*12<=x.size/\w'=w.drew.alloc (.cells x 56))):=by
 rcases adp n with rfl|h0
 ·refine (Any8.slices_Grow_room acf none 0 0 0 w (acC _) WD WD (acC _)).mono ?_
  grind
 ·have hi:=PZ;cases hi0:Tryz.prog.info? 56 with
  |none=>grind
  | some i0=>
   rw[hi0]at hi;simp only[ad7]at hi;cases hz0:i0.zero with
   |none=>grind
   |some z=>
    rw[hz0]at hi;simp only[adv,acz,ado]at hi;obtain⟨hs,hb,hz⟩:=hi;refine (Any8.slices_Grow_grow acf i0 z hi0 hz0 WD none 0 0 n [] w (acC _) WD (by rw[hb];omega) WD AI (fun _=>rfl) (fun a ha=>by cases ha)).mono ?_;rintro e w' ⟨rfl,rfl⟩;refine⟨_,_,rfl,.inr ⟨rfl,_,?_,rfl⟩⟩
    grind [jV]
def P0:(Tryz.prog.info? 27).bind (fun i=>i.zero.map fun z=>(i.size,i.bytes,z.cells.size))=some (3,72,3):=BT
def PU(n:Nat)(hn:n<=1000000)(w:World):Calls Tryz.prog 214 #[.slice none 0 0,.int .i64 n] w fun e w'=>∃a cap,e= .returned (.slice a 0 cap)/\
  ((a=none/\cap=0/\w'=w)\/(a=some ⟨w.heap.size,0,none⟩/\∃x,cap*3<=x.size/\w'=w.drew.alloc (.cells x 27))):=by
 rcases adp n with rfl|h0
 ·refine (Any8.slices_Grow_room ace none 0 0 0 w (acC _) WD WD (acC _)).mono ?_
  grind
 ·have hi:=P0;cases hi0:Tryz.prog.info? 27 with
  |none=>grind
  | some i0=>
   rw[hi0]at hi;simp only[ad7]at hi;cases hz0:i0.zero with
   |none=>grind
   |some z=>
    rw[hz0]at hi;simp only[adv,acz,ado]at hi;obtain⟨hs,hb,hz⟩:=hi;refine (Any8.slices_Grow_grow ace i0 z hi0 hz0 WD none 0 0 n [] w (acC _) WD (by rw[hb];omega) WD AI (fun _=>rfl) (fun a ha=>by cases ha)).mono ?_;rintro e w' ⟨rfl,rfl⟩;refine⟨_,_,rfl,.inr ⟨rfl,_,?_,rfl⟩⟩
    grind [jV]
end Go.Proofs.YtkidiopjcgeifaaGreat
namespace Go.Proofs.YtkidiopjcgeifaaGreat.F
open Go Go.Av Go.Av.Ap
set_option maxRecDepth 100000
def L2:Ann:={ kinds:=[(1,.L),(4,.S)],hl:=[16],nl:=[16,21],lw:=[2,4,8],loops:=[(0,{ vals:=[(10,none),(11,none),(12,none),(2000,none),(2001,none),(3000,none),(3001,none)],locs:=[(1,2000,0),(2,3000,0)],lbs:=[(2000,2),(3000,2)] })] }
def s5:Ann:={ iso:=false,ha:=[7] }
noncomputable def sO:List (Nat×(Func×Ann)):=[(33,(Tryz.f33,L2))]
def own:FuncId->Option Nat:=fun _=>none
noncomputable def other:FuncId->Option ((FuncId->List AV->M AV)->List AV->M AV):=fun f=>bif Nat.beq f 77 then some (eG T 23)else none
noncomputable def pg:Pg:={ T:=T,funcs:=xV sO,own:=own,other:=other,nw:=fun f=>bif Nat.beq f 77 then true else false }
def hOther:ek pg:=by
 intro f E hE call calls hc;have h0:other f=some E:=hE;unfold other at h0;rcases dW h0 with rfl|h0
 ·exact xG _ _ _ _
 cases h0
noncomputable def L33_0(call:FuncId->RR)(fx:jW AV)(a:RR)(b:List AV):M AV:=aG (bJ (bN T BinOp.lss 3 (aD b 2) (aD b 1))) (fun c=>gW c (aG (bJ (ax T 23 (aD b 0) (aD b 2))) (fun d=>aG (bM T 79 d) (fun e=>aG (bB 3 e) (fun f=>aG (bJ (ar T 79 (.ip (ab f)) 1)) (fun g=>aG (bJ (ay T 52 g)) (fun h=>aG (gP (call 33 [h])) (fun i=>aG (bJ (ax T 23 (aD b 4) (aD b 2))) (fun j=>aG (bJ (ar T 79 j 1)) (fun k=>aG (cG T 52 k i) (fun l=>aG (bJ (bN T BinOp.add 3 (aD b 2) (qi 1))) (fun m=>a [aD b 0,aD b 1,m,aD b 3,aD b 4,aD b 5,aD b 6]))))))))))) (aG (aK 2 [] (.agg [aD b 3,aD b 4])) (fun n=>ao (.agg [aD (ab n) 0,aD (ab n) 1]))))
def XL33_0{call:FuncId->RR}:Ar (L33_0 call ae) fun _n=>L33_0 call ae  :=by
 intro a b c d;unfold L33_0;exact (dz.bnd (fo _) fun _=>(uz (dz.bnd (fo _) fun _=>(dz.bnd (fo _) fun _=>(dz.bnd (fo _) fun _=>(dz.bnd (fo _) fun _=>(dz.bnd (fo _) fun _=>(dz.bnd (fo _) fun _=>(dz.bnd (fo _) fun _=>(dz.bnd (fo _) fun _=>(dz.bnd (fo _) fun _=>(dz.bnd (fo _) fun _=>c _)))))))))) (fo _)))
def FL33_0(call:FuncId->RR)(vs:List AV):ae (L33_0 call ae) vs=L33_0 call ae  (ae (L33_0 call ae)) vs:=Ji (XL33_0) vs
noncomputable def S33(call:FuncId->RR)(fx:jW AV)(a0:AV):M AV:=aG (bB 2 a0) (fun a=>aG (call 77 [aD (ab a) 1]) (fun b=>aG (dP b) (fun c=>aG (bJ (ff T 23 b)) (fun d=>fx (L33_0 call fx) [b,d,qi 0,aD (ab a) 0,b,qi 0,.sl []]))))
def E33(call:FuncId->List AV->M AV)(fx:jW AV)(a0:AV):cj (pg.cx call Tryz.f33.ntmps L2) fx Tryz.f33 (own 33) [a0]=S33 call fx a0:=BT
def C33(a0:AV):aa pg 33 [a0]=aF (S33 (aa pg) ae (cl ai a0)):=(fw hOther rfl rfl rfl _).trans (acY aF (E33 _ _ (cl ai a0)))
end Go.Proofs.YtkidiopjcgeifaaGreat.F
namespace Go.Proofs.YtkidiopjcgeifaaGreat
open Go Go.Av Go.Av.Ap
set_option maxRecDepth 100000
def aa1(e:AV)(es:List AV):cj (zR Tryz.f77.ntmps s5) (dV 0) Tryz.f77 (some 3) [.sl (e:: es)]=aG (bJ (dL T 23 (.sl []) (.sl (e:: es)))) fun v=>aG (bJ (some v)) ao:=BT
def aa2:cj (zR Tryz.f77.ntmps s5) (dV 0) Tryz.f77 (some 3) [.hn]=aG (bJ (some (.sl []))) ao:=BT
def aa3(l off:Nat):cj (zR Tryz.f77.ntmps s5) (dV 0) Tryz.f77 (some 3) [.hs l off 0 1 false]=aG (bJ (dL T 23 (.sl []) (.hs l off 0 1 false))) fun v=>aG (bJ (some v)) ao:=BT
def aa4(l off:Nat):dL T 23 (.sl []) (.hs l off 0 1 false)=some (.sl []):=by rfl
def N0(call:FuncId->List AV->M AV)(args:List AV)(h:Hp)(S:az)(β:List bQ)(w:World)(vs:List Value)(hr:iE T 23 call args h≠.fail)(hg:xg S β h w)(hw:Wf S w)(hh:dm S β w h)(hv:be S β args vs):
  Calls Tryz.prog 77 vs.toArray w (eS (some 3) S β h w (iE T 23 call args h)):=by
 have key:∀es,args=[.sl es]->Calls Tryz.prog 77 vs.toArray w (eS (some 3) S β h w (iE T 23 call args h)):=by
  rintro es rfl;exact (nr (cx:=zR Tryz.f77.ntmps s5) (own:=some 3) (E:=fun es h=>iE T 23 call [.sl es] h) tok (qS _ _) (wU _ _) Tryz.func77 rfl (fun h=>by rfl) (fun e es h=>by rw[aa1];exact ae5 (Cy _) h) (fun h=>by rw[aa2];rfl) (fun l off h=>by rw[aa3,aa4];rfl) hr hg hw hh hv).1
 unfold iE at hr;split at hr
 ·exact key _ rfl
 ·exact absurd rfl hr
end Go.Proofs.YtkidiopjcgeifaaGreat
namespace Go.Proofs.YtkidiopjcgeifaaGreat.F
open Go Go.Av Go.Av.Ap
set_option maxRecDepth 100000
def abn(e:AV)(es:List AV):cj (zR Tryz.f77.ntmps s5) (dV 0) Tryz.f77 none [.sl (e:: es)]=aG (appH T 23 true (.sl []) (.sl (e:: es))) fun v=>aG (bJ (some v)) ao:=BT
def abo:cj (zR Tryz.f77.ntmps s5) (dV 0) Tryz.f77 none [.hn]=aG (bJ (some (.sl []))) ao:=BT
def abp(l off:Nat):cj (zR Tryz.f77.ntmps s5) (dV 0) Tryz.f77 none [.hs l off 0 1 false]=aG (appH T 23 true (.sl []) (.hs l off 0 1 false)) fun v=>aG (bJ (some v)) ao:=BT
def N0(call:FuncId->List AV->M AV)(args:List AV)(h:Hp)(S:az)(β:List bQ)(w:World)(vs:List Value)(hr:eG T 23 call args h≠.fail)(hg:xg S β h w)(hw:Wf S w)(hh:dm S β w h)(hv:be S β args vs):
  Calls Tryz.prog 77 vs.toArray w (eS none S β h w (eG T 23 call args h)):=by
 have key:∀es,args=[.sl es]->Calls Tryz.prog 77 vs.toArray w (eS none S β h w (eG T 23 call args h)):=by
  rintro es rfl;exact (nr (cx:=zR Tryz.f77.ntmps s5) (E:=fun es h=>eG T 23 call [.sl es] h) tok (qS _ _) (wU _ _) Tryz.func77 rfl (fun h=>by rfl) (fun e es h=>by rw[abn];exact ae5 (Cy _) h) (fun h=>by rw[abo];rfl) (fun l off h=>by rw[abp];rfl) hr hg hw hh hv).1
 unfold eG at hr;split at hr
 ·exact key _ rfl
 ·exact absurd rfl hr
theorem DR:(sO.map fun x=>Tryz.prog.funcs[x.1]?)=sO.map fun x=>some x.2.1:=BT
theorem sP:(sO.map fun x=>x.2.1.name== "runtime.NumGoroutine")=sO.map fun _=>false:=BT
def aaV{f k:Nat}{α:Type}{x y:α}{o:Option α}(h:(bif Nat.beq f k then some x else o)=some y):(f=k/\x=y)\/o=some y:=by
 cases hb:Nat.beq f k with
 |true=>simp_all
 |false=>grind
def good:GoodPg Tryz.prog pg where
 tok:=tok
 funcs:=fun f fn a h=>by
  have:=uD sO f (fn,a) h
  grind [sD,DR,sP]
 other:=by
  intro f E hE call hC args h S β w vs hr hg hw hh hv;have h0:other f=some E:=hE;unfold other at h0;rcases aaV h0 with⟨rfl,rfl⟩|h0
  ·exact⟨N0 call args h S β w vs hr hg hw hh hv,BT⟩
  cases h0
 nw:=by
  intro f hf;have h0:(bif Nat.beq f 77 then true else false)=true:=hf;cases hb:Nat.beq f 77 with
  |true=>
   have:=Nat.eq_of_beq_eq_true hb
   subst this;exact⟨_,rfl,fun call args=>AU _ _ _ _⟩
  |false=>grind
theorem aS{α β:Type}{m:M α}{a:α}{h h':Hp}(e:m h= .ok a h')(f:α->M β):aG m f h=f a h':=by simp only[aG,e]
def UQ(x:ca):(ab (aR x)).length=3:=AI
def qh(l:List ca):aE l= .sl (l.map aR):=by rw[aE,eZ]
def ND{q:Nat}{l:List ca}{i:Nat}{h:Hp}(hi:i<l.length)(hq:h[q]? = some (rowOf aR l)):bM T 79 (.hp q (0+i*3)) h= .ok (aR l[i]) h:=by
 have hlen:=jE (f:=aR) UQ l;rw[KZ (T:=T) (t:=79) rfl rfl hq (show 0+i*3+3<=_ by omega)];show R.ok (AV.agg (((rowOf aR l).drop (0+i*3)).take 3)) h=_;simp_all[kY]
def Oy{q:Nat}{l:List ca}{i:Nat}{h:Hp}(hi:i<l.length)(hq:h[q]? = some (rowOf aR l)):cG T 52 (.hp q (0+i*3+1)) l[i].2.av h= .ok (.tup []) h:=by
 have hlen:=jE (f:=aR) UQ l;refine Gw (T:=T) (t:=52) rfl hq (Ap.Dk _) (show 0+i*3+1+2<=_ by omega) Vc ?_
 have:=kY UQ l i hi
 have h2:((rowOf aR l).drop (0+i*3+1)).take 2=(((rowOf aR l).drop (i*3)).take 3).drop 1:=by
  rw[List.drop_take,List.drop_drop];congr 2;omega
 simp_all
theorem ixH{q n i:Nat}(h:i<n):ax T 23 (.hs q 0 n 3 true) (qi (i:Int))=some (.hp q (0+i*3)):=by
 have e:ax T 23 (.hs q 0 n 3 true) (qi (i:Int))=if 0<=(i:Int)/\(i:Int)<(n:Int)then some (.hp q (0+(i:Int).toNat*3))else none:=rfl
 grind
def HW(t:Ty)(hb:t.fields.length<=4611686018427387904)(hk:∀f∈t.fields,aa pg 33 [f.2.av]=ao f.2.av)(q:Nat)(h:Hp)(hq:h[q]? = some (rowOf aR t.fields))(x5 x6:AV):∀(n i:Nat),t.fields.length-i=n->i<=t.fields.length->
  ae (L33_0 (aa pg) ae) [.hs q 0 t.fields.length 3 true,qi t.fields.length,qi i,qi t.kind,.hs q 0 t.fields.length 3 true,x5,x6] h= .ok (.agg [qi t.kind,.hs q 0 t.fields.length 3 true]) h:=by
 intro n
 induction n with
 |zero=>
  intro i hn hi;rw[FL33_0];have h1:¬((i:Int)<(t.fields.length:Int)):=WD
  have h2:aK 2 [] (.agg [qi t.kind,.hs q 0 t.fields.length 3 true])=ao (.agg [qi t.kind,.hs q 0 t.fields.length 3 true]):=cw rfl;simp[L33_0,h1,h2,ao]
 |succ n ih=>
  intro i hn hi;have hlt:i<t.fields.length:=WD
  have h1:(i:Int)<(t.fields.length:Int):=WD
  have ih':=ih (i+1) WD WD;have hw:IntKind.i64.wrap ((i:Int)+1)=((i+1:Nat):Int):=aH WD;have hc:=hk t.fields[i] (List.getElem_mem hlt);rw[<- ih'];generalize hcode:ae (L33_0 (aa pg) ae) [.hs q 0 t.fields.length 3 true,qi t.fields.length,qi i,qi t.kind,.hs q 0 t.fields.length 3 true,x5,x6] h=code;rw[FL33_0]at hcode;simp -implicitDefEqProofs only[L33_0,ak,au,aC,af,ah,h1,acX,acK,ixH hlt]at hcode;rw[aS (ND hlt hq)]at hcode;simp -implicitDefEqProofs only[rS,aj,kc,FA79_1,af,ac5,ac0,LD52,acR,acS,ac8,Nat.reduceAdd,acC,acK,adF,ady,iU,hc,bE,FH79_1]at hcode;rw[show (i*3+1)=0+i*3+1 by omega]at hcode;rw[aS (Oy hlt hq)]at hcode;simp_all
theorem t33:∀(d:Nat)(t:Ty),FH d t->aa pg 33 [t.av]=ao t.av
 |0,t,h=>h.elim
 | d+1,t,h=>by
  have hlen:t.fields.length<=100:=h.1;have ih:∀f∈t.fields,aa pg 33 [f.2.av]=ao f.2.av:=fun f hf=>t33 d f.2 (h.2 f hf);have e0:aa pg 77 [aE t.fields]=eG T 23 (aa pg) [aE t.fields]:=ct hOther rfl _;have e1:=Hk (T:=T) (t:=23) (f:=aR) (sz:=3) rfl rfl rfl rfl rfl Vc Vc (fun x=>oD x) (aa pg) t.fields (show t.fields.length*48<=140737488355328 by omega) [];rw[<- qh,<- e0]at e1;rw[C33];funext hp;show aF _ hp=R.ok t.av hp;by_cases hf:t.fields=[]
  ·rw[acL hf]at e1;have e2:aK 2 [] (.agg [qi t.kind,.sl []])=ao (.agg [qi t.kind,.sl []]):=cw rfl;have key:S33 (aa pg) ae (cl ai t.av) []= .ok (.agg [qi t.kind,.sl []]) []:=by
    simp only[S33,EC,kg,aj,jq,ak,au];rw[aS e1];simp only[dP,aO,acD,af,Rw];rw[FL33_0];simp[L33_0,e2,ao]
   unfold aF;rw[key];have:(AV.agg [qi t.kind,.sl []])=t.av:=by rw[<- iU,hf];rfl
   rw[this];simp only[R.ok.injEq,aeq];exact (Clean.frz (fun g=>EC g t) 6 [])
  ·rw[acE hf]at e1;have hq:([]++[rowOf aR t.fields]:Hp)[0]? = some (rowOf aR t.fields):=rfl;have key:S33 (aa pg) ae (cl ai t.av) []= .ok (.agg [qi t.kind,.hs 0 0 t.fields.length 3 true]) ([]++[rowOf aR t.fields]):=by
    simp only[S33,EC,kg,aj,jq,ak,au];rw[aS e1];simp only[dP,aO,acD,af,Sw,acS];exact HW t WD ih 0 _ hq _ _ t.fields.length 0 rfl WD
   unfold aF;rw[key];have hfr:=uG (f:=aR) UQ (fun x=>AN) (fun x g=>Mo g x) Vc hq 5;have:jt 6 ([]++[rowOf aR t.fields]) (.agg [qi t.kind,.hs 0 0 t.fields.length 3 true])=t.av:=by
    rw[<- iU,qh,<- hfr];rfl
   grind
end Go.Proofs.YtkidiopjcgeifaaGreat.F
namespace Go.Proofs.YtkidiopjcgeifaaGreat
open Go Go.Av Go.Av.Ap
def Ze(call:FuncId->List AV->M AV)(args:List AV)(h:Hp)(S:az)(β:List bQ)(w:World)(vs:List Value)(hr:qR call args h≠.fail)(hg:xg S β h w)(hw:Wf S w)(hh:dm S β w h)(hv:be S β args vs):
  Calls Tryz.prog 33 vs.toArray w (eS none S β h w (qR call args h)):=by
 unfold qR at hr |-;split at hr
 ·rename_i v;cases hc:Rr 5 v with
  |false=>rw[hc]at hr;exact absurd rfl hr
  |true=>
   obtain⟨t,rfl,ht⟩:=GH 5 v hc;have e:=ae5 (F.t33 5 t ht) h
   have:=(nn F.good F.hOther 33 [t.av] h S β w vs (by rw[e];simp[ao]) hg hw hh hv).1
   rw[e]at this;exact this
 ·exact absurd rfl hr
theorem BD:∀(d:Nat)(t:Ty),gd d t=true->FH d t
 |0,t,h=>by cases h
 |d+1,t,h=>by
  rw[nD]at h;simp only[acB,acP,acQ]at h;exact⟨qr,fun f hf=>BD d f.2 (h.2.1 f hf).2⟩
end Go.Proofs.YtkidiopjcgeifaaGreat
namespace Go.Proofs.YtkidiopjcgeifaaGreat
open Go Go.Av Go.Av.Ap Go.RowKit
set_option maxRecDepth 100000
def M1{e:AV}{y:aA×AV}(h:E4 e=some y):∃s0 b1 l2 n3 l4 n5 n6 n7 s8 s9 l10 l11,e= .agg [.str s0,.bool b1,.sl l2,qi n3,.sl l4,qi n5,qi n6,qi n7,.str s8,.str s9,.sl l10,.sl l11]/\y=(s0,.agg [.str s0,.bool b1,.sl l2,qi n3,.sl l4,qi n5,qi n6,qi n7,.str s8,.str s9,.sl l10,.sl l11]):=by
 unfold E4 at h
 grind
def NN{e:AV}{m:aA×List (aA×AV)}(h:H6 e=some m):∃s0 l1 l2 l3 l4 b5 l6 l7 l8,e= .agg [.str s0,.sl l1,.sl l2,.sl l3,.sl l4,.bool b5,.sl l6,.sl l7,.sl l8]/\∃l,l4.mapM E4=some l/\m=(s0,l):=by
 unfold H6 at h;split at h
 ·rename_i s _ _ _ fs _ _ _ _;cases hl:fs.mapM E4 with
  |none=>grind
  |some l=>grind
 ·cases h
def rH{α γ:Type}{f:α->Option γ}{x:α}{xs:List α}{l:List γ}(h:(x:: xs).mapM f=some l):∃y ys,f x=some y/\xs.mapM f=some ys/\l=y:: ys:=by
 rw[afn]at h;cases h1:f x with
 |none=>grind
 | some y=>
  cases h2:xs.mapM f with
  |none=>grind
  |some ys=>
   grind
theorem Jl{S:az}{β:List bQ}{b sz:Nat}:(es:List AV)->(off:Nat)->(l:List (aA×AV))->cr S β es b off sz->es.mapM E4=some l->
  ∃zs:List F12,nj S β l zs/\zs.length=es.length/\∀j,j<zs.length->S b (off+j*12)=some (.string (zs[j]?.getD default).n)/\S b (off+j*12+1)=some (zs[j]?.getD default).a1/\S b (off+j*12+2)=some (zs[j]?.getD default).a2/\S b (off+j*12+3)=some (zs[j]?.getD default).a3/\S b (off+j*12+4)=some (zs[j]?.getD default).a4/\S b (off+j*12+5)=some (zs[j]?.getD default).a5/\S b (off+j*12+6)=some (zs[j]?.getD default).a6/\S b (off+j*12+7)=some (zs[j]?.getD default).a7/\S b (off+j*12+8)=some (zs[j]?.getD default).a8/\S b (off+j*12+9)=some (zs[j]?.getD default).a9/\S b (off+j*12+10)=some (zs[j]?.getD default).a10/\S b (off+j*12+11)=some (zs[j]?.getD default).a11
 |[],off,l,_,h=>by
  simp at h;subst h;exact⟨[],rfl,rfl,fun j hj=>by simp at hj⟩
 | e:: es,off,l,he,h=>by
  obtain⟨y,l',h1,h2,rfl⟩:=rH h;simp only[cr]at he;obtain⟨⟨v,hv,hs,hc⟩,he⟩:=he;obtain⟨s0,b1,l2,n3,l4,n5,n6,n7,s8,s9,l10,l11,rfl,rfl⟩:=M1 h1;have hv0:=hv;simp only[VR,be]at hv;obtain⟨vs,rfl,_,_,rfl,⟨x0,rfl,hx0⟩,_,_,rfl,rfl,_,_,rfl,⟨p2,c2,rfl,hp2⟩,_,_,rfl,rfl,_,_,rfl,⟨p4,c4,rfl,hp4⟩,_,_,rfl,rfl,_,_,rfl,rfl,_,_,rfl,rfl,_,_,rfl,⟨x8,rfl,hx8⟩,_,_,rfl,⟨x9,rfl,hx9⟩,_,_,rfl,⟨p10,c10,rfl,hp10⟩,_,_,rfl,⟨p11,c11,rfl,hp11⟩,rfl⟩:=hv;have hsz:sz=12:=by rw[<- hs];rfl
  subst hsz;obtain⟨zs,hR,hl,hZ⟩:=Jl es (off+12) l' he h2;refine⟨⟨x0,.bool b1,.slice p2 l2.length c2,.int .i64 n3,.slice p4 l4.length c4,.int .i64 n5,.int .i64 n6,.int .i64 n7,.string x8,.string x9,.slice p10 l10.length c10,.slice p11 l11.length c11⟩:: zs,⟨_,_,rfl,⟨hx0,hv0,⟨_,rfl⟩,⟨_,_,_,rfl⟩,⟨_,rfl⟩,⟨_,_,_,rfl⟩,⟨_,rfl⟩,⟨_,rfl⟩,⟨_,rfl⟩,⟨_,rfl⟩,⟨_,rfl⟩,⟨_,_,_,rfl⟩,⟨_,_,_,rfl⟩⟩,hR⟩,by simp[hl],fun j hj=>?_⟩;cases j with
  |zero=>exact⟨by simpa using hc 0 _ rfl,by simpa using hc 1 _ rfl,by simpa using hc 2 _ rfl,by simpa using hc 3 _ rfl,by simpa using hc 4 _ rfl,by simpa using hc 5 _ rfl,by simpa using hc 6 _ rfl,by simpa using hc 7 _ rfl,by simpa using hc 8 _ rfl,by simpa using hc 9 _ rfl,by simpa using hc 10 _ rfl,by simpa using hc 11 _ rfl⟩
  |succ j=>
   grind
theorem Jz{S:az}{β:List bQ}{w:World}(hw:Wf S w){b sz:Nat}:(es:List AV)->(off:Nat)->(l:List (aA×List (aA×AV)))->cr S β es b off sz->es.mapM H6=some l->
  ∃zs:List M9,nV S β w l zs/\zs.length=es.length/\∀j,j<zs.length->S b (off+j*9)=some (.string (zs[j]?.getD default).n)/\S b (off+j*9+1)=some (zs[j]?.getD default).a1/\S b (off+j*9+2)=some (zs[j]?.getD default).a2/\S b (off+j*9+3)=some (zs[j]?.getD default).a3/\S b (off+j*9+4)=some (zs[j]?.getD default).a4/\S b (off+j*9+5)=some (zs[j]?.getD default).a5/\S b (off+j*9+6)=some (zs[j]?.getD default).a6/\S b (off+j*9+7)=some (zs[j]?.getD default).a7/\S b (off+j*9+8)=some (zs[j]?.getD default).a8
 |[],off,l,_,h=>by
  simp at h;subst h;exact⟨[],rfl,rfl,fun j hj=>by simp at hj⟩
 | e :: es,off,l,he,h=>by
  obtain⟨y,l',h1,h2,rfl⟩:=rH h;simp only[cr]at he;obtain⟨⟨v,hv,hs,hc⟩,he⟩:=he;obtain⟨s0,l1,l2,l3,l4,b5,l6,l7,l8,rfl,fl,hfl,rfl⟩:=NN h1;simp only[VR,be]at hv;obtain⟨vs,rfl,_,_,rfl,⟨x0,rfl,hx0⟩,_,_,rfl,⟨p1,c1,rfl,hp1⟩,_,_,rfl,⟨p2,c2,rfl,hp2⟩,_,_,rfl,⟨p3,c3,rfl,hp3⟩,_,_,rfl,⟨p4,c4,rfl,hp4⟩,_,_,rfl,rfl,_,_,rfl,⟨p6,c6,rfl,hp6⟩,_,_,rfl,⟨p7,c7,rfl,hp7⟩,_,_,rfl,⟨p8,c8,rfl,hp8⟩,rfl⟩:=hv;have hsz:sz=9:=by rw[<- hs];rfl
  subst hsz;obtain⟨zs,hR,hl,hZ⟩:=Jz hw es (off+9) l' he h2;have hf:∃fz,nj S β fl fz/\nJ w.heap.size w.heap.size w (.slice p4 l4.length c4) fz:=by
   cases hl4:l4 with
   |nil=>
    subst hl4;simp at hfl;subst hfl;exact⟨[],rfl,.inl ⟨rfl,_,_,rfl⟩⟩
   | cons f fs=>
    rw[hl4]at hp4 hfl;obtain⟨q1,q2,q3⟩:=hp4;cases p4 with
    |none=>grind
    | some q=>
     obtain⟨g1,sz,g2⟩:=q3 q rfl;obtain⟨qb,qo,qp⟩:=q;have hqp:qp=none:=g1 qr;subst hqp;obtain⟨fz,r1,r2,r3⟩:=Jl (f:: fs) qo fl g2 hfl;refine⟨fz,r1,.inr ⟨qb,qo,c4,by rw[r2],?_,?_,fun j hj=>?_⟩⟩
     ·exact hw.lt (r3 0 (by rw[r2];simp)).1
     ·exact Nat.ne_of_lt (hw.lt (r3 0 (by rw[r2];simp)).1)
     ·obtain⟨d0,d1,d2,d3,d4,d5,d6,d7,d8,d9,d10,d11⟩:=r3 j hj;exact⟨hw _ _ _ d0,hw _ _ _ d1,hw _ _ _ d2,hw _ _ _ d3,hw _ _ _ d4,hw _ _ _ d5,hw _ _ _ d6,hw _ _ _ d7,hw _ _ _ d8,hw _ _ _ d9,hw _ _ _ d10,hw _ _ _ d11⟩
  obtain⟨fz,hf1,hf2⟩:=hf;refine⟨⟨x0,.slice p1 l1.length c1,.slice p2 l2.length c2,.slice p3 l3.length c3,.slice p4 l4.length c4,.bool b5,.slice p6 l6.length c6,.slice p7 l7.length c7,.slice p8 l8.length c8⟩:: zs,⟨_,_,rfl,⟨hx0,fz,hf1,hf2,⟨_,_,_,rfl⟩,⟨_,_,_,rfl⟩,⟨_,_,_,rfl⟩,⟨_,_,_,rfl⟩,⟨_,rfl⟩,⟨_,_,_,rfl⟩,⟨_,_,_,rfl⟩,⟨_,_,_,rfl⟩⟩,hR⟩,by simp[hl],fun j hj=>?_⟩;cases j with
  |zero=>exact⟨by simpa using hc 0 _ rfl,by simpa using hc 1 _ rfl,by simpa using hc 2 _ rfl,by simpa using hc 3 _ rfl,by simpa using hc 4 _ rfl,by simpa using hc 5 _ rfl,by simpa using hc 6 _ rfl,by simpa using hc 7 _ rfl,by simpa using hc 8 _ rfl⟩
  |succ j=>
   grind
def Zh(call:FuncId->List AV->M AV)(args:List AV)(h:Hp)(S:az)(β:List bQ)(w:World)(vs:List Value)(hr:yD call args h≠.fail)(hg:xg S β h w)(hw:Wf S w)(hh:dm S β w h)(hv:be S β args vs):
  Calls Tryz.prog 48 vs.toArray w (eS none S β h w (yD call args h)):=by
 unfold yD at hr |-;split at hr
 ·rename_i ms;cases hm:ms.mapM H6 with
  |none=>grind
  | some l=>
   rw[hm]at hr;simp only at hr |-;by_cases hc:l.length<=1000000/\∀m∈l,m.2.length<=1000000
   ·rw [acL hc];simp only[be,VR]at hv;obtain⟨_,_,rfl,⟨a,cap,rfl,hle,hnil,hq⟩,rfl⟩:=hv;have hzs:∃zs:List M9,nV S β w l zs/\ms.length=zs.length/\(zs=[]\/∃b off,a=some ⟨b,off,none⟩/\b<w.heap.size/\xe w b off zs):=by
     cases hms:ms with
     |nil=>
      subst hms;simp at hm;subst hm;exact⟨[],rfl,rfl,.inl rfl⟩
     | cons e es=>
      rw[hms]at hm hle hq;cases a with
      |none=>grind
      | some q=>
       obtain⟨g1,sz,g2⟩:=hq q rfl;obtain⟨qb,qo,qp⟩:=q;have hqp:qp=none:=g1 qr;subst hqp;obtain⟨zs,r1,r2,r3⟩:=Jz hw (e:: es) qo l g2 hm;refine⟨zs,r1,r2.symm,.inr ⟨qb,qo,rfl,?_,fun j hj=>?_⟩⟩
       ·exact hw.lt (r3 0 (by rw[r2];simp)).1
       ·obtain⟨d0,d1,d2,d3,d4,d5,d6,d7,d8⟩:=r3 j hj;exact⟨hw _ _ _ d0,hw _ _ _ d1,hw _ _ _ d2,hw _ _ _ d3,hw _ _ _ d4,hw _ _ _ d5,hw _ _ _ d6,hw _ _ _ d7,hw _ _ _ d8⟩
    obtain⟨zs,hR,hlen,hcl⟩:=hzs
    have:=Va Fence.wide 20 trivial trivial trivial rfl Vc S β a ms.length cap zs l w hR hlen hc hcl
    rw[callsIn_wide]at this;refine this.mono ?_;rintro e w' ⟨bo,rfl,hbo,hmap,hB⟩;exact Kq hw hh hB Ak hbo hmap
   grind
 grind
def aaW{α:Type}{f k:Nat}{x:α}{o:Option α}{y:α}(h:(bif Nat.beq f k then some x else o)=some y):(f=k/\x=y)\/o=some y:=by
 cases hb:Nat.beq f k with
 |true=>simp_all
 |false=>grind
def Mh{α:Type}{f k:Nat}{x y:α}{o:Option α}{P:Prop}(h1:f=k->x=y->P)(h2:o=some y->P)(h:(bif Nat.beq f k then some x else o)=some y):P:=(aaW h).elim (fun h=>h1 h.1 h.2) h2
def good:GoodPg Tryz.prog pg where
 tok:=tok
 funcs:=yp
 other:=by
  intro f E hE call hC args h S β w vs hr hg hw hh hv;have h0:other f=some E:=hE;unfold other at h0;revert h0
  repeat' refine Mh ?_ ?_
  all_goals first
   |(intro h0;cases h0;done)
   |(rintro rfl rfl;exact absurd rfl hr)
   |(rintro rfl rfl;exact⟨Zh call args h S β w vs hr hg hw hh hv,BT⟩)
   |(rintro rfl rfl;exact⟨Zg call args h S β w vs hr hg hw hh hv,BT⟩)
   |(rintro rfl rfl;exact⟨VK call args h S β w vs hr hg hw hh hv,BT⟩)
   |(rintro rfl rfl;exact⟨VL call args h S β w vs hr hg hw hh hv,BT⟩)
   |(rintro rfl rfl;exact⟨VN call args h S β w vs hr hg hw hh hv,BT⟩)
   |(rintro rfl rfl;exact⟨Zf call args h S β w vs hr hg hw hh hv,BT⟩)
   |(rintro rfl rfl;exact⟨N0 call args h S β w vs hr hg hw hh hv,BT⟩)
   |(rintro rfl rfl;exact⟨Ze call args h S β w vs hr hg hw hh hv,BT⟩)
   |(rintro rfl rfl;exact⟨Zi call args h S β w vs hr hg hw hh hv,BT⟩)
   |(rintro rfl rfl;exact⟨VM call args h S β w vs hr hg hw hh hv,BT⟩)
   |(rintro rfl rfl;exact⟨V3 call hC args h S β w vs hr hg hw hh hv,BT⟩)
   |(rintro rfl rfl;exact⟨qY PV call args h S β w vs hr hg hw hh hv,BT⟩)
   |(rintro rfl rfl;exact⟨qY PW call args h S β w vs hr hg hw hh hv,BT⟩)
   |(rintro rfl rfl;exact⟨qY PS call args h S β w vs hr hg hw hh hv,BT⟩)
   |(rintro rfl rfl;exact⟨qY PU call args h S β w vs hr hg hw hh hv,BT⟩)
 nw:=by
  intro f hf;have h0:(bif Nat.beq f 117 then true else false)=true:=hf;cases hb:Nat.beq f 117 with
  |true=>
   have:=Nat.eq_of_beq_eq_true hb
   subst this;exact⟨_,rfl,fun call args=>AU _ _ _ _⟩
  |false=>grind
end Go.Proofs.YtkidiopjcgeifaaGreat
namespace Go.Proofs.YtkidiopjcgeifaaGreat
open Go Go.Av Go.ChangeShapes Go.WideShapes Go.ChangeAt Go.RowKit
set_option maxRecDepth 1000000
def abQ:ownKnob Tryz.prog.godebug=none:=BT
def U8{W:World}(hS:W.ShapedOpen Tryz.prog):GOKw W:=by
 refine⟨?_⟩;exact cell_of_shapedOpen_int (zero:=#[.int .i64 0]) (t:=3) hS (of_decide_eq_true BT) BT rfl BT BT Tryz.underlying3
noncomputable def Bn(os:Os):World:=World.holding Tryz.prog os ⟨#[],#[],[]⟩
end Go.Proofs.YtkidiopjcgeifaaGreat
namespace Go.Proofs.YtkidiopjcgeifaaGreat
open Go Go.Av Go.Av.Ap Go.RowKit
set_option maxRecDepth 1000000
section
variable {H:Type} {enc:TypeId×Value->H} {W:World}
theorem mY:reachBytes=140737488351232:=rfl
theorem Du(N:Nat):Rd enc Tryz.prog W N 22 (fun l:List aA=>[strs l]) (fun l=>l.length<=8796093022208):=
 (mX (u5 Tryz.underlying9) Tryz.underlying22 (by kernel_rfl:_=1) Vc (by kernel_rfl:_=16) (EK fun _=>rfl)).map id (fun _=>rfl) (fun l h=>by have:=h.1;rw[mY]at this;simp only[id];omega)
theorem QY(N:Nat):Rd enc Tryz.prog W N 32 (fun l:List Int=>[ints l]) (fun l=>l.length<=140737488355328):=
 (mX (qG Tryz.underlying3) Tryz.underlying32 (by kernel_rfl:_=1) Vc (by kernel_rfl:_=8) (EK fun _=>rfl)).map id (fun _=>rfl) (fun l h=>by have:=h.1;rw[mY]at this;simp only[id];omega)
theorem Val.lim_mk{k n:Int}{ns:List aA}{vs:List Val}(h1:ns.length<=140737488355328)(h2:vs.length<=140737488355328)(h3:∀v∈vs,v.Lim):(Val.mk k n ns vs).Lim:=fun j=>match j with
 |0=>trivial
 |j+1=>⟨h1,h2,fun x hx=>h3 x hx j⟩
theorem Exp.lim_mk{o n:Int}{s m:aA}{ns:List aA}{es:List Exp}(h1:ns.length<=8796093022208)(h2:es.length<=140737488355328)(h3:∀v∈es,v.Lim):(Exp.mk o n s m ns es).Lim:=fun j=>match j with
 |0=>trivial
 |j+1=>⟨h1,h2,fun x hx=>h3 x hx j⟩
theorem Ty.lim_mk{k:Int}{fs:List ca}(h2:fs.length<=140737488355328)(h3:∀v∈fs,v.2.Lim):(Ty.mk k fs).Lim:=fun j=>match j with
 |0=>trivial
 |j+1=>⟨h2,fun x hx=>h3 x hx j⟩
theorem zg{N:Nat}(h:Rd enc Tryz.prog W N 62 (fun v:Val=>ab v.av) Val.Lim):Rd enc Tryz.prog W N 31 (fun l:List Val=>[vals l]) (fun l=>l.length<=140737488355328/\∀v∈l,v.Lim):=
 (mX h Tryz.underlying31 (by kernel_rfl:_=4) Vc (by kernel_rfl:_=64) (ev:=Val.av) (oe fun v=>by rw[v.av_eq];rfl)).map id (fun l=>by simp[vals,fT]) (fun l h=>⟨by have:=h.1;rw[mY]at this;simp only[id];omega,h.2⟩)
theorem rd_val:∀N,Rd enc Tryz.prog W N 62 (fun v:Val=>ab v.av) Val.Lim
 |0=>.zero
 | N+1=>(kp Tryz.underlying62 BT (bC (qG Tryz.underlying3) rfl (by kernel_rfl:_=1) (bC (qG Tryz.underlying3) rfl (by kernel_rfl:_=1) (bC (Du N) rfl (by kernel_rfl:_=1)
   (bC (zg (rd_val N)) rfl (by kernel_rfl:_=1) mW))))).map (fun x=>Val.mk x.1 x.2.1 x.2.2.1 x.2.2.2.1) (fun x=>by simp[Val.av_eq,ab]) (fun x h=>Val.lim_mk (by have:=h.2.2.1;omega) h.2.2.2.1.1 h.2.2.2.1.2)
theorem Q0(N:Nat):Rd enc Tryz.prog W N 31 (fun l:List Val=>[vals l]) (fun l=>l.length<=140737488355328/\∀v∈l,v.Lim):=zg (rd_val N)
theorem ze{N:Nat}(h:Rd enc Tryz.prog W N 54 (fun v:Exp=>v.cells) Exp.Lim):Rd enc Tryz.prog W N 24 (fun l:List Exp=>[bg l]) (fun l=>l.length<=140737488355328/\∀v∈l,v.Lim):=
 (mX h Tryz.underlying24 (by kernel_rfl:_=6) Vc (by kernel_rfl:_=96) (ev:=Exp.av) (oe fun v=>rfl)).map id (fun l=>by simp[bg,ki]) (fun l h=>⟨by have:=h.1;rw[mY]at this;simp only[id];omega,h.2⟩)
theorem Il:∀N,Rd enc Tryz.prog W N 54 (fun v:Exp=>v.cells) Exp.Lim
 |0=>.zero
 | N+1=>(kp Tryz.underlying54 BT (bC (qG Tryz.underlying3) rfl (by kernel_rfl:_=1) (bC (qG Tryz.underlying3) rfl (by kernel_rfl:_=1) (bC (u5 Tryz.underlying9) rfl (by kernel_rfl:_=1) (bC (u5 Tryz.underlying9) rfl (by kernel_rfl:_=1)
   (bC (Du N) rfl (by kernel_rfl:_=1) (bC (ze (Il N)) rfl (by kernel_rfl:_=1) mW))))))).map (fun x=>Exp.mk x.1 x.2.1 x.2.2.1 x.2.2.2.1 x.2.2.2.2.1 x.2.2.2.2.2.1) (fun x=>by simp[Exp.cells_eq,Exp.op,Exp.n,Exp.s,Exp.m,Exp.names,Exp.args]) (fun x h=>Exp.lim_mk h.2.2.2.2.1 h.2.2.2.2.2.1.1 h.2.2.2.2.2.1.2)
theorem Dp(N:Nat):Rd enc Tryz.prog W N 24 (fun l:List Exp=>[bg l]) (fun l=>l.length<=140737488355328/\∀v∈l,v.Lim):=ze (Il N)
theorem zf{N:Nat}(h:Rd enc Tryz.prog W N 52 (fun v:Ty=>v.cells) Ty.Lim):Rd enc Tryz.prog W (N+1) 23 (fun l:List ca=>[aE l]) (fun l=>l.length<=140737488355328/\∀v∈l,v.2.Lim):=
 (mX ((kp Tryz.underlying79 BT (bC (u5 Tryz.underlying9) rfl (by kernel_rfl:_=1) (bC h rfl (by kernel_rfl:_=2) mW))).map (fun x=>((x.1,x.2.1):ca)) (cells':=fun f=>ab (aR f)) (Ok':=fun f=>f.2.Lim) (fun x=>by simp[Ty.cells_eq]) (fun x h=>h.2.1))
  Tryz.underlying23 (by kernel_rfl:_=3) Vc (by kernel_rfl:_=48) (ev:=aR) (oe fun v=>by rw[gE];rfl)).map id (fun l=>by simp[aE,eZ]) (fun l h=>⟨by have:=h.1;rw[mY]at this;simp only[id];omega,h.2⟩)
theorem Of:∀N,Rd enc Tryz.prog W N 52 (fun v:Ty=>v.cells) Ty.Lim
 |0=>.zero
 | N+1=>(kp Tryz.underlying52 BT (bC (qG Tryz.underlying3) rfl (by kernel_rfl:_=1) (bC ((zf (Of N)).le (aeD N)) rfl (by kernel_rfl:_=1) mW))).map (fun x=>Ty.mk x.1 x.2.1)
   (fun x=>by simp[Ty.cells_eq,Ty.kind,Ty.fields]) (fun x h=>Ty.lim_mk h.2.1.1 h.2.1.2)
theorem Dq(N:Nat):Rd enc Tryz.prog W N 23 (fun l:List ca=>[aE l]) (fun l=>l.length<=140737488355328/\∀v∈l,v.2.Lim):=(zf (Of N)).le (aeD N)
theorem VT(N:Nat):Rd enc Tryz.prog W (N+1) 56 (fun f:Fun=>ab f.av) Fun.Lim:=
 (kp Tryz.underlying56 BT (bC (u5 Tryz.underlying9) rfl (by kernel_rfl:_=1) (bC (JJ Tryz.underlying4) rfl (by kernel_rfl:_=1) (bC (Dq N) rfl (by kernel_rfl:_=1) (bC (Of N) rfl (by kernel_rfl:_=2)
  (bC (qG Tryz.underlying3) rfl (by kernel_rfl:_=1) (bC (Il N) rfl (by kernel_rfl:_=6) mW))))))).map (fun x=>(⟨x.1,x.2.1,x.2.2.1,x.2.2.2.1,x.2.2.2.2.1,x.2.2.2.2.2.1⟩:Fun))
  (fun x=>by simp[Ty.cells_eq,Exp.cells_eq]) (fun x h=>⟨h.2.2.1.1,h.2.2.1.2,h.2.2.2.1,h.2.2.2.2.2.1⟩)
theorem QX(N:Nat):Rd enc Tryz.prog W N 25 (fun l:List Fun=>[eL l]) (fun l=>l.length<=140737488355328/\∀v∈l,v.Lim):=
 ((mX (VT N) Tryz.underlying25 (by kernel_rfl:_=12) Vc (by kernel_rfl:_=184) (ev:=Fun.av) (oe fun v=>rfl)).map id (fun l=>by simp[eL]) (fun l h=>⟨by have:=h.1;rw[mY]at this;simp only[id];omega,h.2⟩)).le (aeD N)
theorem Dt(N:Nat):Rd enc Tryz.prog W (N+1) 29 (fun m:Mod=>ab m.av) Mod.Lim:=
 (kp Tryz.underlying29 BT (bC (u5 Tryz.underlying9) rfl (by kernel_rfl:_=1) (bC (Du N) rfl (by kernel_rfl:_=1) (bC (Dq N) rfl (by kernel_rfl:_=1) (bC (Dp N) rfl (by kernel_rfl:_=1)
  (bC (QX N) rfl (by kernel_rfl:_=1) (bC (JJ Tryz.underlying4) rfl (by kernel_rfl:_=1)
  (bC ((kp Tryz.underlying27 BT (bC (Dq N) rfl (by kernel_rfl:_=1) (bC (Dp N) rfl (by kernel_rfl:_=1) (bC (Dp N) rfl (by kernel_rfl:_=1) mW)))).le (aeD N)) rfl (by kernel_rfl:_=3) mW)))))))).map
  (fun x=>(⟨x.1,x.2.1,x.2.2.1,x.2.2.2.1,x.2.2.2.2.1,x.2.2.2.2.2.1,x.2.2.2.2.2.2.1.1,x.2.2.2.2.2.2.1.2.1,x.2.2.2.2.2.2.1.2.2.1⟩:Mod))
  (fun x=>AI) (fun x h=>⟨by have:=h.2.1;simp only;omega,h.2.2.1.1,h.2.2.1.2,h.2.2.2.1.1,h.2.2.2.1.2,h.2.2.2.2.1.1,h.2.2.2.2.1.2,h.2.2.2.2.2.2.1.1.1,h.2.2.2.2.2.2.1.1.2,h.2.2.2.2.2.2.1.2.1.1,h.2.2.2.2.2.2.1.2.1.2,h.2.2.2.2.2.2.1.2.2.1.1,h.2.2.2.2.2.2.1.2.2.1.2⟩)
theorem QZ(N:Nat):Rd enc Tryz.prog W N 30 (fun l:List Mod=>[mods l]) (fun l=>l.length<=140737488355328/\∀v∈l,v.Lim):=
 ((mX (Dt N) Tryz.underlying30 (by kernel_rfl:_=9) Vc (by kernel_rfl:_=192) (ev:=Mod.av) (oe fun v=>rfl)).map id (fun l=>by simp[mods]) (fun l h=>⟨by have:=h.1;rw[mY]at this;simp only[id];omega,h.2⟩)).le (aeD N)
end
def OL{n:Int}(h:(Lit.int .u8 n).wf=true):0<=n/\n<=255:=by
 simp[Lit.wf,IntKind.min,IntKind.max,IntKind.signed,IntKind.bits]at h;omega
end Go.Proofs.YtkidiopjcgeifaaGreat
namespace Go.Proofs.YtkidiopjcgeifaaGreat
open Go Go.Av Go.Av.Ap
set_option maxRecDepth 100000
theorem Mc(l:List aA)(i k:Nat)(hk:k=i+1)(h:k<l.length):Mb (l.drop i)=(aU (l[i]'(WD)) l[k]&&Mb (l.drop k)):=by
 subst hk;have e1:l.drop i=l[i]:: l.drop (i+1):=List.drop_eq_getElem_cons WD;have e2:l.drop (i+1)=l[i+1]:: l.drop (i+2):=List.drop_eq_getElem_cons h;rw[e1,e2];rfl
def Qy(call)(l:List aA)(hb:l.length<=4611686018427387904):∀(n:Nat)(i:Int),l.length-i.toNat=n->1<=i->ae (L234_0 call ae) [strs l,qi i]=ao (.bool (Mb (l.drop (i.toNat-1)))):=by
 intro n
 induction n with
 | zero=>
  intro i hn hi;rw[FL234_0];simp only[L234_0];have h1:¬(i<(l.length:Int)):=WD
  have h2:Mb (l.drop (i.toNat-1))=true:=by
   have:(l.drop (i.toNat-1)).length<=1:=by simp;omega
   match hq:l.drop (i.toNat-1),this with
   |[],_=>rfl
   |[x],_=>rfl
   |x:: y:: r,h=>simp at h
  simp[h1,h2]
 |succ n ih=>
  intro i hn hi;have h1:i<(l.length:Int):=WD
  rw[FL234_0];simp only[L234_0];simp (disch:=omega) [h1,aW,pH]
  grind [Mc]
def t234(l:List aA)(hb:l.length<=4611686018427387904):aa pg 234 [strs l]=ao (.bool (Mb l)):=by
 rw[C234];simp[S234,Qy (aa pg) l hb (l.length-1) 1 rfl WD]
def Qu(f:AV)(F:Val->Bool)(l:List Val)(hb:l.length<=4611686018427387904)(hf:∀x∈l,ba (aa pg) f [Val.av x]=ao (.bool (F x))):∀(n:Nat)(i:Int),l.length-i.toNat=n->0<=i->i<=l.length->
  ae (L184_0 (aa pg) ae) [vals l,f,.int .i64 l.length,.int .i64 i]=ao (.int .i64 (aL F (l.drop i.toNat) i)):=by
 intro n
 induction n with
 |zero=>
  intro i hn hi hl;rw[FL184_0];simp only[L184_0];have h1:¬(i<(l.length:Int)):=WD
  have h2:l.drop i.toNat=[]:=List.drop_eq_nil_of_le WD;simp[h1,h2,aL]
 |succ n ih=>
  intro i hn hi hl;have h1:i<(l.length:Int):=WD
  have hlt:i.toNat<l.length:=WD
  have h2:aL F (l.drop i.toNat) i=if F l[i.toNat]=true then i else aL F (l.drop (i.toNat+1)) (i+1):=by rw[List.drop_eq_getElem_cons hlt];rfl
  have h3:=hf l[i.toNat] (List.getElem_mem hlt);have h4:=ih (i+1) WD WD WD;rw[show (i+1).toNat=i.toNat+1 by omega]at h4;rw[FL184_0];simp only[L184_0];simp (disch:=omega) [h1,aW,un,h3,h2];simp_all
def t184(f:AV)(F:Val->Bool)(l:List Val)(hb:l.length<=4611686018427387904)(hc:∀g,cl g f=f)(hf:∀x∈l,ba (aa pg) f [Val.av x]=ao (.bool (F x))):aa pg 184 [vals l,f]=ao (.int .i64 (aL F l 0)):=by
 rw[C184];simp[S184,hc,Qu f F l hb hf l.length 0 rfl WD WD]
def t114(f:AV)(F:Val->Bool)(l:List Val)(hb:l.length<=4611686018427387904)(hc:∀g,cl g f=f)(hf:∀x∈l,ba (aa pg) f [Val.av x]=ao (.bool (F x))):aa pg 114 [vals l,f]=ao (.bool (l.any F)):=by
 rw[C114];simp[S114,hc,t184 f F l hb hc hf,ou]
def MD{α:Type}[BEq α](a b:List α)(i:Nat)(h1:i<a.length)(h2:i<b.length):(a.drop i== b.drop i)=(a[i]== b[i]&&a.drop (i+1)== b.drop (i+1)):=by
 grind [List.drop_eq_getElem_cons]
def Vx(a b:List aA)(hb:a.length<=4611686018427387904)(hab:a.length=b.length):∀(n:Nat)(i:Int),a.length-i.toNat=n->0<=i->i<=a.length->
  ae (L61_0 (aa pg) ae) [strs a,strs b,qi a.length,qi i]=ao (.bool (a.drop i.toNat== b.drop i.toNat)):=by
 intro n
 induction n with
 |zero=>
  intro i hn hi hl;rw[FL61_0];simp only[L61_0];have h1:¬(i<(a.length:Int)):=WD
  have h2:a.drop i.toNat=[]:=List.drop_eq_nil_of_le WD;have h3:b.drop i.toNat=[]:=List.drop_eq_nil_of_le WD;simp[h1,h2,h3]
 | succ n ih=>
  intro i hn hi hl;have h1:i<(a.length:Int):=WD
  have h1':i<(b.length:Int):=WD
  have hlt:i.toNat<a.length:=WD
  have h4:=ih (i+1) WD WD WD;rw[show (i+1).toNat=i.toNat+1 by omega]at h4;rw[FL61_0,MD a b i.toNat hlt WD];simp only[L61_0];simp (disch:=omega) [h1,aW,pH,h4];by_cases h:a[i.toNat]=b[i.toNat]
  ·simp[h]
  ·have h':(a[i.toNat]== b[i.toNat])=false:=acM.2 h;simp[h,h']
def t61(a b:List aA)(hb:a.length<=4611686018427387904):aa pg 61 [strs a,strs b]=ao (.bool (a== b)):=by
 rw[C61];by_cases h:a.length=b.length
 ·have:=Vx a b hb h a.length 0 rfl WD WD
  simp[S61,h]at this |-;simp[this]
 ·have h2:(a== b)=false:=by
   rw[acM];intro hh;exact h (by rw[hh])
  have h3:((a.length:Int) != (b.length:Int))=true:=by simp;omega
  simp[S61,h3,h2]
theorem t185:∀(d:Nat),d<=4->∀(v:Val),v.sz<=4611686018427387904->aa pg 185 [v.av,qi d]=ao (.bool (cI d v))
 |0,_,v,_=>by
  rw[C185];simp[S185,cI]
 | d+1,hd,v,hv=>by
  have ih:=t185 d WD;have h1:=t234 v.names (adi v.sz_names hv);have hf:∀x∈v.values,ba (aa pg) (.fn (.func 235) [] [.ip [qi ((d:Int)+1)]]) [x.av]=ao (.bool !(cI d x)):=by
   intro x hx;have hsz:=abm hx
   have:=ih x WD
   show aa pg 235 [x.av,.ip [qi ((d:Int)+1)]]=_;rw[C235];simp (disch:=omega) [S235,cl,eB,aW,this,show (d:Int)+1-1=d by omega]
  have h2:=t114 (.fn (.func 235) [] [.ip [qi ((d:Int)+1)]]) (fun x=>!(cI d x)) v.values (by have:=v.sz_len;omega) (fun g=>rfl) hf;have h0:¬((d:Int)+1=0):=WD
  rw[C185];simp[S185,cI,h0,h1,h2];have hall:(!v.values.any fun x=>!cI d x)=v.values.all (cI d):=by simp[afj]
  rw[hall];split
  ·rfl
  ·congr 2
   grind
def Qg(f:AV)(F:Val->Val->Bool)(a:List Val)(b:List Val)(hb:a.length<=4611686018427387904)(hab:a.length=b.length)(hf:∀x∈a,∀y∈b,ba (aa pg) f [Val.av x,Val.av y]=ao (.bool (F x y))):∀(n:Nat)(i:Int),a.length-i.toNat=n->0<=i->i<=a.length->
  ae (L123_0 (aa pg) ae) [vals b,f,vals a,qi a.length,qi i]=ao (.bool (bp F (a.drop i.toNat) (b.drop i.toNat))):=by
 intro n
 induction n with
 |zero=>
  intro i hn hi hl;rw[FL123_0];simp only[L123_0];have h1:¬(i<(a.length:Int)):=WD
  have h2:a.drop i.toNat=[]:=List.drop_eq_nil_of_le WD;have h3:b.drop i.toNat=[]:=List.drop_eq_nil_of_le WD;simp[h1,h2,h3,bp]
 |succ n ih=>
  intro i hn hi hl;have h1:i<(a.length:Int):=WD
  have h1':i<(b.length:Int):=WD
  have hlt:i.toNat<a.length:=WD
  have hlt':i.toNat<b.length:=WD
  have h3:=hf a[i.toNat] (List.getElem_mem hlt) b[i.toNat] (List.getElem_mem hlt');have h4:=ih (i+1) WD WD WD;rw[show (i+1).toNat=i.toNat+1 by omega]at h4;rw[FL123_0,ij F a b i.toNat hlt hlt'];simp only[L123_0];simp (disch:=omega) [h1,aW,un,un,h4];rw[h3];cases F a[i.toNat] b[i.toNat]<;>simp
def t123(f:AV)(F:Val->Val->Bool)(a:List Val)(b:List Val)(hb:a.length<=4611686018427387904)(hc:∀g,cl g f=f)(hf:∀x∈a,∀y∈b,ba (aa pg) f [Val.av x,Val.av y]=ao (.bool (F x y))):aa pg 123 [vals a,vals b,f]=ao (.bool (bp F a b)):=by
 rw[C123];by_cases h:a.length=b.length
 ·have:=Qg f F a b hb h hf a.length 0 rfl WD WD
  simp[S123,h,hc]at this |-;simp[this]
 ·have h3:(a.length != b.length)=true:=by simp[h]
  simp[S123,h3,cR F a b h]
mutual
def gR:Val->Val->Bool
 |.mk k n ns vs,.mk k' n' ns' vs'=>k== k'&&n== n'&&ns== ns'&&qI vs vs'
def qI:List Val->List Val->Bool
 |[],[]=>true
 |v:: vs,w:: ws=>gR v w&&qI vs ws
 |_,_=>false
end
theorem qJ:(a b:List Val)->qI a b=bp gR a b
 |[],[]=>rfl
 |[],_:: _=>rfl
 |_:: _,[]=>rfl
 |v:: a,w:: b=>by simp only[qI,bp,qJ a b]
def Gj(v w:Val):gR v w=(v.kind== w.kind&&v.n== w.n&&v.names== w.names&&bp gR v.values w.values):=by
 cases v;cases w;simp_all[gR,qJ]
def t116(v:Val)(hv:v.sz<=4611686018427387904):aa pg 116 [v.av]=ao (.bool (cI 4 v)):=by
 rw[C116]
 have:=t185 4 WD v hv
 simp at this;simp[S116,this]
end Go.Proofs.YtkidiopjcgeifaaGreat
