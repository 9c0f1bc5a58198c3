/- What the functions of the seat compute, part 2: the texts of the claim, one behind the other. Conditions: bounds, as each theorem names them. -/
import Derived.Test.YtnipfhmghjdnmaaGreatTa
import Derived.Maps.AppendAt
set_option linter.defProp false
set_option linter.unusedSimpArgs false
set_option linter.unusedVariables false
namespace Go.Proofs.YtnipfhmghjdnmaaGreat
open Go Go.Av Go.Av.Ap Go.RowKit Go.Shelf
attribute [local go_sem] Oper.semAt_some
set_option maxRecDepth 100000
structure M9 where
 n:ByteArray
 a1:Value
 a2:Value
 a3:Value
 a4:Value
 a5:Value
 a6:Value
 a7:Value
 a8:Value
instance:Inhabited M9:=⟨⟨⟨#[]⟩,undef,undef,undef,undef,undef,undef,undef,undef⟩⟩
def qw(W:World)(b off:Nat)(zs:List M9):Prop:=∀j,j<zs.length->W.cell? ⟨b,off+j*9,none⟩=some (.string (zs[j]?.getD default).n)/\W.cell? ⟨b,off+j*9+1,none⟩=some (zs[j]?.getD default).a1/\W.cell? ⟨b,off+j*9+2,none⟩=some (zs[j]?.getD default).a2/\W.cell? ⟨b,off+j*9+3,none⟩=some (zs[j]?.getD default).a3/\W.cell? ⟨b,off+j*9+4,none⟩=some (zs[j]?.getD default).a4/\W.cell? ⟨b,off+j*9+5,none⟩=some (zs[j]?.getD default).a5/\W.cell? ⟨b,off+j*9+6,none⟩=some (zs[j]?.getD default).a6/\W.cell? ⟨b,off+j*9+7,none⟩=some (zs[j]?.getD default).a7/\W.cell? ⟨b,off+j*9+8,none⟩=some (zs[j]?.getD default).a8
def qw.keep{n₀ bo:Nat}{A B:World}(h:ew n₀ bo A B){b off:Nat}(hb:b<n₀)(hn:b≠bo){zs:List M9}(c:qw A b off zs):qw B b off zs:=fun j hj=>by
 have:=c j hj
 simpa only[h.cell hb hn]using this
section
variable (S:aE) (β:List bT)
def qy(v:Value):Prop:=∃p l c,v= .slice p l c
def F0(y:bk×AV)(z:F12):Prop:=z.n.data.toList=y.1/\VR S β y.2 z.v/\(∃p,z.a1= .bool p)/\qy z.a2/\(∃k,z.a3= .int .i64 k)/\qy z.a4/\(∃k,z.a5= .int .i64 k)/\(∃k,z.a6= .int .i64 k)/\(∃k,z.a7= .int .i64 k)/\(∃x,z.a8= .string x)/\(∃x,z.a9= .string x)/\qy z.a10/\qy z.a11
def jc:List (bk×AV)->List F12->Prop
 |[],zs=>zs=[]
 |y:: l,zs=>∃z r,zs=z:: r/\F0 S β y z/\jc l r
def K9(w:World)(m:bk×List (bk×AV))(z:M9):Prop:=z.n.data.toList=m.1/\∃zs,jc S β m.2 zs/\jr w.heap.size w.heap.size w z.a4 zs/\qy z.a4/\qy z.a1/\qy z.a2/\qy z.a3/\(∃p,z.a5= .bool p)/\qy z.a6/\qy z.a7/\qy z.a8
def jI(w:World):List (bk×List (bk×AV))->List M9->Prop
 |[],zs=>zs=[]
 |m:: l,zs=>∃z r,zs=z:: r/\K9 S β w m z/\jI w l r
end
theorem jc.length{S:aE}{β:List bT}:{l:List (bk×AV)} ->{zs:List F12} ->jc S β l zs->zs.length=l.length
 |[],_,h=>by simp only[jc]at h;simp[h]
 |y:: l,zs,h=>by
  simp only[jc]at h;obtain⟨z,r,rfl,_,h⟩:=h;simp[jc.length h]
theorem jc.get{S:aE}{β:List bT}:{l:List (bk×AV)} ->{zs:List F12} ->jc S β l zs->∀ {i:Nat},i<l.length->∃y,l[i]? = some y/\F0 S β y (zs[i]?.getD default)
 |[],_,_,i,hi=>by simp at hi
 |y:: l,zs,h,i,hi=>by
  simp only[jc]at h;obtain⟨z,r,rfl,h1,h⟩:=h;cases i with
  |zero=>exact⟨y,rfl,by simpa using h1⟩
  |succ i=>simpa using jc.get h (i:=i) (by simpa using hi)
theorem jI.length{S:aE}{β:List bT}{w:World}:{l:List (bk×List (bk×AV))} ->{zs:List M9} ->jI S β w l zs->zs.length=l.length
 |[],_,h=>by simp only[jI]at h;simp[h]
 |y:: l,zs,h=>by
  simp only[jI]at h;obtain⟨z,r,rfl,_,h⟩:=h;simp[jI.length h]
theorem jI.get{S:aE}{β:List bT}{w:World}:{l:List (bk×List (bk×AV))} ->{zs:List M9} ->jI S β w l zs->∀ {i:Nat},i<l.length->∃y,l[i]? = some y/\K9 S β w y (zs[i]?.getD default)
 |[],_,_,i,hi=>by simp at hi
 |y:: l,zs,h,i,hi=>by
  simp only[jI]at h;obtain⟨z,r,rfl,h1,h⟩:=h;cases i with
  |zero=>exact⟨y,rfl,by simpa using h1⟩
  |succ i=>simpa using jI.get h (i:=i) (by simpa using hi)
def fg(S:aE)(β:List bT)(W:World)(b:Nat)(es:List AV):Prop:=MapAt S β W b es
def fg.kept{S:aE}{β:List bT}{W W':World}{b:Nat}{es:List AV}(h:fg S β W b es)(hb:W'.heap[b]? = W.heap[b]?):fg S β W' b es:=by
 obtain⟨ents,clock,h1,h2,h3⟩:=h;exact⟨ents,clock,hb.trans h1,h2,h3⟩
def fg.lt{S:aE}{β:List bT}{W:World}{b:Nat}{es:List AV}(h:fg S β W b es):b<W.heap.size:=by
 obtain⟨ents,clock,h1,_⟩:=h;exact (NT.1 h1).1
def fg.not_cells{S:aE}{β:List bT}{W:World}{b:Nat}{es:List AV}(h:fg S β W b es):∃o,W.heap[b]? = some o/\o.isCells=false:=by
 obtain⟨ents,clock,h1,_⟩:=h;exact⟨_,h1,rfl⟩
def fg.put{S:aE}{β:List bT}{W:World}{b:Nat}{es es':List AV}{t kt et:Nat}{k v:AV}{vk vv:Value}(h:fg S β W b es)(hmt:f5 T t=some (kt,et))(hck:wi T 20 kt k=true)(hp:vj T kt es k v=some es')(hk:VR S β k vk)(hv:VR S β v vv):
  ∃o,(Instr.mapUpdate t (.map (some b)) vk vv).run Tryz.prog W= .ok () (cy W b o)/\o.isCells=false/\fg S β (cy W b o) b es':=by
 obtain⟨ents,clock,h1,h2,h3⟩:=h;obtain⟨ents',clock',k1,k2,k3,_⟩:=Fh (P:=Tryz.prog) (w:=W) tok hmt hck hp hk hv h2 h3 h1;exact⟨.map ents' clock',k1,rfl,ents',clock',i8 _ (NT.1 h1).1,k2,k3⟩
def fg.look{S:aE}{β:List bT}{W:World}{b:Nat}{es:List AV}{t:Nat}{ok:Bool}{k r:AV}{vk:Value}(h:fg S β W b es)(hl:ly T t es k ok=some r)(hk:VR S β k vk):qA Tryz.prog W S β (Instr.lookup t (.map (some b)) vk ok) r:=by
 obtain⟨ents,clock,h1,h2,h3⟩:=h;exact look_ok tok hl hk h2 (.inr ⟨b,clock,rfl,h1⟩)
def nI{F:Fence}{n:Nat}{P:Program}{fn:Func}{tmps:Array Value}{R:Ending->World->Prop}(n₀:Nat)(I:World->Prop)(hI:∀W D,n₀<=D->I W->W.heap[D]? = some (.deferred (some []))->I (W.putObj D (.deferred none)))(hend:∀W,I W->LeavesInM F n P fn tmps R [] .returning W):∀(Ds:List Nat)(W:World),Ds.Nodup->(∀D∈Ds,n₀<=D/\W.heap[D]? = some (.deferred (some [])))->I W->
  LeavesInM F n P fn tmps R (Ds.map fun D=>{ target:=.collected D,args:=#[] }) .returning W
 |[],W,_,_,hW=>hend W hW
 |D:: Ds,W,hn,hD,hW=>by
  have hn':=Pk.1 hn;have hk:=(hD D (by simp)).2;refine⟨by simp,.inl ⟨D,_,rfl,run_takeDeferred hk,?_⟩⟩;refine nI n₀ I hI hend Ds _ hn'.2 (fun E hE=>⟨(hD E (by simp[hE])).1,?_⟩) (hI W D (hD D (by simp)).1 hW hk);rw[World.putObj_heap_other (fun e=>hn'.1 (by rw[<- e];exact hE))];exact (hD E (by simp[hE])).2
def EJ{V:Type}{l:List (bk×List (bk×V))}{k:Nat}{m:bk×List (bk×V)}(h:l[k]? = some m)(seen:List bk)(out:List (aG×V)):
  jw (l.drop k) seen out=(if m.1∈seen then jw (l.drop (k+1)) seen out else jw (l.drop (k+1)) (seen++[m.1]) (mQ m.1 m.2 out)):=by
 obtain⟨hlt,rfl⟩:=NO.1 h;rw[NI hlt];rfl
abbrev PF(S:aE)(β:List bT):={ p:(Nat×F12)×(bk×AV) // F0 S β p.2 p.1.2 }
def mY{S:aE}{β:List bT}(mn:bk)(pre:List (PF S β))(out:List (aG×AV)):List (aG×AV):=pre.foldl (fun o x=>gU o (mn,x.1.2.1) x.1.2.2) out
def Kf{S:aE}{β:List bT}{l:List (bk×AV)}{zs:List F12}(h:jc S β l zs):∃yl:List (PF S β),yl.length=zs.length/\(∀k (hk:k<yl.length),(yl[k]).1.1=(zs.length-1-k,zs[zs.length-1-k]?.getD default))/\∀mn out,mY mn yl out=mQ mn l out:=by
 have hl:=h.length;have hget:∀j,j<l.length->F0 S β (l[l.length-1-j]?.getD default) (zs[l.length-1-j]?.getD default):=fun j hj=>by
  obtain⟨y,h1,h2⟩:=h.get (i:=l.length-1-j) (by omega);rw[h1];exact h2
 let yl:List (PF S β):=(List.range l.length).pmap (fun j hj=>⟨((l.length-1-j,zs[l.length-1-j]?.getD default),l[l.length-1-j]?.getD default),hget j hj⟩) (fun j hj=>by simpa using hj);have hyl:yl.length=l.length:=by simp[yl]
 have hk:∀k (hk:k<yl.length),(yl[k]).1=((l.length-1-k,zs[l.length-1-k]?.getD default),l[l.length-1-k]?.getD default):=fun k hk=>by simp[yl]
 refine⟨yl,by rw[hyl,hl],fun k h=>by rw[hk k h,hl],fun mn out=>?_⟩;have hrev:yl.map (fun x=>x.1.2)=l.reverse:=by
  apply QR
  ·simp[hyl]
  ·intro i h1 h2;have hi:i<l.length:=by simpa using h2
   rw[List.getElem_map,hk i (by rw[hyl];exact hi),List.getElem_reverse];simp[NH (show l.length-1-i<l.length by omega)]
 unfold mY mQ;rw[<- List.foldl_reverse,<- hrev,List.foldl_map]
structure IdxI (S:aE) (β:List bT) (w:World) (l:List (bk×List (bk×AV))) (B3 bs bo k:Nat) (Ds:List Nat) (W:World):Prop where
 below:Below w.heap.size w W
 b3:W.heap[B3]? = some (.cells #[.map (some bo)] 110 (0,0))
 maps:∃seen out,fg S β W bs (seen.map pR)/\fg S β W bo (out.map (ee id))/\jw (l.drop k) seen out=jw l [] []
 marks:Ds.Nodup/\∀D∈Ds,w.heap.size<=D/\W.heap[D]? = some (.deferred (some []))
set_option maxHeartbeats 8000000 in
def JD(F:Fence)(n:Nat)(f1:F.fn 53)(f2:F.fn 92)(f3:F.fn 132)(hro:F.round=none)(hn:5<=n)(S:aE)(β:List bT)(a:Option Addr)(len cap:Nat)(zs:List M9)(l:List (bk×List (bk×AV)))(w:World)(hR:jI S β w l zs)(hlen:len=zs.length)(hmax:l.length<=1000000/\∀m∈l,m.2.length<=1000000)(hcells:zs=[]\/∃b off,a=some ⟨b,off,none⟩/\b<w.heap.size/\qw w b off zs):
  CallsIn F n Tryz.prog 53 #[.slice a len cap] w fun e W'=>∃bo,e= .returned (.map (some bo))/\w.heap.size<=bo/\fg S β W' bo ((jw l [] []).map (ee id))/\Below w.heap.size w W':=by
 have h1:1<=n:=by omega
 have hll:=hR.length;obtain rfl:len=l.length:=by omega
 clear hlen;have hmk:∀t W,(Instr.makeMap t none).run Tryz.prog W= .ok (.map (some W.heap.size)) (W.alloc (.map #[] 0)):=fun t W=>by simp[Instr.makeMap]
 refine callsIn_of_wp_marks Tryz.func53 rfl f1 ?_ hro;simp only[Tryz.ntmps53,OQ,Of,Ot,Nat.reduceAdd,Nat.reduceSub,O6,O7,Pi,O8,N4,Ob]
 gi_wp2
 have e3:=World.alloc_heap_new (w.alloc (.map #[] 0)) (.cells #[.map (some w.heap.size)] 110);have e4:=World.alloc_heap_new ((w.alloc (.map #[] 0)).alloc (.cells #[.map (some w.heap.size)] 110)) (.map #[] 0);have e2:=World.alloc_heap_new w (.map #[] 0);simp only[World.size_alloc]at e3 e4;have hB0:Below w.heap.size w (((w.alloc (.map #[] 0)).alloc (.cells #[.map (some w.heap.size)] 110)).alloc (.map #[] 0)):=
  (((Below.refl _ w).alloc (NL _) _).alloc (by simp) _).alloc (by simp;omega) _
 have hb3:(((w.alloc (.map #[] 0)).alloc (.cells #[.map (some w.heap.size)] 110)).alloc (.map #[] 0)).heap[w.heap.size+1]? = some (.cells #[.map (some w.heap.size)] 110 (0,0)):=(alloc_old _ _ (by simp)).trans e3;have hm2:fg S β (((w.alloc (.map #[] 0)).alloc (.cells #[.map (some w.heap.size)] 110)).alloc (.map #[] 0)) w.heap.size []:=
  ⟨#[],0,(alloc_old _ _ (by simp;omega)).trans ((alloc_old _ _ (by simp)).trans e2),⟨rfl,fun i e x he=>by simp at he⟩,fun x hx=>by simp at hx,by simp⟩
 have hm4:fg S β (((w.alloc (.map #[] 0)).alloc (.cells #[.map (some w.heap.size)] 110)).alloc (.map #[] 0)) (w.heap.size+1+1) []:=
  ⟨#[],0,e4,⟨rfl,fun i e x he=>by simp at he⟩,fun x hx=>by simp at hx,by simp⟩
 generalize (((w.alloc (.map #[] 0)).alloc (.cells #[.map (some w.heap.size)] 110)).alloc (.map #[] 0))=W0 at hB0 hb3 hm2 hm4 |-;clear e2 e3 e4;refine wpIn_loop (fun a' W=>∃(k:Nat)(Ds:List Nat)(j1 j5 j6 j7 j8 j14 j15 j16 j17 j18 j19 j20 j21 j22 j23 j24 j25 j26 j27 j28 j29 j30 j31 j32 j33 j34 j35 j36 j37:Value),IdxI S β w l (w.heap.size+1) (w.heap.size+1+1) w.heap.size k Ds W/\k<=l.length/\a'= { tmps:=#[.slice a l.length cap,j1,.map none,.pointer (some ⟨w.heap.size+1,0,none⟩),.map (some (w.heap.size+1+1)),j5,j6,j7,j8,.map (some w.heap.size),.map (some (w.heap.size+1+1)),.slice a l.length cap,.int .i64 (l.length:Int),.int .i64 (k:Int),j14,j15,j16,j17,j18,j19,j20,j21,j22,j23,j24,j25,j26,j27,j28,j29,j30,j31,j32,j33,j34,j35,j36,j37],defers:=Ds.map fun D=>{ target:=.collected D,args:=#[] } })
  (fun a' _=>((l.length:Int)-intOf (a'.tmps.getD 13 undef)).toNat) ⟨0,[],undef,undef,undef,undef,undef,undef,undef,undef,undef,undef,undef,undef,undef,undef,undef,undef,undef,undef,undef,undef,undef,undef,undef,undef,undef,undef,undef,undef,undef,⟨hB0,hb3,⟨[],[],hm4,hm2,by simp⟩,by simp,by simp⟩,OX _,rfl⟩ ?_
 rintro a1 W ⟨k,Ds,j1,j5,j6,j7,j8,j14,j15,j16,j17,j18,j19,j20,j21,j22,j23,j24,j25,j26,j27,j28,j29,j30,j31,j32,j33,j34,j35,j36,j37,hI,hk,rfl⟩;by_cases hlt:k<l.length
 ·obtain⟨m,hm,hMn,fz,hfz,hfuns,hsl,hs1',hs2',hs3',hs5',hs6',hs7',hs8'⟩:=hR.get hlt;have hkz:k<zs.length:=by omega
  obtain⟨b,off,rfl,hb,hcs⟩:=hcells.resolve_left (by rintro rfl;simp at hkz);have hkl:k<l.length:=by omega
  obtain⟨seen,out,hs,ho,hidx⟩:=hI.maps;rw[EJ hm]at hidx;have hK0:ew w.heap.size w.heap.size w W:=Nw hI.below;obtain⟨c0,c1,c2,c3,c4,c5,c6,c7,c8⟩:=(hcs.keep hK0 hb (by omega)) k hkz;generalize hz:zs[k]?.getD default=z at hMn hfuns hsl hs1' hs2' hs3' hs5' hs6' hs7' hs8' c0 c1 c2 c3 c4 c5 c6 c7 c8;obtain⟨z0,z1,z2,z3,z4,z5,z6,z7,z8⟩:=z;simp only at hMn hfuns hsl hs1' hs2' hs3' hs5' hs6' hs7' hs8' c0 c1 c2 c3 c4 c5 c6 c7 c8;obtain⟨sp,sl,sc,rfl⟩:=hsl;obtain⟨p1,l1,q1,rfl⟩:=hs1';obtain⟨p2,l2,q2,rfl⟩:=hs2';obtain⟨p3,l3,q3,rfl⟩:=hs3';obtain⟨p5,rfl⟩:=hs5';obtain⟨p6,l6,q6,rfl⟩:=hs6';obtain⟨p7,l7,q7,rfl⟩:=hs7';obtain⟨p8,l8,q8,rfl⟩:=hs8';have hn1:W.heap.size<(W.alloc (.cells #[.string z0,.slice p1 l1 q1,.slice p2 l2 q2,.slice p3 l3 q3,.slice sp sl sc,.bool p5,.slice p6 l6 q6,.slice p7 l7 q7,.slice p8 l8 q8] 55)).heap.size:=by simp
  have hB1:Below w.heap.size w (W.alloc (.cells #[.string z0,.slice p1 l1 q1,.slice p2 l2 q2,.slice p3 l3 q3,.slice sp sl sc,.bool p5,.slice p6 l6 q6,.slice p7 l7 q7,.slice p8 l8 q8] 55)):=hI.below.alloc hI.below.size _;have hr1:(W.alloc (.cells #[.string z0,.slice p1 l1 q1,.slice p2 l2 q2,.slice p3 l3 q3,.slice sp sl sc,.bool p5,.slice p6 l6 q6,.slice p7 l7 q7,.slice p8 l8 q8] 55)).heap[W.heap.size]? = some (.cells #[.string z0,.slice p1 l1 q1,.slice p2 l2 q2,.slice p3 l3 q3,.slice sp sl sc,.bool p5,.slice p6 l6 q6,.slice p7 l7 q7,.slice p8 l8 q8] 55 (0,0)):=World.alloc_heap_new W _;have hb31:(W.alloc (.cells #[.string z0,.slice p1 l1 q1,.slice p2 l2 q2,.slice p3 l3 q3,.slice sp sl sc,.bool p5,.slice p6 l6 q6,.slice p7 l7 q7,.slice p8 l8 q8] 55)).heap[w.heap.size+1]? = some (.cells #[.map (some w.heap.size)] 110 (0,0)):=(alloc_old W _ (NT.1 hI.b3).1).trans hI.b3;have hs1:=hs.kept (alloc_old W (.cells #[.string z0,.slice p1 l1 q1,.slice p2 l2 q2,.slice p3 l3 q3,.slice sp sl sc,.bool p5,.slice p6 l6 q6,.slice p7 l7 q7,.slice p8 l8 q8] 55) hs.lt);have ho1:=ho.kept (alloc_old W (.cells #[.string z0,.slice p1 l1 q1,.slice p2 l2 q2,.slice p3 l3 q3,.slice sp sl sc,.bool p5,.slice p6 l6 q6,.slice p7 l7 q7,.slice p8 l8 q8] 55) ho.lt);have hk1:∀D∈Ds,w.heap.size<=D/\(W.alloc (.cells #[.string z0,.slice p1 l1 q1,.slice p2 l2 q2,.slice p3 l3 q3,.slice sp sl sc,.bool p5,.slice p6 l6 q6,.slice p7 l7 q7,.slice p8 l8 q8] 55)).heap[D]? = some (.deferred (some [])):=fun D hD=>⟨(hI.marks.2 D hD).1,(alloc_old W _ (NT.1 (hI.marks.2 D hD).2).1).trans (hI.marks.2 D hD).2⟩;have hname:VR S β (.str m.1) (.string z0):=by simp only[VR];exact⟨z0,rfl,hMn⟩
  obtain⟨v,hlook,hvr⟩:=hs1.look (t:=148) (B9 seen m.1) hname;simp only[VR]at hvr;subst hvr;by_cases hse:m.1∈seen
  ·rw[NE hse]at hidx;simp only[hse,OH]at hlook
   gi_wp2_with (first
    |(gi_at_lookup;refine iq rfl _ _ 148 false rfl hlook ?_)
    |gi_in)
   refine⟨⟨k+1,Ds,_,_,_,_,_,_,_,_,_,_,_,_,_,_,_,_,_,_,_,_,_,_,_,_,_,_,_,_,_,⟨hB1,hb31,⟨seen,out,hs1,ho1,hidx⟩,hI.marks.1,hk1⟩,by omega,rfl⟩,?_⟩;simp[intOf];omega
  ·rw[if_neg hse]at hidx;simp only[hse,OU]at hlook;obtain⟨os,hupd,hos,hs2⟩:=hs1.put (t:=148) LO rfl (Fj seen m.1 hse) hname (vv:=.bool true) (by simp only[VR]);have hx1:W.heap.size≠w.heap.size+1+1:=fun e=>by have:=hs.lt;omega
   obtain⟨W2,hW2⟩:∃W2,cy (W.alloc (.cells #[.string z0,.slice p1 l1 q1,.slice p2 l2 q2,.slice p3 l3 q3,.slice sp sl sc,.bool p5,.slice p6 l6 q6,.slice p7 l7 q7,.slice p8 l8 q8] 55)) (w.heap.size+1+1) os=W2:=⟨_,rfl⟩;have hr2:W2.heap[W.heap.size]? = some (.cells #[.string z0,.slice p1 l1 q1,.slice p2 l2 q2,.slice p3 l3 q3,.slice sp sl sc,.bool p5,.slice p6 l6 q6,.slice p7 l7 q7,.slice p8 l8 q8] 55 (0,0)):=by rw[<- hW2,bX _ _ _ hx1];exact hr1
   have hb32:W2.heap[w.heap.size+1]? = some (.cells #[.map (some w.heap.size)] 110 (0,0)):=by rw[<- hW2,bX _ _ _ (by omega)];exact hb31
   have ho2:fg S β W2 w.heap.size (out.map (ee id)):=ho1.kept (by rw[<- hW2,bX _ _ _ (by omega)]);have hB2:Below w.heap.size w W2:=by rw[<- hW2];exact hB1.grown (kq _ _ _) hB1.size (fun j e=>by cases e;omega)
   have hk2:∀D∈Ds,w.heap.size<=D/\W2.heap[D]? = some (.deferred (some [])):=fun D hD=>⟨(hk1 D hD).1,by
    rw[<- hW2,bX _ _ _ (fun e=>by obtain⟨en,cl,k1,_⟩:=hs1;rw[<- e,(hk1 D hD).2]at k1;cases k1)];exact (hk1 D hD).2⟩
   rw[hW2]at hupd hs2;have hsz2:W2.heap.size=W.heap.size+1:=by rw[<- hW2];simp[cy]
   clear hW2;have hcm0:W2.cell? ⟨W.heap.size,0,none⟩=some (.string z0):=by simp[World.cell?,hr2]
   have hcm4:W2.cell? ⟨W.heap.size,4,none⟩=some (.slice sp sl sc):=by simp[World.cell?,hr2]
   gi_wp2_with (first
    |(gi_at_lookup;refine iq rfl _ _ 148 false rfl hlook ?_)
    |(gi_at_mapUpdate;refine ir rfl _ _ _ 148 rfl hupd ?_)
    |(gi_at_call 92;refine (Gf F (n-1) f2 hro _ _ _ _).mono ?_;rintro e w' ⟨rfl,rfl⟩)
    |gi_in)
   obtain⟨yl,hyl,hye,hyo⟩:=Kf hfz;have hD:∀D∈Ds,D<W.heap.size:=fun D hD=>(NT.1 (hI.marks.2 D hD).2).1;have hs3:=hs2.kept (alloc_old W2 (.cells #[.slice sp sl sc] 51) hs2.lt);have ho3:=ho2.kept (alloc_old W2 (.cells #[.slice sp sl sc] 51) ho2.lt);have hB3:Below w.heap.size w (W2.alloc (.cells #[.slice sp sl sc] 51)):=hB2.alloc hB2.size _;have hr3:(W2.alloc (.cells #[.slice sp sl sc] 51)).heap[W.heap.size]? = some (.cells #[.string z0,.slice p1 l1 q1,.slice p2 l2 q2,.slice p3 l3 q3,.slice sp sl sc,.bool p5,.slice p6 l6 q6,.slice p7 l7 q7,.slice p8 l8 q8] 55 (0,0)):=(alloc_old W2 _ (by omega)).trans hr2;have hb33:(W2.alloc (.cells #[.slice sp sl sc] 51)).heap[w.heap.size+1]? = some (.cells #[.map (some w.heap.size)] 110 (0,0)):=(alloc_old W2 _ (NT.1 hb32).1).trans hb32;have hbx3:(W2.alloc (.cells #[.slice sp sl sc] 51)).cell? ⟨W.heap.size+1,0,none⟩=some (.slice sp sl sc):=by
    have:=World.alloc_heap_new W2 (.cells #[.slice sp sl sc] 51)
    rw[hsz2]at this;simp[World.cell?,this]
   have hk3:∀D∈Ds,w.heap.size<=D/\(W2.alloc (.cells #[.slice sp sl sc] 51)).heap[D]? = some (.deferred (some [])):=fun D hd=>⟨(hk2 D hd).1,(alloc_old W2 _ (by have:=hD D hd;omega)).trans (hk2 D hd).2⟩;have hsz3:(W2.alloc (.cells #[.slice sp sl sc] 51)).heap.size=W.heap.size+2:=by simp[hsz2]
   have hwW:=hI.below.size;have hbsW:=hs.lt;generalize (W2.alloc (.cells #[.slice sp sl sc] 51))=W3 at hs3 ho3 hB3 hr3 hb33 hbx3 hk3 hsz3 |-;clear hs2 ho2 hB2 hr2 hb32 hk2 hsz2 hupd hcm0 hcm4 hlook hs1 ho1 hB1 hr1 hb31 hk1 hn1 W2;have hfl:=hfz.length;have hfm:=hmax.2 m (Ov hm);have hF3:jr W3.heap.size w.heap.size W3 (.slice sp sl sc) fz:=(hfuns.keep (Nw hB3)).mono (by omega);have keepO:∀(j:Nat)(X Y:World)(row:Option Nat)(o:Obj),X.heap[j]? = some o->j<W3.heap.size->X.grownBy Y row->(∀r,row=some r->W3.heap.size<=r/\∃o:Obj,X.heap[r]? = some o/\o.isCells=false)->Y.heap[j]? = X.heap[j]?:=fun j X Y row o hj hlt hg hr=>
    hg.block j (NT.1 hj).1 (fun e=>by have:=(hr j e.symm).1;omega)
   refine wpIn_rangeFunc_ownH hro h1 (gf:=132) (lb:=#[.pointer (some ⟨W.heap.size+1,0,none⟩)]) rfl f3 (enters_of Tryz.func132 (by kernel_rfl) rfl)
    (yL F (n-1) f3 hro (by omega) (W.heap.size+1) w.heap.size (.slice sp sl sc) fz (by omega) (fun x:PF S β=>#[Value.int .i64 (x.1.1.1:Int),x.1.1.2.v]) yl hyl (fun k hk=>by rw[hye k hk]) W3 (by omega) (by omega) hbx3 hF3)
    GP (GO (NL _)) (Below.refl _ _) (fun _=>rfl)
    (fun pre W'=>W3.heap.size<=W'.heap.size/\Below w.heap.size w W'/\W'.heap[w.heap.size+1]? = some (.cells #[.map (some w.heap.size)] 110 (0,0))/\W'.heap[W.heap.size]? = some (.cells #[.string z0,.slice p1 l1 q1,.slice p2 l2 q2,.slice p3 l3 q3,.slice sp sl sc,.bool p5,.slice p6 l6 q6,.slice p7 l7 q7,.slice p8 l8 q8] 55 (0,0))/\
     fg S β W' (w.heap.size+1+1) ((seen++[m.1]).map pR)/\fg S β W' w.heap.size ((mY m.1 pre out).map (ee id))/\∀D∈Ds,w.heap.size<=D/\W'.heap[D]? = some (.deferred (some [])))
    (fun _ _ _=>False) ?hI (fun c s A B row h=>h.elim) ⟨NL _,hB3,hb33,hr3,hs3,ho3,hk3⟩
    (fun y a' W'=>∃Bx,W.heap.size+2<=Bx/\W'.heap[Bx]? = some (.cells y.1.1.2.arr 90 (0,0))/\a'= { tmps:=#[.slice (some ⟨b,off,none⟩) l.length cap,j1,.map none,.pointer (some ⟨w.heap.size+1,0,none⟩),.map (some (w.heap.size+1+1)),j5,.pointer (some ⟨W.heap.size,0,none⟩),j7,.pointer (some ⟨Bx,0,none⟩),.map (some w.heap.size),.map (some (w.heap.size+1+1)),.slice (some ⟨b,off,none⟩) l.length cap,.int .i64 (l.length:Int),.int .i64 (k:Int),.bool true,.pointer (some ⟨b,off+k*9,none⟩),.agg #[.string z0,.slice p1 l1 q1,.slice p2 l2 q2,.slice p3 l3 q3,.slice sp sl sc,.bool p5,.slice p6 l6 q6,.slice p7 l7 q7,.slice p8 l8 q8],.map (some (w.heap.size+1+1)),.pointer (some ⟨W.heap.size,0,none⟩),.string z0,.bool false,.map (some (w.heap.size+1+1)),.pointer (some ⟨W.heap.size,0,none⟩),.string z0,.pointer (some ⟨W.heap.size,4,none⟩),.slice sp sl sc,.func (.func 132) #[] #[.pointer (some ⟨W.heap.size+1,0,none⟩)],.int .i64 (y.1.1.1:Int),y.1.1.2.v,j29,j30,j31,j32,j33,j34,j35,j36,j37],defers:=[] })
    ?hAx ?assign ?body ?done ?stop
   case hI=>
    rintro s X Y row ⟨i0,i1,i2,i3,i4,i5,i6⟩ hg hr;refine⟨O0 i0 hg.size,i1.grown hg i1.size (fun k e=>by have:=(hr k e).1;omega),(keepO _ X Y row _ i2 (by omega) hg hr).trans i2,(keepO _ X Y row _ i3 (by omega) hg hr).trans i3,?_,?_,fun D hd=>⟨(i6 D hd).1,(keepO _ X Y row _ (i6 D hd).2 (by have:=hD D hd;omega) hg hr).trans (i6 D hd).2⟩⟩
    ·obtain⟨o,ho,_⟩:=i4.not_cells;exact i4.kept (keepO _ X Y row _ ho (by omega) hg hr)
    ·obtain⟨o,ho,_⟩:=i5.not_cells;exact i5.kept (keepO _ X Y row _ ho (by omega) hg hr)
   case hAx=>
    rintro y a' _ X Y row ⟨Bx,x1,x2,x3⟩ hg hr;exact⟨Bx,x1,(hg.block Bx (NT.1 x2).1 (fun e=>by obtain⟨_,o,ho,hc⟩:=hr Bx e.symm;rw[x2]at ho;cases ho;cases hc)).trans x2,x3⟩
   case assign=>
    rintro lo pre y W' K ⟨i0,i1,i2,i3,i4,i5,i6⟩ hK;obtain⟨⟨⟨yi,⟨y0,y1,y2,y3,y4,y5,y6,y7,y8,y9,y10,y11⟩⟩,yn,ya⟩,hy1,hy2,g1,g2,g3,g4,g5,g6,g7,g8,g9,g10,g11⟩:=y;simp only at hy1 hy2 g1 g2 g3 g4 g5 g6 g7 g8 g9 g10 g11;obtain⟨yv1,rfl⟩:=g1;obtain⟨yp2,yl2,yc2,rfl⟩:=g2;obtain⟨yv3,rfl⟩:=g3;obtain⟨yp4,yl4,yc4,rfl⟩:=g4;obtain⟨yv5,rfl⟩:=g5;obtain⟨yv6,rfl⟩:=g6;obtain⟨yv7,rfl⟩:=g7;obtain⟨yv8,rfl⟩:=g8;obtain⟨yv9,rfl⟩:=g9;obtain⟨yp10,yl10,yc10,rfl⟩:=g10;obtain⟨yp11,yl11,yc11,rfl⟩:=g11;simp only[F12.v,F12.arr]at hK |-
    gi_wp2
    exact hK _ _ ((KeepsOthers.alloc _ _).from _) (fun k hk _=>alloc_old W' _ (by omega)) ⟨by simp;omega,i1.alloc i1.size _,(alloc_old W' _ (NT.1 i2).1).trans i2,(alloc_old W' _ (NT.1 i3).1).trans i3,i4.kept (alloc_old W' _ i4.lt),i5.kept (alloc_old W' _ i5.lt),fun D hd=>⟨(i6 D hd).1,(alloc_old W' _ (NT.1 (i6 D hd).2).1).trans (i6 D hd).2⟩⟩ ⟨W'.heap.size,by omega,World.alloc_heap_new W' _,rfl⟩
   case body=>
    rintro lo pre y a' W' hl ⟨r,hr⟩ ⟨i0,i1,i2,i3,i4,i5,i6⟩ ⟨Bx,hbx,rx,rfl⟩ hlen;obtain⟨⟨⟨yi,⟨y0,y1,y2,y3,y4,y5,y6,y7,y8,y9,y10,y11⟩⟩,yn,ya⟩,hy1,hy2,g1,g2,g3,g4,g5,g6,g7,g8,g9,g10,g11⟩:=y;simp only at hy1 hy2 g1 g2 g3 g4 g5 g6 g7 g8 g9 g10 g11 rx;obtain⟨yv1,rfl⟩:=g1;obtain⟨yp2,yl2,yc2,rfl⟩:=g2;obtain⟨yv3,rfl⟩:=g3;obtain⟨yp4,yl4,yc4,rfl⟩:=g4;obtain⟨yv5,rfl⟩:=g5;obtain⟨yv6,rfl⟩:=g6;obtain⟨yv7,rfl⟩:=g7;obtain⟨yv8,rfl⟩:=g8;obtain⟨yv9,rfl⟩:=g9;obtain⟨yp10,yl10,yc10,rfl⟩:=g10;obtain⟨yp11,yl11,yc11,rfl⟩:=g11;simp only[F12.arr]at rx;simp only[F12.v]at hy2 |-;have hc3:W'.cell? ⟨w.heap.size+1,0,none⟩=some (.map (some w.heap.size)):=by simp[World.cell?,i2]
    have hcm0:W'.cell? ⟨W.heap.size,0,none⟩=some (.string z0):=by simp[World.cell?,i3]
    have hcy0:W'.cell? ⟨Bx,0,none⟩=some (.string y0):=by simp[World.cell?,rx]
    have hcy1:W'.cell? ⟨Bx,1,none⟩=some (.bool yv1):=by simp[World.cell?,rx]
    have hcy2:W'.cell? ⟨Bx,2,none⟩=some (.slice yp2 yl2 yc2):=by simp[World.cell?,rx]
    have hcy3:W'.cell? ⟨Bx,3,none⟩=some (.int .i64 yv3):=by simp[World.cell?,rx]
    have hcy4:W'.cell? ⟨Bx,4,none⟩=some (.slice yp4 yl4 yc4):=by simp[World.cell?,rx]
    have hcy5:W'.cell? ⟨Bx,5,none⟩=some (.int .i64 yv5):=by simp[World.cell?,rx]
    have hcy6:W'.cell? ⟨Bx,6,none⟩=some (.int .i64 yv6):=by simp[World.cell?,rx]
    have hcy7:W'.cell? ⟨Bx,7,none⟩=some (.int .i64 yv7):=by simp[World.cell?,rx]
    have hcy8:W'.cell? ⟨Bx,8,none⟩=some (.string yv8):=by simp[World.cell?,rx]
    have hcy9:W'.cell? ⟨Bx,9,none⟩=some (.string yv9):=by simp[World.cell?,rx]
    have hcy10:W'.cell? ⟨Bx,10,none⟩=some (.slice yp10 yl10 yc10):=by simp[World.cell?,rx]
    have hcy11:W'.cell? ⟨Bx,11,none⟩=some (.slice yp11 yl11 yc11):=by simp[World.cell?,rx]
    have hkr:VR S β (bp (m.1,yn)) (.agg #[.string z0,.string y0]):=by
     simp only[bp,VR,bC];exact⟨_,rfl,_,_,rfl,⟨z0,rfl,hMn⟩,_,_,rfl,⟨y0,rfl,hy1⟩,rfl⟩
    obtain⟨om,hupd,hom,ho'⟩:=i5.put (t:=110) E5 rfl (A8 id (mY m.1 pre out) (m.1,yn) ya) hkr hy2
    gi_wp2_with (first
     |(gi_at_mapUpdate;refine ir rfl _ _ _ 110 rfl hupd ?_)
     |gi_in)
    refine⟨⟨by simp[cy],fun k o hk hko _=>(bX _ _ _ (by omega)).trans hko⟩,fun k hk hn=>bX _ _ _ hn,by simp[cy];omega,i1.grown (kq _ _ _) i1.size (fun j e=>by cases e;omega),(bX _ _ _ (by omega)).trans i2,(bX _ _ _ (by omega)).trans i3,i4.kept (bX _ _ _ (by omega)),?_,fun D hd=>⟨(i6 D hd).1,(bX _ _ _ (fun e=>?_)).trans (i6 D hd).2⟩⟩
    ·have hout:∀(x:PF S β),mY m.1 (pre++[x]) out=gU (mY m.1 pre out) (m.1,x.1.2.1) x.1.2.2:=fun x=>by simp[mY]
     rw[hout];exact ho'
    ·obtain⟨o,hoo,_⟩:=i5.not_cells;obtain⟨en,cl,k1,_⟩:=i5;rw[<- e,(i6 D hd).2]at k1;cases k1
   case done=>
    rintro D ys W' hDl rfl ⟨i0,i1,i2,i3,i4,i5,i6⟩ hK
    gi_wp2
    rw[hyo]at i5;refine⟨⟨k+1,D:: Ds,_,_,_,_,_,_,_,_,_,_,_,_,_,_,_,_,_,_,_,_,_,_,_,_,_,_,_,_,_,⟨i1,i2,⟨seen++[m.1],_,i4,i5,hidx⟩,Pk.2 ⟨fun hd=>by have:=hD D hd;omega,hI.marks.1⟩,fun E hE=>?_⟩,by omega,rfl⟩,?_⟩
    ·rcases NP.1 hE with rfl|hE
     ·exact⟨by omega,hK⟩
     ·exact i6 E hE
    ·simp[intOf];omega
   case stop=>
    rintro D c pre W' hD _ h hK;exact h.elim
 ·obtain rfl:k=l.length:=by omega
  have hc3:W.cell? ⟨w.heap.size+1,0,none⟩=some (.map (some w.heap.size)):=by simp[World.cell?,hI.b3]
  gi_wp2
  obtain⟨seen,out,hs,ho,hidx⟩:=hI.maps;have hout:out=jw l [] []:=by simpa [jw]using hidx
  subst hout;refine nI w.heap.size (fun W'=>Below w.heap.size w W'/\fg S β W' w.heap.size ((jw l [] []).map (ee id))) (fun W' D hD ⟨i1,i2⟩ hk=>⟨i1.trans (belowK_b (w:=w) (NL _) W' D _ _ hD hk rfl rfl),i2.kept ?_⟩) (fun W' ⟨i1,i2⟩=>?_) Ds W hI.marks.1 hI.marks.2 ⟨hI.below,ho⟩
  ·refine World.putObj_heap_other (fun e=>?_);obtain⟨ents,clock,k1,_⟩:=i2;have:W'.heap[D]? = some (.map ents clock):=by first|(rw[e];exact k1)|(rw[<- e];exact k1)
   rw[this]at hk;cases hk
  ·exact⟨_,results_tmp rfl _ _ _,w.heap.size,rfl,NL _,i2,i1⟩
end Go.Proofs.YtnipfhmghjdnmaaGreat
namespace Go.Proofs.YtnipfhmghjdnmaaGreat
open Go Go.Av Go.RowKit Go.Shelf
attribute [local go_sem] Oper.semAt_some
abbrev iv:=ByteArray×ByteArray
def l9(x:iv):Value:=.agg #[.string x.1,.string x.2]
set_option maxRecDepth 100000 in
set_option maxHeartbeats 2000000 in
def zv(F:Fence)(n:Nat)(h10:F.fn 173)(hro:F.round=none)(hn:1<=n)(l Bm Bo b:Nat)(es:Array MapEntry)(clock:Nat)(ks:List iv)(hks:es.toList.map (·.key)=ks.map l9)(hst:kd es.toList clock)(J Jx:List iv->World->Prop)
  (hY:∀pre x W,J pre W->pre.length<ks.length->YieldAt F (n-1) Tryz.prog l #[l9 x] W fun e W'=>
   (e= .returned (.bool true)/\J (pre++[x]) W'/\KeepsWalks W W')\/(e= .returned (.bool false)/\Jx (pre++[x]) W'))
  (W:World) (hJ:AbidesFrom W.heap.size J) (hm:W.cell? ⟨Bm,Bo,none⟩=some (.map (some b))) (hmap:W.heap[b]? = some (.map es clock)) (h0:J [] W):
  CallsIn F n Tryz.prog 173 #[.func (.yield l) #[] #[],.pointer (some ⟨Bm,Bo,none⟩)] W fun e W'=>(∃v,e= .returned v)/\
   ((∃ss:List iv,ss.Perm ks/\J ss W')\/(∃pre:List iv,True/\Jx pre W')):=by
 have hbl:b<W.heap.size:=(NT.1 hmap).1;have hlen:es.toList.length=ks.length:=by have:=NM List.length hks;simpa using this
 have hrg:(Instr.range 185 (.map (some b))).run Tryz.prog W= .ok (.pointer (some ⟨W.heap.size,0,none⟩)) (W.alloc (.mapIter (some b) clock #[] clock)):=by
  simp[Instr.range,run_underlying Tryz.underlying185,i7 hmap (by simp)]
 refine callsIn_of_wp Tryz.func173 rfl h10 ?_ hro;simp only[Tryz.ntmps173,OQ,Of,Ot,Nat.reduceAdd,Nat.reduceSub,O6,O7,Pi,O8,N4,Ob]
 gi_wp2_with (first
  |(gi_at_range;refine jb rfl _ 185 rfl hrg ?_)
  |gi_in)
 have hg0:W.grownBy (W.alloc (.mapIter (some b) clock #[] clock)) none:=World.grownBy_alloc W _ none;have hit0:(W.alloc (.mapIter (some b) clock #[] clock)).heap[W.heap.size]? = some (.mapIter (some b) clock #[] clock):=World.alloc_heap_new W _;have hmp0:(W.alloc (.mapIter (some b) clock #[] clock)).heap[b]? = some (.map es clock):=(alloc_old W _ hbl).trans hmap;have hJ0:=hJ [] W _ none h0 hg0 (fun r e=>by cases e);generalize (W.alloc (.mapIter (some b) clock #[] clock))=W0 at hit0 hmp0 hJ0 |-
 go_frame
 gi_loopw [3] (fun _ wr=>∃(seen:Array Nat)(last:Nat)(ss:List iv),wr.heap[W.heap.size]? = some (.mapIter (some b) clock seen last)/\clock<=last/\wr.heap[b]? = some (.map es clock)/\(ss++(cU es.toList seen).map (fun i=>ks[i]!)).Perm ks/\J ss wr)
  (fun _ wr=>AO wr W.heap.size b)
 case atStart=>
  refine⟨#[],clock,[],hit0,NL _,hmp0,?_,hJ0⟩;rw[xp,hlen,N4];have:(List.range ks.length).map (fun i=>ks[i]!)=ks:=by
   apply QR
   ·simp
   ·intro i h1 h2;simp[NH h2]
  rw[this]
 case round=>
  obtain⟨seen,last,ss,hit,hcl,hmp,hpm,hJs⟩:=hrel;have hls:ss.length+(cU es.toList seen).length=ks.length:=by have:=hpm.length_eq;simpa using this
  have hiW:W.heap.size<wr.heap.size:=(NT.1 hit).1
  gi_wp2_with (first
   |(gi_at_next;refine oo rfl _ rfl rfl hit hmp hst.1 hcl ?_ ?_)
   |gi_in)
  ·intro i1
   gi_wp2
   go_end0
   rw[i1]at hpm;exact⟨⟨_,rfl⟩,.inl ⟨ss,by simpa using hpm,hJs⟩⟩
  ·intro i u w1 i1 i2 i3;have i2:es.toList[i]? = some u:=by simpa using i2
   have hil:i<ks.length:=by rw[<- hlen];exact dY i2
   have hue:u.key=l9 ks[i]!:=by
    have:(es.toList.map (·.key))[i]? = (ks.map l9)[i]?:=by rw[hks]
    rw[Ou,Ou,i2,NH hil]at this;simp only[Oo,NB]at this;rw[this,ND ks i hil]
   have hperm:=wD (sS es.toList seen) i1;have hpush:=nJ hst.2 (seen:=seen) i2;have hg1:wr.grownBy w1 none:=by rcases i3 with rfl|rfl;exact⟨rfl,rfl,rfl,NL _,fun _ _ _=>rfl⟩;exact zo _
   obtain⟨w2,hw2⟩:∃w2,cy w1 W.heap.size (.mapIter (some b) clock (seen.push u.born) clock)=w2:=⟨_,rfl⟩;have hw1:w1.heap=wr.heap:=by rcases i3 with rfl|rfl<;>rfl
   have hit2:w2.heap[W.heap.size]? = some (.mapIter (some b) clock (seen.push u.born) clock):=by rw[<- hw2];exact i8 _ (by rw[hw1];exact hiW)
   have hmp2:w2.heap[b]? = some (.map es clock):=by rw[<- hw2,bX _ _ _ (by omega),hw1];exact hmp
   have hJ1:J ss w1:=hJ ss wr w1 none hJs hg1 (fun r e=>by cases e);have hJ2:J ss w2:=by
    rw[<- hw2];exact hJ ss w1 _ (some W.heap.size) hJ1 (kq w1 _ _) (fun r e=>by cases e;exact⟨NL _,_,by rw[hw1];exact hit,rfl⟩)
   have hen:=zT (P:=Tryz.prog) hit2 hmp2 hst i2;rw[hue]at hen;rw[hw2,hue];clear hw2;have hsl:ss.length<ks.length:=by have:=hperm.length_eq;simp at this;omega
   generalize hkx:ks[i]! = kx at hen hue |-;obtain⟨k1,k2⟩:=kx;have hJ3:J ss (w2.alloc (.cells #[.string k1,.string k2] 37)):=hJ ss w2 _ none hJ2 (World.grownBy_alloc w2 _ none) (fun r e=>by cases e);have hit3:(w2.alloc (.cells #[.string k1,.string k2] 37)).heap[W.heap.size]? = some (.mapIter (some b) clock (seen.push u.born) clock):=(alloc_old w2 _ (NT.1 hit2).1).trans hit2;have hmp3:(w2.alloc (.cells #[.string k1,.string k2] 37)).heap[b]? = some (.map es clock):=(alloc_old w2 _ (NT.1 hmp2).1).trans hmp2;obtain⟨fn,tmps,assign,body,hy,hR⟩:=hY ss (k1,k2) _ hJ3 hsl;simp only[l9]at hen hy |-
   gi_wp2
   refine hR.mono ?_;rintro e W3 (⟨rfl,hJ3,hk3⟩|⟨rfl,hJx3⟩)
   ·gi_wp2
    have hit3:=hk3.same _ _ hit3 rfl;have hmp3:=hk3.same _ _ hmp3 rfl
    go_roundw
    case rel=>
     refine⟨_,_,ss++[(k1,k2)],hit3,NL _,hmp3,?_,hJ3⟩;rw[hpush];refine List.Perm.trans ?_ hpm;rw[Oz];refine List.Perm.append_left ss ?_;exact ((hperm.map fun i=>ks[i]!).trans (by rw[N8,hkx];rfl)).symm
    case measure=>
     simp only[AO,hit3,hmp3,hit,hmp,hpush]
     have:=hperm.length_eq
     simp at this;omega
   ·gi_wp2
    refine bodyPost_ret (results_none rfl _ _ _) rfl ?_;exact⟨⟨_,rfl⟩,.inr ⟨ss++[(k1,k2)],trivial,hJx3⟩⟩
set_option maxRecDepth 100000 in
set_option maxHeartbeats 1000000 in
def xk(F:Fence)(n:Nat)(h10:F.fn 173)(hro:F.round=none)(l Bm Bo:Nat)(J:List iv->World->Prop)(W:World)(hJ:AbidesFrom W.heap.size J)(hm:W.cell? ⟨Bm,Bo,none⟩=some (.map none))(h0:J [] W):
  CallsIn F n Tryz.prog 173 #[.func (.yield l) #[] #[],.pointer (some ⟨Bm,Bo,none⟩)] W fun e W'=>(∃v,e= .returned v)/\J [] W':=by
 have hrg:(Instr.range 185 (.map none)).run Tryz.prog W= .ok (.pointer (some ⟨W.heap.size,0,none⟩)) (W.alloc (.mapIter none 0 #[] 0)):=by
  simp[Instr.range,run_underlying Tryz.underlying185]
 refine callsIn_of_wp Tryz.func173 rfl h10 ?_ hro;simp only[Tryz.ntmps173,OQ,Of,Ot,Nat.reduceAdd,Nat.reduceSub,O6,O7,Pi,O8,N4,Ob]
 gi_wp2_with (first
  |(gi_at_range;refine jb rfl _ 185 rfl hrg ?_)
  |gi_in)
 have hit0:(W.alloc (.mapIter none 0 #[] 0)).heap[W.heap.size]? = some (.mapIter none 0 #[] 0):=World.alloc_heap_new W _;have hJ0:=hJ [] W _ none h0 (World.grownBy_alloc W (.mapIter none 0 #[] 0) none) (fun r e=>by cases e);generalize (W.alloc (.mapIter none 0 #[] 0))=W0 at hit0 hJ0 |-;have hnx:∀ty,(Instr.next (.pointer (some ⟨W.heap.size,0,none⟩)) false ty).run Tryz.prog W0= .ok (.tuple #[.bool false]) W0:=fun ty=>by
  simp[Instr.next,i7 hit0 (by simp)]
 go_frame
 gi_loopw [3] (fun _ wr=>wr=W0) (fun _ _=>0)
 case atStart=>rfl
 case round=>
  subst hrel
  gi_wp2_with (first
   |(gi_at_next;refine fZ rfl _ rfl (hnx _) ?_)
   |gi_in)
  go_end0
  exact⟨⟨_,rfl⟩,hJ0⟩
def mf(F:Fence)(n:Nat)(h10:F.fn 173)(hro:F.round=none)(hn:1<=n)(Bm Bo:Nat)(ks:List iv)(w:World)(hBm:Bm<w.heap.size)(hc:(w.cell? ⟨Bm,Bo,none⟩=some (.map none)/\ks=[])\/∃b es clock,w.cell? ⟨Bm,Bo,none⟩=some (.map (some b))/\w.heap[b]? = some (.map es clock)/\kd es.toList clock/\es.toList.map (·.key)=ks.map l9):
  SeqStopsK F n Tryz.prog 173 #[.pointer (some ⟨Bm,Bo,none⟩)] (fun x:iv=>#[l9 x]) KeepsWalks (fun ss=>ss.Perm ks) (fun _=>True) ks.length w:=fun l J Jx W hW hJ _ hY h0=>by
 rcases hc with⟨hc,rfl⟩|⟨b,es,clock,hc,hmap,hst,hks⟩
 ·exact (xk F n h10 hro l Bm Bo J W hJ ((hW.cell (p:=⟨Bm,Bo,none⟩) hBm).trans hc) h0).mono fun e W' ⟨he,hj⟩=>⟨he,.inl ⟨[],.refl _,hj⟩⟩
 ·exact zv F n h10 hro hn l Bm Bo b es clock ks hks hst J Jx hY W hJ ((hW.cell (p:=⟨Bm,Bo,none⟩) hBm).trans hc) ((hW.block b (NT.1 hmap).1).trans hmap) h0
attribute [local go_sem] Oper.semAt_some
def iO(x:iv):List Value:=[.string x.1,.string x.2]
def JE:(Tryz.prog.info? 37).map (fun i=>(i.zero,i.size,i.bytes))=some (some (.agg #[.string ⟨#[]⟩,.string ⟨#[]⟩]),2,32):=by kernel_rfl
def cell_two_new(w:World)(x y:Value)(t:TypeId):∀j u,[x,y][j]? = some u->(w.alloc (.cells #[x,y] t)).cell? ((⟨w.heap.size,0,none⟩:Addr).add j)=some u:=by
 intro j u hj
 match j,hj with
 |0,hj=>simp at hj;subst hj;simp[Addr.add]
 |1,hj=>simp at hj;subst hj;simp[Addr.add]
set_option maxRecDepth 100000 in
set_option maxHeartbeats 4000000 in
def I8(F:Fence)(n:Nat)(h3:F.fn 140)(hro:F.round=none)(hn:3<=n)(g:Nat)(lb:Array Value)(hFg:F.fn g)(eg:∀args w,(callFunc g args).run Tryz.prog w= .ok (.enter g args) w)(S Sp:List iv->Prop)(N:Nat)(hN:N<=1000000)(w:World)(hseq:SeqStopsK F (n-1) Tryz.prog g lb (fun x:iv=>#[l9 x]) KeepsWalks S Sp N w):
  CallsIn F n Tryz.prog 140 #[.slice none 0 0,.func (.func g) #[] lb] w fun e w'=>∃v ss,e= .returned v/\S ss/\w'.ownsRow w.heap.size 37 2 v ss.length (ss.flatMap iO)/\(v= .slice none 0 0↔ss=[])/\Below w.heap.size w w':=by
 have h1:1<=n:=by omega
 obtain⟨i0,hi,hz0,hz1,hz2⟩:=info_parts JE;refine callsIn_of_wp_marks Tryz.func140 rfl h3 ?_ hro;simp only[Tryz.ntmps140,OQ,Of,Ot,Nat.reduceAdd,Nat.reduceSub,O6,O7,Pi,O8,N4,Ob]
 gi_wp2
 have b0:=Boxed.new w 42 (.slice none 0 0);have hB0:Below w.heap.size w (w.alloc (.cells #[.slice none 0 0] 42)):=(Below.refl _ w).alloc (NL _) _;have hsz:(w.alloc (.cells #[.slice none 0 0] 42)).heap.size=w.heap.size+1:=by simp
 obtain⟨W0,hW0⟩:∃W0,w.alloc (.cells #[.slice none 0 0] 42)=W0:=⟨_,rfl⟩;rw[hW0]at b0 hB0 hsz |-;clear hW0;refine wpIn_rangeFunc_ownH hro h1 (gf:=g) (lb:=lb) rfl hFg eg hseq walksK_t walksK_b hB0 (fun _=>rfl)
  (fun pre W=>(∃v,Boxed W w.heap.size 42 v/\W.ownsRow w.heap.size 37 2 v pre.length (pre.flatMap iO)/\(v= .slice none 0 0↔pre=[]))/\Below w.heap.size w W)
  (fun _ _ _=>False)
  ?hI (fun c s A B row h=>h.elim) ⟨⟨_,b0,World.ownsRow_nil _ _ _ _,by simp⟩,hB0⟩
  (fun y a' W=>∃Bx,w.heap.size<Bx/\W.heap[Bx]? = some (.cells #[.string y.1,.string y.2] 37 (0,0))/\a'= { tmps:=#[.slice none 0 0,.func (.func g) #[] lb,.pointer (some ⟨w.heap.size,0,none⟩),undef,.slice none 0 0,.pointer (some ⟨Bx,0,none⟩),.func (.func g) #[] lb,l9 y,undef,undef,undef,undef,undef],defers:=[] })
  (fun y a' _ X Y row hs hg hr=>by
   obtain⟨Bx,h1,h2,h3⟩:=hs;exact⟨Bx,h1,(hg.block Bx (NT.1 h2).1 (fun e=>by obtain⟨_,o,ho,hc⟩:=hr Bx e.symm;rw[h2]at ho;cases ho;cases hc)).trans h2,h3⟩)
  ?assign ?body ?done ?stop
 case hI=>
  exact OwnFrom.and (Own.from (holdsRow_own w.heap.size w.heap.size 42 37 2 (fun pre:List iv=>pre.length) (fun pre=>pre.flatMap iO) (fun pre v=>(v= .slice none 0 0↔pre=[]))) _) (ownFrom_below (NL _) (by omega))
 case assign=>
  rintro l pre y W K ⟨⟨v,hv,hr,hnl⟩,hB⟩ hK;obtain⟨y1,y2⟩:=y;simp only[l9]at hK |-
  gi_wp2
  exact hK _ _ ((KeepsOthers.alloc _ _).from _) (KeepsWalks.alloc _ _) ⟨⟨v,hv.alloc _,hr.alloc _,hnl⟩,hB.alloc hB.size _⟩ ⟨W.heap.size,hv.lt,World.alloc_heap_new W _,rfl⟩
 case body=>
  rintro l pre y a' W hl ⟨r,hr⟩ ⟨⟨v,hv,hrow,hnl⟩,hB⟩ ⟨Bx,hlt,rx,rfl⟩ hlen;obtain⟨y1,y2⟩:=y;simp only at rx |-;have CG:W.cell? ⟨Bx,0,none⟩=some (.string y1):=by simp[World.cell?,rx]
  have cx1:W.cell? ⟨Bx,1,none⟩=some (.string y2):=by simp[World.cell?,rx]
  have hvc:=hv.cell
  gi_wp2_with (first
   |(gi_at_builtin;refine wpListIn_append_own _ rfl _ _ 42 rfl w.heap.size 37 i0 (.agg #[.string ⟨#[]⟩,.string ⟨#[]⟩]) 2 32 Tryz.underlying42 hi hz0 hz1 hz2 rfl (by decide) _ _ _ rfl (hrow.alloc _) ⟨W.heap.size,0,none⟩ 1 1 [.string y1,.string y2] rfl rfl (cell_two_new _ _ _ _) (by simp[Value.oneCell']) (by unfold maxLen;omega) (by omega) (by have:=hB.size;simp;omega) ?_;intro v' w1 hown' hgrow _;obtain⟨g',cap',rfl⟩:=ownsRow_succ hown';obtain⟨hv1,hv2,hr2,hk2,hb2⟩:=hv.appended (by decide) hrow hB.size (NL _) hown' hgrow;have hc1:=hv1.cell;have hf1:=hv1.frozen)
   |gi_in)
  refine⟨hk2.from _,⟨hk2.size,fun k o h hw=>hk2.same k o h (Obj.not_cells_of_walk hw)⟩,⟨_,hv2,?_,by simp⟩,hB.trans hb2⟩;have e1:(pre++[(y1,y2)]).length=pre.length+1:=by simp
  have e2:(pre++[(y1,y2)]).flatMap iO=pre.flatMap iO++[.string y1,.string y2]:=by simp[iO]
  rw[e1,e2];exact hr2
 case done=>
  rintro D ys W hD hS ⟨⟨v,hv,hrow,hnl⟩,hB⟩ hK;have hvc:=hv.cell
  gi_wp2
  refine⟨by simp,.inl ⟨_,_,rfl,run_takeDeferred hK,?_⟩⟩;exact⟨_,results_tmp rfl _ _ _,v,ys,rfl,hS,ownsRow_putObj hrow _ hK rfl,hnl,hB.trans (belowK_b (w:=w) (NL _) W D _ _ (by omega) hK rfl rfl)⟩
 case stop=>
  rintro D c pre W hD _ h hK;exact h.elim
end Go.Proofs.YtnipfhmghjdnmaaGreat
