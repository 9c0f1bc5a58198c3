/- What the functions compute, part 2. Conditions: bounds. -/
import Derived.Test.YtkkdcdofponfiaaGreatTa
import Derived.Maps.AppendAt
set_option linter.defProp false
set_option linter.unusedSimpArgs false
set_option linter.unusedVariables false
namespace Go.Proofs.YtkkdcdofponfiaaGreat
open Go Go.Av Go.Av.Ap Go.RowKit Go.Shelf
attribute [local go_sem] Oper.semAt_some
set_option maxRecDepth 100000
structure M9 where
 n:ByteArray
 a1:Value
 a2:Value
 a3:Value
 a4:Value
 a5:Value
 a6:Value
 a7:Value
 a8:Value
instance:Inhabited M9:=⟨⟨⟨#[]⟩,undef,undef,undef,undef,undef,undef,undef,undef⟩⟩
def wF(W:World)(b off:Nat)(zs:List M9):Prop:=∀j,j<zs.length->W.cell? ⟨b,off+j*9,none⟩=some (.string (zs[j]?.getD default).n)/\W.cell? ⟨b,off+j*9+1,none⟩=some (zs[j]?.getD default).a1/\W.cell? ⟨b,off+j*9+2,none⟩=some (zs[j]?.getD default).a2/\W.cell? ⟨b,off+j*9+3,none⟩=some (zs[j]?.getD default).a3/\W.cell? ⟨b,off+j*9+4,none⟩=some (zs[j]?.getD default).a4/\W.cell? ⟨b,off+j*9+5,none⟩=some (zs[j]?.getD default).a5/\W.cell? ⟨b,off+j*9+6,none⟩=some (zs[j]?.getD default).a6/\W.cell? ⟨b,off+j*9+7,none⟩=some (zs[j]?.getD default).a7/\W.cell? ⟨b,off+j*9+8,none⟩=some (zs[j]?.getD default).a8
variable {b:Nat}
def wF.keep{n₀ bo:Nat}{A B:World}(h:gx n₀ bo A B){off:Nat}(hb:b<n₀)(hn:b≠bo){zs:List M9}(c:wF A b off zs):wF B b off zs:=fun j hj=>by
 have:=c j hj
 simpa only[h.cell hb hn]using this
section
variable (S:ak) (β:List bG)
def wI(v:Value):Prop:=∃p l c,v= .slice p l c
def OT(y:az×AV)(z:F12):Prop:=z.n.data.toList=y.1/\VR S β y.2 z.v/\(∃p,z.a1= .bool p)/\wI z.a2/\(∃k,z.a3= .int .i64 k)/\wI z.a4/\(∃k,z.a5= .int .i64 k)/\(∃k,z.a6= .int .i64 k)/\(∃k,z.a7= .int .i64 k)/\(∃x,z.a8= .string x)/\(∃x,z.a9= .string x)/\wI z.a10/\wI z.a11
def mN:List (az×AV)->List F12->Prop
 |[],zs=>zs=[]
 |y:: l,zs=>∃z r,zs=z:: r/\OT S β y z/\mN l r
def VI(w:World)(m:az×List (az×AV))(z:M9):Prop:=z.n.data.toList=m.1/\∃zs,mN S β m.2 zs/\nk w.heap.size w.heap.size w z.a4 zs/\wI z.a4/\wI z.a1/\wI z.a2/\wI z.a3/\(∃p,z.a5= .bool p)/\wI z.a6/\wI z.a7/\wI z.a8
def nI(w:World):List (az×List (az×AV))->List M9->Prop
 |[],zs=>zs=[]
 |m:: l,zs=>∃z r,zs=z:: r/\VI S β w m z/\nI w l r
end
theorem mN.length{S:ak}{β:List bG}:{l:List (az×AV)} ->{zs:List F12} ->mN S β l zs->zs.length=l.length
 |[],_,h=>by simp only[mN]at h;simp[h]
 |y:: l,zs,h=>by
  simp only[mN]at h;obtain⟨z,r,rfl,_,h⟩:=h;simp[mN.length h]
theorem mN.get{S:ak}{β:List bG}:{l:List (az×AV)} ->{zs:List F12} ->mN S β l zs->∀ {i:Nat},i<l.length->∃y,l[i]? = some y/\OT S β y (zs[i]?.getD default)
 |[],_,_,i,hi=>by simp at hi
 |y:: l,zs,h,i,hi=>by
  simp only[mN]at h;obtain⟨z,r,rfl,h1,h⟩:=h;cases i with
  |zero=>grind
  |succ i=>simpa using mN.get h (i:=i) (by simpa using hi)
theorem nI.length{S:ak}{β:List bG}{w:World}:{l:List (az×List (az×AV))} ->{zs:List M9} ->nI S β w l zs->zs.length=l.length
 |[],_,h=>by simp only[nI]at h;simp[h]
 |y:: l,zs,h=>by
  simp only[nI]at h;obtain⟨z,r,rfl,_,h⟩:=h;simp[nI.length h]
theorem nI.get{S:ak}{β:List bG}{w:World}:{l:List (az×List (az×AV))} ->{zs:List M9} ->nI S β w l zs->∀ {i:Nat},i<l.length->∃y,l[i]? = some y/\VI S β w y (zs[i]?.getD default)
 |[],_,_,i,hi=>by simp at hi
 |y:: l,zs,h,i,hi=>by
  simp only[nI]at h;obtain⟨z,r,rfl,h1,h⟩:=h;cases i with
  |zero=>grind
  |succ i=>simpa using nI.get h (i:=i) (by simpa using hi)
def iB(S:ak)(β:List bG)(W:World)(b:Nat)(es:List AV):Prop:=MapAt S β W b es
variable {es:List AV}{W:World}
def iB.kept{S:ak}{β:List bG}{W':World}(h:iB S β W b es)(hb:W'.heap[b]? = W.heap[b]?):iB S β W' b es:=by
 obtain⟨ents,clock,h1,h2,h3⟩:=h;exact⟨ents,clock,hb.trans h1,h2,h3⟩
def iB.lt{S:ak}{β:List bG}(h:iB S β W b es):b<W.heap.size:=by
 obtain⟨ents,clock,h1,_⟩:=h
 grind
def iB.not_cells{S:ak}{β:List bG}(h:iB S β W b es):∃o,W.heap[b]? = some o/\o.isCells=false:=by
 obtain⟨ents,clock,h1,_⟩:=h;exact⟨_,h1,rfl⟩
def iB.put{S:ak}{β:List bG}{es':List AV}{t kt et:Nat}{k v:AV}{vk vv:Value}(h:iB S β W b es)(hmt:jM T t=some (kt,et))(hck:GG T 20 kt k=true)(hp:uB T kt es k v=some es')(hk:VR S β k vk)(hv:VR S β v vv):
  ∃o,(Instr.mapUpdate t (.map (some b)) vk vv).run Tryz.prog W= .ok () (dw W b o)/\o.isCells=false/\iB S β (dw W b o) b es':=by
 obtain⟨ents,clock,h1,h2,h3⟩:=h;obtain⟨ents',clock',k1,k2,k3,_⟩:=NT (P:=Tryz.prog) (w:=W) tok hmt hck hp hk hv h2 h3 h1;exact⟨.map ents' clock',k1,rfl,ents',clock',mD _ (aaQ.1 h1).1,k2,k3⟩
def iB.look{S:ak}{β:List bG}{t:Nat}{ok:Bool}{k r:AV}{vk:Value}(h:iB S β W b es)(hl:pn T t es k ok=some r)(hk:VR S β k vk):wL Tryz.prog W S β (Instr.lookup t (.map (some b)) vk ok) r:=by
 obtain⟨ents,clock,h1,h2,h3⟩:=h;exact look_ok tok hl hk h2 (.inr ⟨b,clock,rfl,h1⟩)
def s5{F:Fence}{n:Nat}{P:Program}{fn:Func}{tmps:Array Value}{R:Ending->World->Prop}(n₀:Nat)(I:World->Prop)(hI:∀W D,n₀<=D->I W->W.heap[D]? = some (.deferred (some []))->I (W.putObj D (.deferred none)))(hend:∀W,I W->LeavesInM F n P fn tmps R [] .returning W):∀(Ds:List Nat)(W:World),Ds.Nodup->(∀D∈Ds,n₀<=D/\W.heap[D]? = some (.deferred (some [])))->I W->
  LeavesInM F n P fn tmps R (Ds.map fun D=>{ target:=.collected D,args:=#[] }) .returning W
 |[],W,_,_,hW=>hend W hW
 |D:: Ds,W,hn,hD,hW=>by
  have hn':=ab4.1 hn;have hk:=(hD D AI).2;refine⟨AI,.inl ⟨D,_,rfl,run_takeDeferred hk,?_⟩⟩;refine s5 n₀ I hI hend Ds _ hn'.2 (fun E hE=>⟨(hD E (by simp[hE])).1,?_⟩) (hI W D (hD D AI).1 hW hk)
  grind [World.putObj_heap_other]
def Nb{V:Type}{l:List (az×List (az×V))}{k:Nat}{m:az×List (az×V)}(h:l[k]? = some m)(seen:List az)(out:List (aA×V)):
  nz (l.drop k) seen out=(if m.1∈seen then nz (l.drop (k+1)) seen out else nz (l.drop (k+1)) (seen++[m.1]) (rJ m.1 m.2 out)):=by
 obtain⟨hlt,rfl⟩:=aaJ.1 h;rw[List.drop_eq_getElem_cons hlt];rfl
abbrev PF(S:ak)(β:List bG):={ p:(Nat×F12)×(az×AV) // OT S β p.2 p.1.2 }
def rZ{S:ak}{β:List bG}(mn:az)(pre:List (PF S β))(out:List (aA×AV)):List (aA×AV):=pre.foldl (fun o x=>kM o (mn,x.1.2.1) x.1.2.2) out
def Ut{S:ak}{β:List bG}{l:List (az×AV)}{zs:List F12}(h:mN S β l zs):∃yl:List (PF S β),yl.length=zs.length/\(∀k (hk:k<yl.length),(yl[k]).1.1=(zs.length-1-k,zs[zs.length-1-k]?.getD default))/\∀mn out,rZ mn yl out=rJ mn l out:=by
 have hl:=h.length;have hget:∀j,j<l.length->OT S β (l[l.length-1-j]?.getD default) (zs[l.length-1-j]?.getD default):=fun j hj=>by
  obtain⟨y,h1,h2⟩:=h.get (i:=l.length-1-j) WD
  grind
 let yl:List (PF S β):=(List.range l.length).pmap (fun j hj=>⟨((l.length-1-j,zs[l.length-1-j]?.getD default),l[l.length-1-j]?.getD default),hget j hj⟩) (fun j hj=>by simpa using hj);have hyl:yl.length=l.length:=by simp[yl]
 have hk:∀k (hk:k<yl.length),(yl[k]).1=((l.length-1-k,zs[l.length-1-k]?.getD default),l[l.length-1-k]?.getD default):=fun k hk=>by simp[yl]
 refine⟨yl,by rw[hyl,hl],fun k h=>by rw[hk k h,hl],fun mn out=>?_⟩;have hrev:yl.map (fun x=>x.1.2)=l.reverse:=by
  apply aco
  ·simp[hyl]
  ·grind
 unfold rZ rJ;rw[<- List.foldl_reverse,<- hrev,List.foldl_map]
structure IdxI (S:ak) (β:List bG) (w:World) (l:List (az×List (az×AV))) (B3 bs bo k:Nat) (Ds:List Nat) (W:World):Prop where
 below:Below w.heap.size w W
 b3:W.heap[B3]? = some (.cells #[.map (some bo)] 148 (0,0))
 maps:∃seen out,iB S β W bs (seen.map vL)/\iB S β W bo (out.map (gz id))/\nz (l.drop k) seen out=nz l [] []
 marks:Ds.Nodup/\∀D∈Ds,w.heap.size<=D/\W.heap[D]? = some (.deferred (some []))
set_option maxHeartbeats 8000000 in
def TN(F:Fence)(n:Nat)(f1:F.fn 65)(f2:F.fn 113)(f3:F.fn 147)(hro:F.round=none)(hn:5<=n)(S:ak)(β:List bG)(a:Option Addr)(len cap:Nat)(zs:List M9)(l:List (az×List (az×AV)))(w:World)(hR:nI S β w l zs)(hlen:len=zs.length)(hmax:l.length<=1000000/\∀m∈l,m.2.length<=1000000)(hcells:zs=[]\/∃b off,a=some ⟨b,off,none⟩/\b<w.heap.size/\wF w b off zs):
  CallsIn F n Tryz.prog 65 #[.slice a len cap] w fun e W'=>∃bo,e= .returned (.map (some bo))/\w.heap.size<=bo/\iB S β W' bo ((nz l [] []).map (gz id))/\Below w.heap.size w W':=by
 have h1:1<=n:=WD
 have hll:=hR.length;obtain rfl:len=l.length:=WD
 clear hlen;have hmk:∀t W,(Instr.makeMap t none).run Tryz.prog W= .ok (.map (some W.heap.size)) (W.alloc (.map #[] 0)):=fun t W=>by simp[Instr.makeMap]
 refine callsIn_of_wp_marks Tryz.func65 rfl f1 ?_ hro;simp only[Tryz.ntmps65,abp,aaX,aaW,Nat.reduceAdd,Nat.reduceSub,abw,abx,abJ,abC,aaU,aa2]
 gi_wp2
 have e3:=World.alloc_heap_new (w.alloc (.map #[] 0)) (.cells #[.map (some w.heap.size)] 148);have e4:=World.alloc_heap_new ((w.alloc (.map #[] 0)).alloc (.cells #[.map (some w.heap.size)] 148)) (.map #[] 0);have e2:=World.alloc_heap_new w (.map #[] 0);simp only[World.size_alloc]at e3 e4;have hB0:Below w.heap.size w (((w.alloc (.map #[] 0)).alloc (.cells #[.map (some w.heap.size)] 148)).alloc (.map #[] 0)):=
  (((Below.refl _ w).alloc (aaI _) _).alloc AI _).alloc Bk _
 have hb3:(((w.alloc (.map #[] 0)).alloc (.cells #[.map (some w.heap.size)] 148)).alloc (.map #[] 0)).heap[w.heap.size+1]? = some (.cells #[.map (some w.heap.size)] 148 (0,0)):=(alloc_old _ _ AI).trans e3;have hm2:iB S β (((w.alloc (.map #[] 0)).alloc (.cells #[.map (some w.heap.size)] 148)).alloc (.map #[] 0)) w.heap.size []:=
  ⟨#[],0,(alloc_old _ _ Bk).trans ((alloc_old _ _ AI).trans e2),⟨rfl,fun i e x he=>by simp at he⟩,fun x hx=>by simp at hx,AI⟩
 have hm4:iB S β (((w.alloc (.map #[] 0)).alloc (.cells #[.map (some w.heap.size)] 148)).alloc (.map #[] 0)) (w.heap.size+1+1) []:=
  ⟨#[],0,e4,⟨rfl,fun i e x he=>by simp at he⟩,fun x hx=>by simp at hx,AI⟩
 generalize (((w.alloc (.map #[] 0)).alloc (.cells #[.map (some w.heap.size)] 148)).alloc (.map #[] 0))=W0 at hB0 hb3 hm2 hm4 |-;clear e2 e3 e4;refine wpIn_loop (fun a' W=>∃(k:Nat)(Ds:List Nat)(j1 j5 j6 j7 j8 j14 j15 j16 j17 j18 j19 j20 j21 j22 j23 j24 j25 j26 j27 j28 j29 j30 j31 j32 j33 j34 j35 j36 j37:Value),IdxI S β w l (w.heap.size+1) (w.heap.size+1+1) w.heap.size k Ds W/\k<=l.length/\a'= { tmps:=#[.slice a l.length cap,j1,.map none,.pointer (some ⟨w.heap.size+1,0,none⟩),.map (some (w.heap.size+1+1)),j5,j6,j7,j8,.map (some w.heap.size),.map (some (w.heap.size+1+1)),.slice a l.length cap,.int .i64 (l.length:Int),.int .i64 (k:Int),j14,j15,j16,j17,j18,j19,j20,j21,j22,j23,j24,j25,j26,j27,j28,j29,j30,j31,j32,j33,j34,j35,j36,j37],defers:=Ds.map fun D=>{ target:=.collected D,args:=#[] } })
  (fun a' _=>((l.length:Int)-intOf (a'.tmps.getD 13 undef)).toNat) ⟨0,[],undef,undef,undef,undef,undef,undef,undef,undef,undef,undef,undef,undef,undef,undef,undef,undef,undef,undef,undef,undef,undef,undef,undef,undef,undef,undef,undef,undef,undef,⟨hB0,hb3,⟨[],[],hm4,hm2,AI⟩,AI,AI⟩,aa1 _,rfl⟩ ?_
 rintro a1 W ⟨k,Ds,j1,j5,j6,j7,j8,j14,j15,j16,j17,j18,j19,j20,j21,j22,j23,j24,j25,j26,j27,j28,j29,j30,j31,j32,j33,j34,j35,j36,j37,hI,hk,rfl⟩;by_cases hlt:k<l.length
 ·obtain⟨m,hm,hMn,fz,hfz,hfuns,hsl,hs1',hs2',hs3',hs5',hs6',hs7',hs8'⟩:=hR.get hlt;have hkz:k<zs.length:=WD
  obtain⟨b,off,rfl,hb,hcs⟩:=hcells.resolve_left qr;have hkl:k<l.length:=WD
  obtain⟨seen,out,hs,ho,hidx⟩:=hI.maps;rw[Nb hm]at hidx;have hK0:gx w.heap.size w.heap.size w W:=aap hI.below;obtain⟨c0,c1,c2,c3,c4,c5,c6,c7,c8⟩:=(hcs.keep hK0 hb WD) k hkz;generalize hz:zs[k]?.getD default=z at hMn hfuns hsl hs1' hs2' hs3' hs5' hs6' hs7' hs8' c0 c1 c2 c3 c4 c5 c6 c7 c8;obtain⟨z0,z1,z2,z3,z4,z5,z6,z7,z8⟩:=z;simp only at hMn hfuns hsl hs1' hs2' hs3' hs5' hs6' hs7' hs8' c0 c1 c2 c3 c4 c5 c6 c7 c8;obtain⟨sp,sl,sc,rfl⟩:=hsl;obtain⟨p1,l1,q1,rfl⟩:=hs1';obtain⟨p2,l2,q2,rfl⟩:=hs2';obtain⟨p3,l3,q3,rfl⟩:=hs3';obtain⟨p5,rfl⟩:=hs5';obtain⟨p6,l6,q6,rfl⟩:=hs6';obtain⟨p7,l7,q7,rfl⟩:=hs7';obtain⟨p8,l8,q8,rfl⟩:=hs8';have hn1:W.heap.size<(W.alloc (.cells #[.string z0,.slice p1 l1 q1,.slice p2 l2 q2,.slice p3 l3 q3,.slice sp sl sc,.bool p5,.slice p6 l6 q6,.slice p7 l7 q7,.slice p8 l8 q8] 43)).heap.size:=AI
  have hB1:Below w.heap.size w (W.alloc (.cells #[.string z0,.slice p1 l1 q1,.slice p2 l2 q2,.slice p3 l3 q3,.slice sp sl sc,.bool p5,.slice p6 l6 q6,.slice p7 l7 q7,.slice p8 l8 q8] 43)):=hI.below.alloc hI.below.size _;have hr1:(W.alloc (.cells #[.string z0,.slice p1 l1 q1,.slice p2 l2 q2,.slice p3 l3 q3,.slice sp sl sc,.bool p5,.slice p6 l6 q6,.slice p7 l7 q7,.slice p8 l8 q8] 43)).heap[W.heap.size]? = some (.cells #[.string z0,.slice p1 l1 q1,.slice p2 l2 q2,.slice p3 l3 q3,.slice sp sl sc,.bool p5,.slice p6 l6 q6,.slice p7 l7 q7,.slice p8 l8 q8] 43 (0,0)):=World.alloc_heap_new W _;have hb31:(W.alloc (.cells #[.string z0,.slice p1 l1 q1,.slice p2 l2 q2,.slice p3 l3 q3,.slice sp sl sc,.bool p5,.slice p6 l6 q6,.slice p7 l7 q7,.slice p8 l8 q8] 43)).heap[w.heap.size+1]? = some (.cells #[.map (some w.heap.size)] 148 (0,0)):=(alloc_old W _ (aaQ.1 hI.b3).1).trans hI.b3;have hs1:=hs.kept (alloc_old W (.cells #[.string z0,.slice p1 l1 q1,.slice p2 l2 q2,.slice p3 l3 q3,.slice sp sl sc,.bool p5,.slice p6 l6 q6,.slice p7 l7 q7,.slice p8 l8 q8] 43) hs.lt);have ho1:=ho.kept (alloc_old W (.cells #[.string z0,.slice p1 l1 q1,.slice p2 l2 q2,.slice p3 l3 q3,.slice sp sl sc,.bool p5,.slice p6 l6 q6,.slice p7 l7 q7,.slice p8 l8 q8] 43) ho.lt);have hk1:∀D∈Ds,w.heap.size<=D/\(W.alloc (.cells #[.string z0,.slice p1 l1 q1,.slice p2 l2 q2,.slice p3 l3 q3,.slice sp sl sc,.bool p5,.slice p6 l6 q6,.slice p7 l7 q7,.slice p8 l8 q8] 43)).heap[D]? = some (.deferred (some [])):=fun D hD=>⟨(hI.marks.2 D hD).1,(alloc_old W _ (aaQ.1 (hI.marks.2 D hD).2).1).trans (hI.marks.2 D hD).2⟩;have hname:VR S β (.str m.1) (.string z0):=by simp only[VR];exact⟨z0,rfl,hMn⟩
  obtain⟨v,hlook,hvr⟩:=hs1.look (t:=156) (KU seen m.1) hname;simp only[VR]at hvr;subst hvr;by_cases hse:m.1∈seen
  ·rw[aaH hse]at hidx;simp only[hse,abj]at hlook
   gi_wp2_with (first
    |(gi_at_lookup;refine lq rfl _ _ 156 false rfl hlook ?_)
    |gi_in)
   refine⟨⟨k+1,Ds,_,_,_,_,_,_,_,_,_,_,_,_,_,_,_,_,_,_,_,_,_,_,_,_,_,_,_,_,_,⟨hB1,hb31,⟨seen,out,hs1,ho1,hidx⟩,hI.marks.1,hk1⟩,WD,rfl⟩,?_⟩;simp[intOf];omega
  ·rw[aaC hse]at hidx;simp only[hse,abO]at hlook;obtain⟨os,hupd,hos,hs2⟩:=hs1.put (t:=156) XV rfl (NV seen m.1 hse) hname (vv:=.bool true) (by simp only[VR]);have hx1:W.heap.size≠w.heap.size+1+1:=fun e=>by have:=hs.lt;omega
   obtain⟨W2,hW2⟩:∃W2,dw (W.alloc (.cells #[.string z0,.slice p1 l1 q1,.slice p2 l2 q2,.slice p3 l3 q3,.slice sp sl sc,.bool p5,.slice p6 l6 q6,.slice p7 l7 q7,.slice p8 l8 q8] 43)) (w.heap.size+1+1) os=W2:=⟨_,rfl⟩;have hr2:W2.heap[W.heap.size]? = some (.cells #[.string z0,.slice p1 l1 q1,.slice p2 l2 q2,.slice p3 l3 q3,.slice sp sl sc,.bool p5,.slice p6 l6 q6,.slice p7 l7 q7,.slice p8 l8 q8] 43 (0,0)):=by rw[<- hW2,cn _ _ _ hx1];exact hr1
   have hb32:W2.heap[w.heap.size+1]? = some (.cells #[.map (some w.heap.size)] 148 (0,0)):=by rw[<- hW2,cn _ _ _ WD];exact hb31
   have ho2:iB S β W2 w.heap.size (out.map (gz id)):=ho1.kept (by rw[<- hW2,cn _ _ _ WD]);have hB2:Below w.heap.size w W2:=by rw[<- hW2];exact hB1.grown (oO _ _ _) hB1.size (fun j e=>by cases e;omega)
   have hk2:∀D∈Ds,w.heap.size<=D/\W2.heap[D]? = some (.deferred (some [])):=fun D hD=>⟨(hk1 D hD).1,by
    rw[<- hW2,cn _ _ _ (fun e=>by obtain⟨en,cl,k1,_⟩:=hs1;rw[<- e,(hk1 D hD).2]at k1;cases k1)];exact (hk1 D hD).2⟩
   rw[hW2]at hupd hs2;have hsz2:W2.heap.size=W.heap.size+1:=by rw[<- hW2];simp[dw]
   clear hW2;have hcm0:W2.cell? ⟨W.heap.size,0,none⟩=some (.string z0):=by simp[World.cell?,hr2]
   have hcm4:W2.cell? ⟨W.heap.size,4,none⟩=some (.slice sp sl sc):=by simp[World.cell?,hr2]
   gi_wp2_with (first
    |(gi_at_lookup;refine lq rfl _ _ 156 false rfl hlook ?_)
    |(gi_at_mapUpdate;refine lr rfl _ _ _ 156 rfl hupd ?_)
    |(gi_at_call 113;refine (O1 F (n-1) f2 hro _ _ _ _).mono ?_;rintro e w' ⟨rfl,rfl⟩)
    |gi_in)
   obtain⟨yl,hyl,hye,hyo⟩:=Ut hfz;have hD:∀D∈Ds,D<W.heap.size:=fun D hD=>(aaQ.1 (hI.marks.2 D hD).2).1;have hs3:=hs2.kept (alloc_old W2 (.cells #[.slice sp sl sc] 39) hs2.lt);have ho3:=ho2.kept (alloc_old W2 (.cells #[.slice sp sl sc] 39) ho2.lt);have hB3:Below w.heap.size w (W2.alloc (.cells #[.slice sp sl sc] 39)):=hB2.alloc hB2.size _;have hr3:(W2.alloc (.cells #[.slice sp sl sc] 39)).heap[W.heap.size]? = some (.cells #[.string z0,.slice p1 l1 q1,.slice p2 l2 q2,.slice p3 l3 q3,.slice sp sl sc,.bool p5,.slice p6 l6 q6,.slice p7 l7 q7,.slice p8 l8 q8] 43 (0,0)):=(alloc_old W2 _ WD).trans hr2;have hb33:(W2.alloc (.cells #[.slice sp sl sc] 39)).heap[w.heap.size+1]? = some (.cells #[.map (some w.heap.size)] 148 (0,0)):=(alloc_old W2 _ (aaQ.1 hb32).1).trans hb32;have hbx3:(W2.alloc (.cells #[.slice sp sl sc] 39)).cell? ⟨W.heap.size+1,0,none⟩=some (.slice sp sl sc):=by
    have:=World.alloc_heap_new W2 (.cells #[.slice sp sl sc] 39)
    rw[hsz2]at this;simp[World.cell?,this]
   have hk3:∀D∈Ds,w.heap.size<=D/\(W2.alloc (.cells #[.slice sp sl sc] 39)).heap[D]? = some (.deferred (some [])):=fun D hd=>⟨(hk2 D hd).1,(alloc_old W2 _ (by have:=hD D hd;omega)).trans (hk2 D hd).2⟩;have hsz3:(W2.alloc (.cells #[.slice sp sl sc] 39)).heap.size=W.heap.size+2:=by simp[hsz2]
   have hwW:=hI.below.size;have hbsW:=hs.lt;generalize (W2.alloc (.cells #[.slice sp sl sc] 39))=W3 at hs3 ho3 hB3 hr3 hb33 hbx3 hk3 hsz3 |-;clear hs2 ho2 hB2 hr2 hb32 hk2 hsz2 hupd hcm0 hcm4 hlook hs1 ho1 hB1 hr1 hb31 hk1 hn1 W2;have hfl:=hfz.length;have hfm:=hmax.2 m (abg hm);have hF3:nk W3.heap.size w.heap.size W3 (.slice sp sl sc) fz:=(hfuns.keep (aap hB3)).mono WD;have keepO:∀(j:Nat)(X Y:World)(row:Option Nat)(o:Obj),X.heap[j]? = some o->j<W3.heap.size->X.grownBy Y row->(∀r,row=some r->W3.heap.size<=r/\∃o:Obj,X.heap[r]? = some o/\o.isCells=false)->Y.heap[j]? = X.heap[j]?:=fun j X Y row o hj hlt hg hr=>
    hg.block j (aaQ.1 hj).1 (fun e=>by have:=(hr j e.symm).1;omega)
   refine wpIn_rangeFunc_ownH hro h1 (gf:=147) (lb:=#[.pointer (some ⟨W.heap.size+1,0,none⟩)]) rfl f3 (enters_of Tryz.func147 BT rfl)
    (GQ F (n-1) f3 hro WD (W.heap.size+1) w.heap.size (.slice sp sl sc) fz WD (fun x:PF S β=>#[Value.int .i64 (x.1.1.1:Int),x.1.1.2.v]) yl hyl (fun k hk=>by rw[hye k hk]) W3 WD WD hbx3 hF3)
    PS (PR (aaI _)) (Below.refl _ _) (fun _=>rfl)
    (fun pre W'=>W3.heap.size<=W'.heap.size/\Below w.heap.size w W'/\W'.heap[w.heap.size+1]? = some (.cells #[.map (some w.heap.size)] 148 (0,0))/\W'.heap[W.heap.size]? = some (.cells #[.string z0,.slice p1 l1 q1,.slice p2 l2 q2,.slice p3 l3 q3,.slice sp sl sc,.bool p5,.slice p6 l6 q6,.slice p7 l7 q7,.slice p8 l8 q8] 43 (0,0))/\
     iB S β W' (w.heap.size+1+1) ((seen++[m.1]).map vL)/\iB S β W' w.heap.size ((rZ m.1 pre out).map (gz id))/\∀D∈Ds,w.heap.size<=D/\W'.heap[D]? = some (.deferred (some [])))
    (fun _ _ _=>False) ?hI (fun c s A B row h=>h.elim) ⟨aaI _,hB3,hb33,hr3,hs3,ho3,hk3⟩
    (fun y a' W'=>∃Bx,W.heap.size+2<=Bx/\W'.heap[Bx]? = some (.cells y.1.1.2.arr 51 (0,0))/\a'= { tmps:=#[.slice (some ⟨b,off,none⟩) l.length cap,j1,.map none,.pointer (some ⟨w.heap.size+1,0,none⟩),.map (some (w.heap.size+1+1)),j5,.pointer (some ⟨W.heap.size,0,none⟩),j7,.pointer (some ⟨Bx,0,none⟩),.map (some w.heap.size),.map (some (w.heap.size+1+1)),.slice (some ⟨b,off,none⟩) l.length cap,.int .i64 (l.length:Int),.int .i64 (k:Int),.bool true,.pointer (some ⟨b,off+k*9,none⟩),.agg #[.string z0,.slice p1 l1 q1,.slice p2 l2 q2,.slice p3 l3 q3,.slice sp sl sc,.bool p5,.slice p6 l6 q6,.slice p7 l7 q7,.slice p8 l8 q8],.map (some (w.heap.size+1+1)),.pointer (some ⟨W.heap.size,0,none⟩),.string z0,.bool false,.map (some (w.heap.size+1+1)),.pointer (some ⟨W.heap.size,0,none⟩),.string z0,.pointer (some ⟨W.heap.size,4,none⟩),.slice sp sl sc,.func (.func 147) #[] #[.pointer (some ⟨W.heap.size+1,0,none⟩)],.int .i64 (y.1.1.1:Int),y.1.1.2.v,j29,j30,j31,j32,j33,j34,j35,j36,j37],defers:=[] })
    ?hAx ?assign ?body ?done ?stop
   case hI=>
    rintro s X Y row ⟨i0,i1,i2,i3,i4,i5,i6⟩ hg hr;refine⟨abK i0 hg.size,i1.grown hg i1.size (fun k e=>by have:=(hr k e).1;omega),(keepO _ X Y row _ i2 WD hg hr).trans i2,(keepO _ X Y row _ i3 WD hg hr).trans i3,?_,?_,fun D hd=>⟨(i6 D hd).1,(keepO _ X Y row _ (i6 D hd).2 (by have:=hD D hd;omega) hg hr).trans (i6 D hd).2⟩⟩
    ·obtain⟨o,ho,_⟩:=i4.not_cells;exact i4.kept (keepO _ X Y row _ ho WD hg hr)
    ·obtain⟨o,ho,_⟩:=i5.not_cells;exact i5.kept (keepO _ X Y row _ ho WD hg hr)
   case hAx=>
    rintro y a' _ X Y row ⟨Bx,x1,x2,x3⟩ hg hr;exact⟨Bx,x1,(hg.block Bx (aaQ.1 x2).1 (fun e=>by obtain⟨_,o,ho,hc⟩:=hr Bx e.symm;rw[x2]at ho;cases ho;cases hc)).trans x2,x3⟩
   case assign=>
    rintro lo pre y W' K ⟨i0,i1,i2,i3,i4,i5,i6⟩ hK;obtain⟨⟨⟨yi,⟨y0,y1,y2,y3,y4,y5,y6,y7,y8,y9,y10,y11⟩⟩,yn,ya⟩,hy1,hy2,g1,g2,g3,g4,g5,g6,g7,g8,g9,g10,g11⟩:=y;simp only at hy1 hy2 g1 g2 g3 g4 g5 g6 g7 g8 g9 g10 g11;obtain⟨yv1,rfl⟩:=g1;obtain⟨yp2,yl2,yc2,rfl⟩:=g2;obtain⟨yv3,rfl⟩:=g3;obtain⟨yp4,yl4,yc4,rfl⟩:=g4;obtain⟨yv5,rfl⟩:=g5;obtain⟨yv6,rfl⟩:=g6;obtain⟨yv7,rfl⟩:=g7;obtain⟨yv8,rfl⟩:=g8;obtain⟨yv9,rfl⟩:=g9;obtain⟨yp10,yl10,yc10,rfl⟩:=g10;obtain⟨yp11,yl11,yc11,rfl⟩:=g11;simp only[F12.v,F12.arr]at hK |-
    gi_wp2
    exact hK _ _ ((KeepsOthers.alloc _ _).from _) (fun k hk _=>alloc_old W' _ WD) ⟨by simp;omega,i1.alloc i1.size _,(alloc_old W' _ (aaQ.1 i2).1).trans i2,(alloc_old W' _ (aaQ.1 i3).1).trans i3,i4.kept (alloc_old W' _ i4.lt),i5.kept (alloc_old W' _ i5.lt),fun D hd=>⟨(i6 D hd).1,(alloc_old W' _ (aaQ.1 (i6 D hd).2).1).trans (i6 D hd).2⟩⟩ ⟨W'.heap.size,WD,World.alloc_heap_new W' _,rfl⟩
   case body=>
    rintro lo pre y a' W' hl ⟨r,hr⟩ ⟨i0,i1,i2,i3,i4,i5,i6⟩ ⟨Bx,hbx,rx,rfl⟩ hlen;obtain⟨⟨⟨yi,⟨y0,y1,y2,y3,y4,y5,y6,y7,y8,y9,y10,y11⟩⟩,yn,ya⟩,hy1,hy2,g1,g2,g3,g4,g5,g6,g7,g8,g9,g10,g11⟩:=y;simp only at hy1 hy2 g1 g2 g3 g4 g5 g6 g7 g8 g9 g10 g11 rx;obtain⟨yv1,rfl⟩:=g1;obtain⟨yp2,yl2,yc2,rfl⟩:=g2;obtain⟨yv3,rfl⟩:=g3;obtain⟨yp4,yl4,yc4,rfl⟩:=g4;obtain⟨yv5,rfl⟩:=g5;obtain⟨yv6,rfl⟩:=g6;obtain⟨yv7,rfl⟩:=g7;obtain⟨yv8,rfl⟩:=g8;obtain⟨yv9,rfl⟩:=g9;obtain⟨yp10,yl10,yc10,rfl⟩:=g10;obtain⟨yp11,yl11,yc11,rfl⟩:=g11;simp only[F12.arr]at rx;simp only[F12.v]at hy2 |-;have hc3:W'.cell? ⟨w.heap.size+1,0,none⟩=some (.map (some w.heap.size)):=by simp[World.cell?,i2]
    have hcm0:W'.cell? ⟨W.heap.size,0,none⟩=some (.string z0):=by simp[World.cell?,i3]
    have hcy0:W'.cell? ⟨Bx,0,none⟩=some (.string y0):=by simp[World.cell?,rx]
    have hcy1:W'.cell? ⟨Bx,1,none⟩=some (.bool yv1):=by simp[World.cell?,rx]
    have hcy2:W'.cell? ⟨Bx,2,none⟩=some (.slice yp2 yl2 yc2):=by simp[World.cell?,rx]
    have hcy3:W'.cell? ⟨Bx,3,none⟩=some (.int .i64 yv3):=by simp[World.cell?,rx]
    have hcy4:W'.cell? ⟨Bx,4,none⟩=some (.slice yp4 yl4 yc4):=by simp[World.cell?,rx]
    have hcy5:W'.cell? ⟨Bx,5,none⟩=some (.int .i64 yv5):=by simp[World.cell?,rx]
    have hcy6:W'.cell? ⟨Bx,6,none⟩=some (.int .i64 yv6):=by simp[World.cell?,rx]
    have hcy7:W'.cell? ⟨Bx,7,none⟩=some (.int .i64 yv7):=by simp[World.cell?,rx]
    have hcy8:W'.cell? ⟨Bx,8,none⟩=some (.string yv8):=by simp[World.cell?,rx]
    have hcy9:W'.cell? ⟨Bx,9,none⟩=some (.string yv9):=by simp[World.cell?,rx]
    have hcy10:W'.cell? ⟨Bx,10,none⟩=some (.slice yp10 yl10 yc10):=by simp[World.cell?,rx]
    have hcy11:W'.cell? ⟨Bx,11,none⟩=some (.slice yp11 yl11 yc11):=by simp[World.cell?,rx]
    have hkr:VR S β (bE (m.1,yn)) (.agg #[.string z0,.string y0]):=by
     simp only[bE,VR,aZ];exact⟨_,rfl,_,_,rfl,⟨z0,rfl,hMn⟩,_,_,rfl,⟨y0,rfl,hy1⟩,rfl⟩
    obtain⟨om,hupd,hom,ho'⟩:=i5.put (t:=148) NC rfl (Ju id (rZ m.1 pre out) (m.1,yn) ya) hkr hy2
    gi_wp2_with (first
     |(gi_at_mapUpdate;refine lr rfl _ _ _ 148 rfl hupd ?_)
     |gi_in)
    refine⟨⟨by simp[dw],fun k o hk hko _=>(cn _ _ _ WD).trans hko⟩,fun k hk hn=>cn _ _ _ hn,by simp[dw];omega,i1.grown (oO _ _ _) i1.size (fun j e=>by cases e;omega),(cn _ _ _ WD).trans i2,(cn _ _ _ WD).trans i3,i4.kept (cn _ _ _ WD),?_,fun D hd=>⟨(i6 D hd).1,(cn _ _ _ (fun e=>?_)).trans (i6 D hd).2⟩⟩
    ·have hout:∀(x:PF S β),rZ m.1 (pre++[x]) out=kM (rZ m.1 pre out) (m.1,x.1.2.1) x.1.2.2:=fun x=>by simp[rZ]
     rw[hout];exact ho'
    ·obtain⟨o,hoo,_⟩:=i5.not_cells;obtain⟨en,cl,k1,_⟩:=i5;rw[<- e,(i6 D hd).2]at k1;cases k1
   case done=>
    rintro D ys W' hDl rfl ⟨i0,i1,i2,i3,i4,i5,i6⟩ hK
    gi_wp2
    rw[hyo]at i5;refine⟨⟨k+1,D:: Ds,_,_,_,_,_,_,_,_,_,_,_,_,_,_,_,_,_,_,_,_,_,_,_,_,_,_,_,_,_,⟨i1,i2,⟨seen++[m.1],_,i4,i5,hidx⟩,ab4.2 ⟨fun hd=>by have:=hD D hd;omega,hI.marks.1⟩,fun E hE=>?_⟩,WD,rfl⟩,?_⟩
    ·rcases aaT.1 hE with rfl|hE
     ·exact⟨WD,hK⟩
     ·exact i6 E hE
    ·simp[intOf];omega
   case stop=>
    rintro D c pre W' hD _ h hK;exact h.elim
 ·obtain rfl:k=l.length:=WD
  have hc3:W.cell? ⟨w.heap.size+1,0,none⟩=some (.map (some w.heap.size)):=by simp[World.cell?,hI.b3]
  gi_wp2
  obtain⟨seen,out,hs,ho,hidx⟩:=hI.maps;have hout:out=nz l [] []:=by simpa [nz]using hidx
  subst hout;refine s5 w.heap.size (fun W'=>Below w.heap.size w W'/\iB S β W' w.heap.size ((nz l [] []).map (gz id))) (fun W' D hD ⟨i1,i2⟩ hk=>⟨i1.trans (belowK_b (w:=w) (aaI _) W' D _ _ hD hk rfl rfl),i2.kept ?_⟩) (fun W' ⟨i1,i2⟩=>?_) Ds W hI.marks.1 hI.marks.2 ⟨hI.below,ho⟩
  ·refine World.putObj_heap_other (fun e=>?_);obtain⟨ents,clock,k1,_⟩:=i2;have:W'.heap[D]? = some (.map ents clock):=by first|(rw[e];exact k1)|(rw[<- e];exact k1)
   rw[this]at hk;cases hk
  ·exact⟨_,results_tmp rfl _ _ _,w.heap.size,rfl,aaI _,i2,i1⟩
end Go.Proofs.YtkkdcdofponfiaaGreat
namespace Go.Proofs.YtkkdcdofponfiaaGreat
open Go Go.Av Go.RowKit Go.Shelf
attribute [local go_sem] Oper.semAt_some
abbrev lz:=ByteArray×ByteArray
def qQ(x:lz):Value:=.agg #[.string x.1,.string x.2]
set_option maxRecDepth 100000 in
set_option maxHeartbeats 2000000 in
def HI(F:Fence)(n:Nat)(h10:F.fn 180)(hro:F.round=none)(hn:1<=n)(l Bm Bo b:Nat)(es:Array MapEntry)(clock:Nat)(ks:List lz)(hks:es.toList.map (·.key)=ks.map qQ)(hst:oC es.toList clock)(J Jx:List lz->World->Prop)
  (hY:∀pre x W,J pre W->pre.length<ks.length->YieldAt F (n-1) Tryz.prog l #[qQ x] W fun e W'=>
   (e= .returned (.bool true)/\J (pre++[x]) W'/\KeepsWalks W W')\/(e= .returned (.bool false)/\Jx (pre++[x]) W'))
  (W:World) (hJ:AbidesFrom W.heap.size J) (hm:W.cell? ⟨Bm,Bo,none⟩=some (.map (some b))) (hmap:W.heap[b]? = some (.map es clock)) (h0:J [] W):
  CallsIn F n Tryz.prog 180 #[.func (.yield l) #[] #[],.pointer (some ⟨Bm,Bo,none⟩)] W fun e W'=>(∃v,e= .returned v)/\
   ((∃ss:List lz,ss.Perm ks/\J ss W')\/(∃pre:List lz,True/\Jx pre W')):=by
 have hbl:b<W.heap.size:=(aaQ.1 hmap).1;have hlen:es.toList.length=ks.length:=by have:=aaY List.length hks;simpa using this
 have hrg:(Instr.range 226 (.map (some b))).run Tryz.prog W= .ok (.pointer (some ⟨W.heap.size,0,none⟩)) (W.alloc (.mapIter (some b) clock #[] clock)):=by
  simp[Instr.range,run_underlying Tryz.underlying226,mC hmap AI]
 refine callsIn_of_wp Tryz.func180 rfl h10 ?_ hro;simp only[Tryz.ntmps180,abp,aaX,aaW,Nat.reduceAdd,Nat.reduceSub,abw,abx,abJ,abC,aaU,aa2]
 gi_wp2_with (first
  |(gi_at_range;refine mI rfl _ 226 rfl hrg ?_)
  |gi_in)
 have hg0:W.grownBy (W.alloc (.mapIter (some b) clock #[] clock)) none:=World.grownBy_alloc W _ none;have hit0:(W.alloc (.mapIter (some b) clock #[] clock)).heap[W.heap.size]? = some (.mapIter (some b) clock #[] clock):=World.alloc_heap_new W _;have hmp0:(W.alloc (.mapIter (some b) clock #[] clock)).heap[b]? = some (.map es clock):=(alloc_old W _ hbl).trans hmap;have hJ0:=hJ [] W _ none h0 hg0 (fun r e=>by cases e);generalize (W.alloc (.mapIter (some b) clock #[] clock))=W0 at hit0 hmp0 hJ0 |-
 go_frame
 gi_loopw [3] (fun _ wr=>∃(seen:Array Nat)(last:Nat)(ss:List lz),wr.heap[W.heap.size]? = some (.mapIter (some b) clock seen last)/\clock<=last/\wr.heap[b]? = some (.map es clock)/\(ss++(dI es.toList seen).map (fun i=>ks[i]!)).Perm ks/\J ss wr)
  (fun _ wr=>Jh wr W.heap.size b)
 case atStart=>
  refine⟨#[],clock,[],hit0,aaI _,hmp0,?_,hJ0⟩;rw[Fo,hlen,aaU];have:(List.range ks.length).map (fun i=>ks[i]!)=ks:=by
   apply aco
   ·simp
   ·intro i h1 h2;simp[aaE h2]
  rw[this]
 case round=>
  obtain⟨seen,last,ss,hit,hcl,hmp,hpm,hJs⟩:=hrel;have hls:ss.length+(dI es.toList seen).length=ks.length:=by have:=hpm.length_eq;simpa using this
  have hiW:W.heap.size<wr.heap.size:=(aaQ.1 hit).1
  gi_wp2_with (first
   |(gi_at_next;refine tQ rfl _ rfl rfl hit hmp hst.1 hcl ?_ ?_)
   |gi_in)
  ·intro i1
   gi_wp2
   go_end0
   rw[i1]at hpm;exact⟨⟨_,rfl⟩,.inl ⟨ss,by simpa using hpm,hJs⟩⟩
  ·intro i u w1 i1 i2 i3;have i2:es.toList[i]? = some u:=by simpa using i2
   have hil:i<ks.length:=by rw[<- hlen];exact kd i2
   have hue:u.key=qQ ks[i]!:=by
    have:(es.toList.map (·.key))[i]? = (ks.map qQ)[i]?:=by rw[hks]
    rw[aby,aby,i2,aaE hil]at this;simp only[abq,aaB]at this;rw[this,aaG ks i hil]
   have hperm:=EH (zT es.toList seen) i1;have hpush:=s6 hst.2 (seen:=seen) i2;have hg1:wr.grownBy w1 none:=by rcases i3 with rfl|rfl;exact⟨rfl,rfl,rfl,aaI _,fun _ _ _=>rfl⟩;exact HA _
   obtain⟨w2,hw2⟩:∃w2,dw w1 W.heap.size (.mapIter (some b) clock (seen.push u.born) clock)=w2:=⟨_,rfl⟩;have hw1:w1.heap=wr.heap:=by rcases i3 with rfl|rfl<;>rfl
   have hit2:w2.heap[W.heap.size]? = some (.mapIter (some b) clock (seen.push u.born) clock):=by rw[<- hw2];exact mD _ (by rw[hw1];exact hiW)
   have hmp2:w2.heap[b]? = some (.map es clock):=by rw[<- hw2,cn _ _ _ WD,hw1];exact hmp
   have hJ1:J ss w1:=hJ ss wr w1 none hJs hg1 (fun r e=>by cases e);have hJ2:J ss w2:=by
    rw[<- hw2];exact hJ ss w1 _ (some W.heap.size) hJ1 (oO w1 _ _) (fun r e=>by cases e;exact⟨aaI _,_,by rw[hw1];exact hit,rfl⟩)
   have hen:=Ik (P:=Tryz.prog) hit2 hmp2 hst i2;rw[hue]at hen;rw[hw2,hue];clear hw2;have hsl:ss.length<ks.length:=by have:=hperm.length_eq;simp at this;omega
   generalize hkx:ks[i]! = kx at hen hue |-;obtain⟨k1,k2⟩:=kx;have hJ3:J ss (w2.alloc (.cells #[.string k1,.string k2] 53)):=hJ ss w2 _ none hJ2 (World.grownBy_alloc w2 _ none) (fun r e=>by cases e);have hit3:(w2.alloc (.cells #[.string k1,.string k2] 53)).heap[W.heap.size]? = some (.mapIter (some b) clock (seen.push u.born) clock):=(alloc_old w2 _ (aaQ.1 hit2).1).trans hit2;have hmp3:(w2.alloc (.cells #[.string k1,.string k2] 53)).heap[b]? = some (.map es clock):=(alloc_old w2 _ (aaQ.1 hmp2).1).trans hmp2;obtain⟨fn,tmps,assign,body,hy,hR⟩:=hY ss (k1,k2) _ hJ3 hsl;simp only[qQ]at hen hy |-
   gi_wp2
   refine hR.mono ?_;rintro e W3 (⟨rfl,hJ3,hk3⟩|⟨rfl,hJx3⟩)
   ·gi_wp2
    have hit3:=hk3.same _ _ hit3 rfl;have hmp3:=hk3.same _ _ hmp3 rfl
    go_roundw
    case rel=>
     refine⟨_,_,ss++[(k1,k2)],hit3,aaI _,hmp3,?_,hJ3⟩;rw[hpush];refine List.Perm.trans ?_ hpm;rw[ab0];refine List.Perm.append_left ss ?_;exact ((hperm.map fun i=>ks[i]!).trans (by rw[aa0,hkx];rfl)).symm
    case measure=>
     simp only[Jh,hit3,hmp3,hit,hmp,hpush]
     have:=hperm.length_eq
     simp at this;omega
   ·gi_wp2
    refine bodyPost_ret (results_none rfl _ _ _) rfl ?_;exact⟨⟨_,rfl⟩,.inr ⟨ss++[(k1,k2)],trivial,hJx3⟩⟩
set_option maxRecDepth 100000 in
set_option maxHeartbeats 1000000 in
def Fe(F:Fence)(n:Nat)(h10:F.fn 180)(hro:F.round=none)(l Bm Bo:Nat)(J:List lz->World->Prop)(W:World)(hJ:AbidesFrom W.heap.size J)(hm:W.cell? ⟨Bm,Bo,none⟩=some (.map none))(h0:J [] W):
  CallsIn F n Tryz.prog 180 #[.func (.yield l) #[] #[],.pointer (some ⟨Bm,Bo,none⟩)] W fun e W'=>(∃v,e= .returned v)/\J [] W':=by
 have hrg:(Instr.range 226 (.map none)).run Tryz.prog W= .ok (.pointer (some ⟨W.heap.size,0,none⟩)) (W.alloc (.mapIter none 0 #[] 0)):=by
  simp[Instr.range,run_underlying Tryz.underlying226]
 refine callsIn_of_wp Tryz.func180 rfl h10 ?_ hro;simp only[Tryz.ntmps180,abp,aaX,aaW,Nat.reduceAdd,Nat.reduceSub,abw,abx,abJ,abC,aaU,aa2]
 gi_wp2_with (first
  |(gi_at_range;refine mI rfl _ 226 rfl hrg ?_)
  |gi_in)
 have hit0:(W.alloc (.mapIter none 0 #[] 0)).heap[W.heap.size]? = some (.mapIter none 0 #[] 0):=World.alloc_heap_new W _;have hJ0:=hJ [] W _ none h0 (World.grownBy_alloc W (.mapIter none 0 #[] 0) none) (fun r e=>by cases e);generalize (W.alloc (.mapIter none 0 #[] 0))=W0 at hit0 hJ0 |-;have hnx:∀ty,(Instr.next (.pointer (some ⟨W.heap.size,0,none⟩)) false ty).run Tryz.prog W0= .ok (.tuple #[.bool false]) W0:=fun ty=>by
  simp[Instr.next,mC hit0 AI]
 go_frame
 gi_loopw [3] (fun _ wr=>wr=W0) (fun _ _=>0)
 case atStart=>rfl
 case round=>
  subst hrel
  gi_wp2_with (first
   |(gi_at_next;refine jJ rfl _ rfl (hnx _) ?_)
   |gi_in)
  go_end0
  exact⟨⟨_,rfl⟩,hJ0⟩
def qX(F:Fence)(n:Nat)(h10:F.fn 180)(hro:F.round=none)(hn:1<=n)(Bm Bo:Nat)(ks:List lz)(w:World)(hBm:Bm<w.heap.size)(hc:(w.cell? ⟨Bm,Bo,none⟩=some (.map none)/\ks=[])\/∃b es clock,w.cell? ⟨Bm,Bo,none⟩=some (.map (some b))/\w.heap[b]? = some (.map es clock)/\oC es.toList clock/\es.toList.map (·.key)=ks.map qQ):
  SeqStopsK F n Tryz.prog 180 #[.pointer (some ⟨Bm,Bo,none⟩)] (fun x:lz=>#[qQ x]) KeepsWalks (fun ss=>ss.Perm ks) (fun _=>True) ks.length w:=fun l J Jx W hW hJ _ hY h0=>by
 rcases hc with⟨hc,rfl⟩|⟨b,es,clock,hc,hmap,hst,hks⟩
 ·exact (Fe F n h10 hro l Bm Bo J W hJ ((hW.cell (p:=⟨Bm,Bo,none⟩) hBm).trans hc) h0).mono fun e W' ⟨he,hj⟩=>⟨he,.inl ⟨[],.refl _,hj⟩⟩
 ·exact HI F n h10 hro hn l Bm Bo b es clock ks hks hst J Jx hY W hJ ((hW.cell (p:=⟨Bm,Bo,none⟩) hBm).trans hc) ((hW.block b (aaQ.1 hmap).1).trans hmap) h0
attribute [local go_sem] Oper.semAt_some
def ma(x:lz):List Value:=[.string x.1,.string x.2]
def TP:(Tryz.prog.info? 53).map (fun i=>(i.zero,i.size,i.bytes))=some (some (.agg #[.string ⟨#[]⟩,.string ⟨#[]⟩]),2,32):=BT
def cell_two_new(w:World)(x y:Value)(t:TypeId):∀j u,[x,y][j]? = some u->(w.alloc (.cells #[x,y] t)).cell? ((⟨w.heap.size,0,none⟩:Addr).add j)=some u:=by
 intro j u hj
 match j,hj with
 |0,hj=>simp at hj;subst hj;simp[Addr.add]
 |1,hj=>simp at hj;subst hj;simp[Addr.add]
set_option maxRecDepth 100000 in
set_option maxHeartbeats 4000000 in
def SR(F:Fence)(n:Nat)(h3:F.fn 187)(hro:F.round=none)(hn:3<=n)(g:Nat)(lb:Array Value)(hFg:F.fn g)(eg:∀args w,(callFunc g args).run Tryz.prog w= .ok (.enter g args) w)(S Sp:List lz->Prop)(N:Nat)(hN:N<=1000000)(w:World)(hseq:SeqStopsK F (n-1) Tryz.prog g lb (fun x:lz=>#[qQ x]) KeepsWalks S Sp N w):
  CallsIn F n Tryz.prog 187 #[.slice none 0 0,.func (.func g) #[] lb] w fun e w'=>∃v ss,e= .returned v/\S ss/\w'.ownsRow w.heap.size 53 2 v ss.length (ss.flatMap ma)/\(v= .slice none 0 0↔ss=[])/\Below w.heap.size w w':=by
 have h1:1<=n:=WD
 obtain⟨i0,hi,hz0,hz1,hz2⟩:=info_parts TP;refine callsIn_of_wp_marks Tryz.func187 rfl h3 ?_ hro;simp only[Tryz.ntmps187,abp,aaX,aaW,Nat.reduceAdd,Nat.reduceSub,abw,abx,abJ,abC,aaU,aa2]
 gi_wp2
 have b0:=Boxed.new w 68 (.slice none 0 0);have hB0:Below w.heap.size w (w.alloc (.cells #[.slice none 0 0] 68)):=(Below.refl _ w).alloc (aaI _) _;have hsz:(w.alloc (.cells #[.slice none 0 0] 68)).heap.size=w.heap.size+1:=AI
 obtain⟨W0,hW0⟩:∃W0,w.alloc (.cells #[.slice none 0 0] 68)=W0:=⟨_,rfl⟩;rw[hW0]at b0 hB0 hsz |-;clear hW0;refine wpIn_rangeFunc_ownH hro h1 (gf:=g) (lb:=lb) rfl hFg eg hseq walksK_t walksK_b hB0 (fun _=>rfl)
  (fun pre W=>(∃v,Boxed W w.heap.size 68 v/\W.ownsRow w.heap.size 53 2 v pre.length (pre.flatMap ma)/\(v= .slice none 0 0↔pre=[]))/\Below w.heap.size w W)
  (fun _ _ _=>False)
  ?hI (fun c s A B row h=>h.elim) ⟨⟨_,b0,World.ownsRow_nil _ _ _ _,AI⟩,hB0⟩
  (fun y a' W=>∃Bx,w.heap.size<Bx/\W.heap[Bx]? = some (.cells #[.string y.1,.string y.2] 53 (0,0))/\a'= { tmps:=#[.slice none 0 0,.func (.func g) #[] lb,.pointer (some ⟨w.heap.size,0,none⟩),undef,.slice none 0 0,.pointer (some ⟨Bx,0,none⟩),.func (.func g) #[] lb,qQ y,undef,undef,undef,undef,undef],defers:=[] })
  (fun y a' _ X Y row hs hg hr=>by
   obtain⟨Bx,h1,h2,h3⟩:=hs;exact⟨Bx,h1,(hg.block Bx (aaQ.1 h2).1 (fun e=>by obtain⟨_,o,ho,hc⟩:=hr Bx e.symm;rw[h2]at ho;cases ho;cases hc)).trans h2,h3⟩)
  ?assign ?body ?done ?stop
 case hI=>
  exact OwnFrom.and (Own.from (holdsRow_own w.heap.size w.heap.size 68 53 2 (fun pre:List lz=>pre.length) (fun pre=>pre.flatMap ma) (fun pre v=>(v= .slice none 0 0↔pre=[]))) _) (ownFrom_below (aaI _) WD)
 case assign=>
  rintro l pre y W K ⟨⟨v,hv,hr,hnl⟩,hB⟩ hK;obtain⟨y1,y2⟩:=y;simp only[qQ]at hK |-
  gi_wp2
  exact hK _ _ ((KeepsOthers.alloc _ _).from _) (KeepsWalks.alloc _ _) ⟨⟨v,hv.alloc _,hr.alloc _,hnl⟩,hB.alloc hB.size _⟩ ⟨W.heap.size,hv.lt,World.alloc_heap_new W _,rfl⟩
 case body=>
  rintro l pre y a' W hl ⟨r,hr⟩ ⟨⟨v,hv,hrow,hnl⟩,hB⟩ ⟨Bx,hlt,rx,rfl⟩ hlen;obtain⟨y1,y2⟩:=y;simp only at rx |-;have zB:W.cell? ⟨Bx,0,none⟩=some (.string y1):=by simp[World.cell?,rx]
  have cx1:W.cell? ⟨Bx,1,none⟩=some (.string y2):=by simp[World.cell?,rx]
  have hvc:=hv.cell
  gi_wp2_with (first
   |(gi_at_builtin;refine wpListIn_append_own _ rfl _ _ 68 rfl w.heap.size 53 i0 (.agg #[.string ⟨#[]⟩,.string ⟨#[]⟩]) 2 32 Tryz.underlying68 hi hz0 hz1 hz2 rfl Vc _ _ _ rfl (hrow.alloc _) ⟨W.heap.size,0,none⟩ 1 1 [.string y1,.string y2] rfl rfl (cell_two_new _ _ _ _) (by simp[Value.oneCell']) (by unfold maxLen;omega) WD (by have:=hB.size;simp;omega) ?_;intro v' w1 hown' hgrow _;obtain⟨g',cap',rfl⟩:=ownsRow_succ hown';obtain⟨hv1,hv2,hr2,hk2,hb2⟩:=hv.appended Vc hrow hB.size (aaI _) hown' hgrow;have hc1:=hv1.cell;have hf1:=hv1.frozen)
   |gi_in)
  refine⟨hk2.from _,⟨hk2.size,fun k o h hw=>hk2.same k o h (Obj.not_cells_of_walk hw)⟩,⟨_,hv2,?_,AI⟩,hB.trans hb2⟩;have e1:(pre++[(y1,y2)]).length=pre.length+1:=AI
  have e2:(pre++[(y1,y2)]).flatMap ma=pre.flatMap ma++[.string y1,.string y2]:=by simp[ma]
  rw[e1,e2];exact hr2
 case done=>
  rintro D ys W hD hS ⟨⟨v,hv,hrow,hnl⟩,hB⟩ hK;have hvc:=hv.cell
  gi_wp2
  refine⟨AI,.inl ⟨_,_,rfl,run_takeDeferred hK,?_⟩⟩;exact⟨_,results_tmp rfl _ _ _,v,ys,rfl,hS,ownsRow_putObj hrow _ hK rfl,hnl,hB.trans (belowK_b (w:=w) (aaI _) W D _ _ WD hK rfl rfl)⟩
 case stop=>
  rintro D c pre W hD _ h hK;exact h.elim
end Go.Proofs.YtkkdcdofponfiaaGreat
namespace Go.Proofs.YtkkdcdofponfiaaGreat
open Go Go.Av Go.Av.Ap
set_option maxRecDepth 100000
noncomputable section
abbrev FW(G:(List AV->M AV)->List AV->M AV):Prop:=∀vs,ae G vs=G (ae G) vs
def lB{α β:Type}{m:M α}{f:α->M β}{fs:Nat->α->M β}(hf:cy f fs):dl (ah m f) fun n=>ah m (fs n):=dl.bnd (eT _) hf
def lA{β:Type}{f:β->M AV}{fs:Nat->β->M AV}(h:cy f fs)(x:β):dl (f x) fun n=>fs n x:=h x
def lZ{F:(List AV->M AV)->List AV->M AV}{Fs:Nat->(List AV->M AV)->List AV->M AV}(vs:List AV)(h1:∀a b,cy a b->∀v,dl (F a v) fun n=>Fs n (b n) v)(h2:∀a b,cy a b->∀v,dl (F a v) fun n=>F (b n) v)(h3:∀n a b,cy a b->∀v,dl (Fs n a v) fun k=>Fs n (b k) v):dl (ae F vs) fun n=>ae (Fs n) vs:=Ky h1 h2 h3 vs
def gL{G:(List AV->M AV)->List AV->M AV}(h:∀a b,cy a b->∀v,dl (G a v) fun n=>G (b n) v:=by intros;repeat' first|with_reducible refine lB fun _=>?_|with_reducible refine uc ?_ ?_|with_reducible exact eT _|(with_reducible refine lA ?_ _;assumption)|with_reducible (refine lZ _ ?_ ?_ ?_<;>intros)|with_reducible refine xW ?_|with_reducible refine Br ?_|with_reducible (refine yF ?_ ?_ _)|with_reducible (refine dl.bnd ?_ fun _=>?_)|refine lB fun _=>?_|refine uc ?_ ?_|(refine lA ?_ _;assumption)|(refine yF ?_ ?_ _)):FW G:=fun vs=>I9 h vs
def cY{k:Nat}{fn:Go.Func}{g:Ann}{xs l:List AV}{m:M AV}(h1:pg.other k=none:=by exact rfl)(h2:pg.funcs k=some (fn,g):=by exact rfl)(h3:g.iso=true:=by exact rfl)(hl:ek ao xs=l:=by exact rfl)(h:cB (pg.cx (callW pg) fn.ntmps g) ae fn (own k) l=m:=by kernel_rfl):callW pg k xs=aI m:=by subst hl;exact (hP hOther h1 h2 h3 xs).trans (aaY aI h)
def cZ{k:Nat}{fn:Go.Func}{g:Ann}{xs:List AV}{m:M AV}(h1:pg.other k=none:=by exact rfl)(h2:pg.funcs k=some (fn,g):=by exact rfl)(h3:g.iso=false:=by exact rfl)(h:cB (pg.cx (callW pg) fn.ntmps g) ae fn (own k) xs=m:=by kernel_rfl):callW pg k xs=m:=(GZ hOther h1 h2 h3 xs).trans h
def K3_0(call:CC)(fx:aX AV)(a:RR)(b:List AV):M AV:=bd .add 3 (aa b 8) (qi 1) fun c=>a (Ye b [c,aa b 9,aa b 10,aa b 11,aa b 12,aa b 13,aa b 14,aa b 15,aa b 16,aa b 17,aa b 18,aa b 19,aa b 20,aa b 21,aa b 22,aa b 23,aa b 24])
def L3_0(call:CC)(fx:aX AV)(a:RR)(b:RR)(c:List AV):M AV:=uD 22 (aa c 9) (aa c 7) fun d=>aN 43 d 4 39 fun e=>dJ 39 e fun f=>ck .lss 3 (aa c 8) f (jn (K3_0 call fx b) fun g=>uD 22 (aa c 9) (aa c 7) fun h=>aN 43 h 0 9 fun i=>aN 53 (aa c 4) 0 9 fun j=>bd .eql 9 i j fun k=>jK k (Qr 22 (aa c 9) (aa c 7) fun l=>dE 43 l 4 39 fun m=>Qr 39 m (aa c 8) fun n=>dE 51 n 0 9 fun o=>dE 53 (aa c 4) 1 9 fun p=>dU .eql 9 o p fun q=>af [q]) fun r=>aw r (uD 22 (aa c 9) (aa c 7) fun s=>aN 43 s 4 39 fun u=>ez 39 u (aa c 8) 51 fun v=>ee 12 [] v fun w=>g (Yd c (yT (ab w)))) (g (Yb c))) (bd .add 3 (aa c 7) (qi 1) fun x=>a (Uu c [x,aa c 9,aa c 10,aa c 11,aa c 12,aa c 13,aa c 14,aa c 15,aa c 16,aa c 17,aa c 18,aa c 19,aa c 20,aa c 21,aa c 22,aa c 23,aa c 24]))
def L3_1(call:CC)(fx:aX AV)(a:RR)(b:List AV):M AV:=aN 60 (aa b 5) 3 24 fun c=>dJ 24 c fun d=>ck .lss 3 (aa b 7) d (gw (aa b 6) (zC 33 (aa b 0) fun e=>dE 60 (aa b 5) 3 24 fun f=>X8 24 f (aa b 7) 65 fun g=>ah (cj (call 11 [e,aa b 14,g])) fun h=>af [h]) fun i=>bd .add 3 (aa b 7) (qi 1) fun j=>a (Li b [i,j,aa b 8,aa b 9,aa b 10,aa b 11,aa b 12,aa b 13,aa b 14,aa b 15,aa b 16,aa b 17,aa b 18,aa b 19,aa b 20,aa b 21,aa b 22,aa b 23])) (mL UnOp.not (aa b 6) fun k=>aw k (af (aa b 1)) (aN 60 (aa b 4) 3 24 fun l=>zZ l fun m=>zZ (.bool true) fun n=>cw 33 (aa b 0) fun o=>ah (call 12 [.agg [aa b 8,aa b 9,l,n],o]) fun p=>zZ (.bool false) fun q=>cw 33 (aa b 0) fun r=>ah (call 12 [.agg [aa b 8,aa b 9,l,q],r]) fun s=>cw 33 (aa b 0) fun u=>ah (cj (call 14 [.agg [aa b 8,aa b 9,l,q],u])) fun v=>aN 43 (aa b 2) 0 9 fun w=>aN 51 (aa b 3) 0 9 fun x=>gp false 53 [(0,w),(1,x)] fun y=>ah (cj (call 13 [v,y])) fun z=>jK (aa b 1) (af [z]) fun A=>jK A (dU .neq 3 p (qi 0) fun B=>af [B]) fun C=>jK C (dU .neq 3 s (qi 0) fun D=>af [D]) fun E=>ah (bq E true 1 (vG UnOp.not (aa b 13) fun F=>af [F])) fun G=>ah (bq (aa G 0) false 1 (dU .eql 3 p (qi 2) fun H=>af [H])) fun I=>ah (bq (aa I 0) true 1 (dU .eql 3 s (qi 2) fun J=>af [J])) fun K=>ah (bq (aa G 0) false 1 (LD (aa I 0) (aa K 0) (.bool false) fun L=>af [L])) fun N=>jK E (LD (aa G 0) (.bool true) (aa N 0) fun O=>af [O]) fun P=>af P))
def L3_2(call:CC)(fx:aX AV)(a:RR)(b:List AV):M AV:=dJ 22 (aa b 8) fun c=>ck .lss 3 (aa b 7) c (fx (L3_0 call fx a) (Ye b [qi 0,aa b 8,aa b 9,aa b 10,aa b 11,aa b 12,aa b 13,aa b 14,aa b 15,aa b 16,aa b 17,aa b 18,aa b 19,aa b 20,aa b 21,aa b 22,aa b 23])) (fx (L3_1 call fx) (tA b [aa b 5,aa b 6,.bool false,qi 0,aa b 8,aa b 9,aa b 10,aa b 11,aa b 12,aa b 13,aa b 14,aa b 15,aa b 16,aa b 17,aa b 18,aa b 19,aa b 20,aa b 21,aa b 22,aa b 23]))
def L3_3(call:CC)(fx:aX AV)(a:RR)(b:List AV):M AV:=dJ 34 (aa b 1) fun c=>ck .lss 3 (aa b 7) c (ez 34 (aa b 1) (aa b 7) 47 fun d=>ah (call 7 [d,qi 30,qi 8]) fun e=>ck .gtr 3 e (qi 30) (af (aa b 5)) (bd .add 3 (aa b 7) (qi 1) fun f=>a (Uu b [f,aa b 8,aa b 9,aa b 10,aa b 11]))) (aN 43 (aa b 6) 4 39 fun g=>ez 39 g (aa b 0) 51 fun h=>fM 12 h fun i=>cw 33 (aa b 4) fun j=>ah (call 8 [.agg [aa b 8,aa b 9,aa b 10,aa b 11],j]) fun k=>eV k 0 fun l=>eV k 1 fun m=>fM 2 l fun n=>aN 43 (aa b 6) 0 9 fun o=>aN 51 (qc i) 0 9 fun p=>ah (call 9 [aa b 8,o,p,aa b 1,aa b 2,aa b 3]) fun q=>fM 8 q fun r=>ah (cj (call 10 [aa b 8])) fun s=>aN 43 (aa b 6) 0 9 fun u=>aN 51 (qc i) 0 9 fun v=>ah (cj (call 9 [s,u,v,aa b 1,aa b 2,aa b 3])) fun w=>fM 8 w fun x=>mL UnOp.not m fun y=>gw y (dE 51 (qc i) 1 4 fun z=>vG UnOp.not z fun A=>af [A]) fun B=>gw B (dE 60 (qc r) 0 56 fun C=>dE 60 (qc x) 0 56 fun D=>dU .neq 56 C D fun E=>af [E]) fun F=>aw F (af (aa b 5)) (gp false 51 [] fun G=>ee 12 [] G fun H=>fx (L3_2 call fx) [aa b 4,aa b 5,aa b 6,qc i,qc n,qc r,qc x,qi 0,aa b 8,aa b 9,aa b 10,aa b 11,aa (ab H) 0,aa (ab H) 1,aa (ab H) 2,aa (ab H) 3,aa (ab H) 4,aa (ab H) 5,aa (ab H) 6,aa (ab H) 7,aa (ab H) 8,aa (ab H) 9,aa (ab H) 10,aa (ab H) 11]))
def FL3_0(call:CC)(a:RR):FW (L3_0 call ae a):=gL
def FL3_1(call:CC):FW (L3_1 call ae):=gL
def FL3_2(call:CC):FW (L3_2 call ae):=gL
def FL3_3(call:CC):FW (L3_3 call ae):=gL
def S3(call:CC)(fx:aX AV)(a0 a1 a2 a3 a4 a5 a6:AV):M AV:=fM 4 a0 fun a=>ah (call 4 []) fun b=>cw 33 (qc a1) fun c=>ah (call 5 [.agg [aa (ab a) 0,aa (ab a) 1,.sl [],aa (ab a) 3],c]) fun d=>mL UnOp.not d fun e=>gw e (dU .lss 3 a2 (qi 0) fun f=>af [f]) fun g=>gw g (pt 22 (aa (ab a) 0) fun h=>dU .geq 3 a2 h fun i=>af [i]) fun j=>gw j (dU .lss 3 a6 (qi 0) fun k=>af [k]) fun l=>gw l (dU .gtr 3 a6 (qi 1000) fun m=>af [m]) fun n=>gw n (pt 35 a5 fun o=>dU .gtr 3 o (qi 30) fun p=>af [p]) fun q=>gw q (pt 34 a4 fun r=>dU .gtr 3 r (qi 6) fun s=>af [s]) fun u=>aw u (af b) (ez 22 (aa (ab a) 0) a2 43 fun v=>fM 9 v fun w=>bd .lss 3 a3 (qi 0) fun x=>gw x (dE 43 (qc w) 4 39 fun y=>pt 39 y fun z=>dU .geq 3 a3 z fun A=>af [A]) fun B=>gw B (ah (call 6 [aa (ab a) 0]) fun C=>vG UnOp.not C fun D=>af [D]) fun E=>aw E (af b) (fx (L3_3 call fx) [a3,a4,a5,a6,qc a1,b,qc w,qi 0,aa (ab a) 0,aa (ab a) 1,.sl [],aa (ab a) 3]))
def C3(a0 a1 a2 a3 a4 a5 a6:AV):callW pg 3 [a0,a1,a2,a3,a4,a5,a6]=aI (S3 (callW pg) ae (cl ao a0) (cl ao a1) (cl ao a2) (cl ao a3) (cl ao a4) (cl ao a5) (cl ao a6)):=cY
def L7_0(call:CC)(fx:aX AV)(a:RR)(b:List AV):M AV:=aN 47 (aa b 2) 3 34 fun c=>dJ 34 c fun d=>bd .lss 3 (aa b 4) d fun e=>jK e (dU .leq 3 (aa b 3) (aa b 0) fun f=>af [f]) fun g=>aw g (aN 47 (aa b 2) 3 34 fun h=>ez 34 h (aa b 4) 47 fun i=>bd .sub 3 (aa b 0) (aa b 3) fun j=>bd .sub 3 (aa b 1) (qi 1) fun k=>ah (call 7 [i,j,k]) fun l=>bd .add 3 (aa b 3) l fun m=>bd .add 3 (aa b 4) (qi 1) fun n=>a (gq b [m,n])) (af (aa b 3))
def FL7_0(call:CC):FW (L7_0 call ae):=gL
def S7(call:CC)(fx:aX AV)(a0 a1 a2:AV):M AV:=ck .lss 3 a2 (qi 1) (bd .add 3 a1 (qi 1) fun a=>af a) (fx (L7_0 call fx) [a1,a2,qc a0,qi 1,qi 0])
def C7(a0 a1 a2:AV):callW pg 7 [a0,a1,a2]=aI (S7 (callW pg) ae (cl ao a0) (cl ao a1) (cl ao a2)):=cY
def S8(call:CC)(fx:aX AV)(a0 a1:AV):M AV:=cw 26 (qc a0) fun a=>cw 33 (qc a1) fun b=>ah (call 26 [a,b]) fun c=>eV c 0 fun d=>eV c 1 fun e=>fM 12 d fun f=>mL UnOp.not e fun g=>aw g (gp false 53 [] fun h=>ee 2 [] h fun i=>af (.tup [.agg [aa (ab i) 0,aa (ab i) 1],.bool false])) (aN 33 (qc a1) 1 9 fun j=>aN 33 (qc a1) 3 9 fun k=>gp false 53 [(0,j),(1,k)] fun l=>ee 2 [] l fun m=>af (.tup [.agg [aa (ab m) 0,aa (ab m) 1],.bool true]))
def C8(a0 a1:AV):callW pg 8 [a0,a1]=aI (S8 (callW pg) ae (cl ao a0) (cl ao a1)):=cY
def L19_0(call:CC)(fx:aX AV)(a:RR)(b:List AV):M AV:=dJ 35 (aa b 0) fun c=>ck .lss 3 (aa b 2) c (ez 35 (aa b 0) (aa b 2) 3 fun d=>ez 35 (aa b 1) (aa b 2) 3 fun e=>ck .neq 3 d e (af (.bool false)) (bd .add 3 (aa b 2) (qi 1) fun f=>a [aa b 0,aa b 1,f])) (af (.bool true))
def FL19_0(call:CC):FW (L19_0 call ae):=gL
def S19(call:CC)(fx:aX AV)(a0 a1:AV):M AV:=dJ 35 a0 fun a=>dJ 35 a1 fun b=>ck .neq 3 a b (af (.bool false)) (fx (L19_0 call fx) [a0,a1,qi 0])
def C19(a0 a1:AV):callW pg 19 [a0,a1]=aI (S19 (callW pg) ae (cl ao a0) (cl ao a1)):=cY
def L27_0(call:CC)(fx:aX AV)(a:RR)(b:RR)(c:List AV):M AV:=ck .lss 3 (aa c 6) (aa c 5) (ez 29 (aa c 4) (aa c 6) 31 fun d=>fM 6 d fun e=>cw 31 (qc e) fun f=>ah (call 29 [f,.sl [],.sl []]) fun g=>eV g 0 fun h=>eV g 1 fun i=>fM 4 h fun j=>ck .neq 56 i (qi 0) (af (.tup [.sl [],i])) (cw 47 (qc j) fun k=>nd 34 1 [(0,k)] fun l=>ah (bJ (cC T 34 (aa c 8) l)) fun m=>zZ m fun n=>bd .add 3 (aa c 6) (qi 1) fun o=>b (Li c [o,aa c 7,m]))) (nd 58 1 [(0,.agg [aa c 7,aa c 8])] fun p=>ah (bJ (cC T 58 (aa c 0) p)) fun q=>bd .add 3 (aa c 3) (qi 1) fun r=>a [q,aa c 1,aa c 2,r])
def L27_1(call:CC)(fx:aX AV)(a:RR)(b:List AV):M AV:=ck .lss 3 (aa b 3) (aa b 2) (ez 22 (aa b 1) (aa b 3) 43 fun c=>fM 9 c fun d=>aN 43 (qc d) 0 9 fun e=>gp true 131 [(0,e)] fun f=>ee 2 [1] f fun g=>aN 43 (qc d) 3 29 fun h=>dJ 29 h fun i=>aN 43 (qc d) 2 38 fun j=>dJ 38 j fun k=>ck .neq 3 i k (af (.tup [.sl [],qi 13])) (aN 43 (qc d) 3 29 fun l=>dJ 29 l fun m=>fx (L27_0 call fx a) (tA b [l,m,qi 0,aa (ab g) 0,.sl []]))) (af (.tup [aa b 0,qi 0]))
def FL27_0(call:CC)(a:RR):FW (L27_0 call ae a):=gL
def FL27_1(call:CC):FW (L27_1 call ae):=gL
def S27(call:CC)(fx:aX AV)(a0:AV):M AV:=ah (call 50 [a0]) fun a=>ck .neq 56 a (qi 0) (af (.tup [.sl [],a])) (dJ 22 a0 fun b=>fx (L27_1 call fx) [.sl [],a0,b,qi 0])
def C27(a0:AV):callW pg 27 [a0]=aI (S27 (callW pg) ae (cl ao a0)):=cY
def S33(call:CC)(fx:aX AV)(a0:AV):M AV:=gp false 47 [(0,qi 0),(1,a0)] fun a=>ee 4 [] a fun b=>af (.agg (il (ab b)))
def C33(a0:AV):callW pg 33 [a0]=aI (S33 (callW pg) ae (cl ao a0)):=cY
def K37_0(call:CC)(fx:aX AV)(a:List AV):M AV:=gY 43 (aa a 0) 6 fun b=>aN 41 b 0 38 fun c=>ah (call 73 [c,qi 8]) fun d=>jK d (Us 43 (aa a 0) 6 fun e=>dE 41 e 1 29 fun f=>ah (call 76 [f,aa a 2]) fun g=>af [g]) fun h=>jK h (Us 43 (aa a 0) 6 fun i=>dE 41 i 2 29 fun j=>ah (call 76 [j,aa a 1]) fun k=>af [k]) fun l=>af l
def L37_0(call:CC)(fx:aX AV)(a:RR)(b:List AV):M AV:=ck .lss 3 (aa b 4) (aa b 3) (ez 39 (aa b 2) (aa b 4) 51 fun c=>fM 12 c fun d=>aN 51 (qc d) 0 9 fun e=>ah (eL T 156 (aa b 1) e false) fun f=>gw f (dE 51 (qc d) 0 9 fun g=>ah (call 72 [g]) fun h=>vG UnOp.not h fun i=>af [i]) fun j=>gw j (dE 51 (qc d) 2 38 fun k=>ah (call 73 [k,qi 6]) fun l=>vG UnOp.not l fun m=>af [m]) fun n=>gw n (dE 51 (qc d) 3 49 fun o=>ah (call 74 [o]) fun p=>vG UnOp.not p fun q=>af [q]) fun r=>gw r (dE 51 (qc d) 5 31 fun s=>ah (call 75 [s]) fun u=>vG UnOp.not u fun v=>af [v]) fun w=>gw w (dE 51 (qc d) 4 3 fun x=>dU .andNot 3 x (qi 15) fun y=>dU .neq 3 y (qi 0) fun z=>af [z]) fun A=>aw A (af (.bool false)) (aN 51 (qc d) 0 9 fun B=>ah (oo T 156 (aa b 1) B (.bool true)) fun C=>bd .add 3 (aa b 4) (qi 1) fun D=>a (tA b [D]))) (aN 43 (aa b 0) 0 9 fun E=>ah (call 72 [E]) fun F=>mL UnOp.not F fun G=>gw G (dE 43 (aa b 0) 1 28 fun H=>pt 28 H fun I=>dU .gtr 3 I (qi 12) fun J=>af [J]) fun K=>gw K (dE 43 (aa b 0) 4 39 fun L=>pt 39 L fun N=>dU .gtr 3 N (qi 30) fun O=>af [O]) fun P=>gw P (dE 43 (aa b 0) 2 38 fun Q=>ah (call 73 [Q,qi 8]) fun R=>vG UnOp.not R fun S=>af [S]) fun U=>gw U (dE 43 (aa b 0) 3 29 fun V=>dE 43 (aa b 0) 2 38 fun W=>pt 38 W fun X=>ah (call 76 [V,X]) fun Y=>vG UnOp.not Y fun Z=>af [Z]) fun u0=>aw u0 (af (.bool false)) (gY 43 (aa b 0) 6 fun u1=>aN 41 u1 0 38 fun u2=>dJ 38 u2 fun u3=>aN 43 (aa b 0) 2 38 fun u4=>dJ 38 u4 fun u5=>jn (K37_0 call fx) fun u6=>aN 43 (aa b 0) 5 4 fun u7=>mL UnOp.not u7 fun u8=>aw u8 (ck .gtr 3 u3 (qi 0) (af (.bool false)) (u6 [aa b 0,u3,qi 0])) (u6 [aa b 0,u3,u5])))
def L37_1(call:CC)(fx:aX AV)(a:RR)(b:List AV):M AV:=ck .lss 3 (aa b 4) (aa b 3) (ez 28 (aa b 2) (aa b 4) 9 fun c=>ah (eL T 156 (aa b 1) c false) fun d=>gw d (ah (call 72 [c]) fun e=>vG UnOp.not e fun f=>af [f]) fun g=>aw g (af (.bool false)) (ah (oo T 156 (aa b 1) c (.bool true)) fun h=>bd .add 3 (aa b 4) (qi 1) fun i=>a (tA b [i]))) (ah fK fun j=>aN 43 (aa b 0) 4 39 fun k=>dJ 39 k fun l=>fx (L37_0 call fx) [aa b 0,j,k,l,qi 0])
def FL37_0(call:CC):FW (L37_0 call ae):=gL
def FL37_1(call:CC):FW (L37_1 call ae):=gL
def S37(call:CC)(fx:aX AV)(a0:AV):M AV:=ah fK fun a=>aN 43 (qc a0) 1 28 fun b=>dJ 28 b fun c=>fx (L37_1 call fx) [qc a0,a,b,c,qi 0]
def C37(a0:AV):callW pg 37 [a0]=aI (S37 (callW pg) ae (cl ao a0)):=cY
def L38_0(call:CC)(fx:aX AV)(a:RR)(b:List AV):M AV:=ck .lss 3 (aa b 3) (aa b 2) (ez 38 (aa b 1) (aa b 3) 96 fun c=>fM 3 c fun d=>aN 43 (aa b 0) 0 9 fun e=>aN 43 (aa b 0) 2 38 fun f=>gY 43 (aa b 0) 6 fun g=>aN 41 g 2 29 fun h=>ez 29 h (aa b 3) 31 fun i=>aN 96 (qc d) 1 49 fun j=>ah (cj (call 77 [e,f,i,j])) fun k=>ck .neq 56 k (qi 0) (aN 96 (qc d) 0 9 fun l=>af (.tup [l,k])) (bd .add 3 (aa b 3) (qi 1) fun m=>a (gq b [m]))) (af (.tup [.str [],qi 0]))
def L38_1(call:CC)(fx:aX AV)(a:RR)(b:List AV):M AV:=ck .lss 3 (aa b 3) (aa b 2) (ez 38 (aa b 1) (aa b 3) 96 fun c=>fM 3 c fun d=>aN 43 (aa b 0) 0 9 fun e=>gY 43 (aa b 0) 6 fun f=>aN 41 f 0 38 fun g=>gY 43 (aa b 0) 6 fun h=>aN 41 h 1 29 fun i=>ez 29 i (aa b 3) 31 fun j=>aN 96 (qc d) 1 49 fun k=>ah (cj (call 77 [e,g,j,k])) fun l=>ck .neq 56 l (qi 0) (aN 96 (qc d) 0 9 fun m=>af (.tup [m,l])) (bd .add 3 (aa b 3) (qi 1) fun n=>a (gq b [n]))) (gY 43 (aa b 0) 6 fun o=>aN 41 o 0 38 fun p=>dJ 38 p fun q=>fx (L38_0 call fx) [aa b 0,p,q,qi 0])
def L38_2(call:CC)(fx:aX AV)(a:RR)(b:List AV):M AV:=ck .lss 3 (aa b 3) (aa b 2) (ez 38 (aa b 1) (aa b 3) 96 fun c=>fM 3 c fun d=>aN 43 (aa b 0) 0 9 fun e=>aN 43 (aa b 0) 3 29 fun f=>ez 29 f (aa b 3) 31 fun g=>aN 96 (qc d) 1 49 fun h=>ah (cj (call 77 [e,.sl [],g,h])) fun i=>ck .neq 56 i (qi 0) (aN 96 (qc d) 0 9 fun j=>af (.tup [j,i])) (bd .add 3 (aa b 3) (qi 1) fun k=>a (gq b [k]))) (aN 43 (aa b 0) 5 4 fun l=>mL UnOp.not l fun m=>aw m (af (.tup [.str [],qi 0])) (aN 43 (aa b 0) 2 38 fun n=>dJ 38 n fun o=>fx (L38_1 call fx) [aa b 0,n,o,qi 0]))
def FL38_0(call:CC):FW (L38_0 call ae):=gL
def FL38_1(call:CC):FW (L38_1 call ae):=gL
def FL38_2(call:CC):FW (L38_2 call ae):=gL
def S38(call:CC)(fx:aX AV)(a0:AV):M AV:=aN 43 (qc a0) 2 38 fun a=>dJ 38 a fun b=>fx (L38_2 call fx) [qc a0,a,b,qi 0]
def C38(a0:AV):callW pg 38 [a0]=aI (S38 (callW pg) ae (cl ao a0)):=cY
def K39_0(call:CC)(fx:aX AV)(a:List AV):M AV:=cw 31 (aa a 0) fun b=>ah (call 83 [b,aa a 1]) fun c=>eV c 0 fun d=>eV c 1 fun e=>ee 2 [] d fun f=>af (.tup [.agg [aa (ab f) 0,aa (ab f) 1],e])
def K39_1(call:CC)(fx:aX AV)(a:List AV):M AV:=aw (aa a 4) (cw 31 (aa a 2) fun b=>ah (call 80 [aa a 0,aa a 1,b]) fun c=>eV c 0 fun d=>eV c 1 fun e=>ee 2 [] d fun f=>af (.tup [.agg [aa (ab f) 0,aa (ab f) 1],e])) (ck .eql 3 (aa a 3) (qi 15) (cw 31 (aa a 2) fun g=>ah (call 81 [aa a 0,aa a 1,g]) fun h=>eV h 0 fun i=>eV h 1 fun j=>ee 2 [] i fun k=>af (.tup [.agg [aa (ab k) 0,aa (ab k) 1],j])) (aN 31 (aa a 2) 5 29 fun l=>ah (call 82 [aa a 0,aa a 1,l]) fun m=>eV m 0 fun n=>eV m 1 fun o=>ck .neq 56 o (qi 0) (gp false 49 [] fun p=>ee 2 [] p fun q=>af (.tup [.agg [aa (ab q) 0,aa (ab q) 1],o])) (jn (K39_0 call fx) fun r=>aN 31 (aa a 2) 0 3 fun s=>ck .eql 3 s (qi 16) (oz (aa a 0) fun u=>gY 113 u 2 fun v=>q9 3 v fun w=>aN 31 (aa a 2) 1 3 fun x=>bd .or 3 w x fun y=>oz (aa a 0) fun z=>gY 113 z 2 fun A=>yS 3 A y fun B=>r [aa a 2,n,aa a 5,aa a 6]) (r [aa a 2,n,aa a 5,aa a 6]))))
def S39(call:CC)(fx:aX AV)(a0 a1 a2:AV):M AV:=aN 31 (qc a2) 0 3 fun a=>ck .eql 3 a (qi 2) (aN 31 (qc a2) 2 9 fun b=>ah (call 78 [a1,b]) fun c=>eV c 0 fun d=>eV c 1 fun e=>fM 2 d fun f=>aw e (cw 49 (qc f) fun g=>ee 2 [] g fun h=>af (.tup [.agg [aa (ab h) 0,aa (ab h) 1],qi 0])) (gp false 49 [] fun i=>ee 2 [] i fun j=>af (.tup [.agg [aa (ab j) 0,aa (ab j) 1],qi 12]))) (ck .eql 3 a (qi 12) (aN 31 (qc a2) 5 29 fun k=>ez 29 k (qi 0) 31 fun l=>ah (call 39 [a0,a1,l]) fun m=>eV m 0 fun n=>eV m 1 fun o=>fM 2 n fun p=>ck .neq 56 o (qi 0) (gp false 49 [] fun q=>ee 2 [] q fun r=>af (.tup [.agg [aa (ab r) 0,aa (ab r) 1],o])) (aN 31 (qc a2) 2 9 fun s=>cw 49 (qc p) fun u=>gp false 96 [(0,s),(1,u)] fun v=>nd 38 1 [(0,v)] fun w=>aN 31 (qc a2) 5 29 fun x=>ez 29 x (qi 1) 31 fun y=>ah (call 79 [a1]) fun z=>ah (bJ (cC T 38 z w)) fun A=>ah (call 39 [a0,A,y]) fun B=>eV B 0 fun C=>eV B 1 fun D=>ee 2 [] C fun E=>af (.tup [.agg [aa (ab E) 0,aa (ab E) 1],D]))) (jn (K39_1 call fx) fun F=>bd .eql 3 a (qi 17) fun G=>aw G (F [a0,a1,qc a2,a,G,qi 0,.sl []]) (bd .eql 3 a (qi 18) fun H=>F [a0,a1,qc a2,a,H,qi 0,.sl []])))
def C39(a0 a1 a2:AV):callW pg 39 [a0,a1,a2]=S39 (callW pg) ae a0 a1 a2:=cZ
def S43(call:CC)(fx:aX AV)(a0 a1:AV):M AV:=aN 121 (qc a0) 0 9 fun a=>aN 121 (qc a1) 0 9 fun b=>ah (call 44 [a,b]) fun c=>af c
def C43(a0 a1:AV):callW pg 43 [a0,a1]=aI (S43 (callW pg) ae (cl ao a0) (cl ao a1)):=cY
def L45_0(call:CC)(fx:aX AV)(a:RR)(b:List AV):M AV:=ck .lss 3 (aa b 3) (aa b 2) (ez 22 (aa b 0) (aa b 3) 43 fun c=>ah (bj call (aa b 1) [c]) fun d=>aw d (af (aa b 3)) (bd .add 3 (aa b 3) (qi 1) fun e=>a (gq b [e]))) (af (qi (-1)))
def FL45_0(call:CC):FW (L45_0 call ae):=gL
def S45(call:CC)(fx:aX AV)(a0 a1:AV):M AV:=dJ 22 a0 fun a=>fx (L45_0 call fx) [a0,a1,a,qi 0]
def C45(a0 a1:AV):callW pg 45 [a0,a1]=aI (S45 (callW pg) ae (cl ao a0) (cl ao a1)):=cY
def S46(call:CC)(fx:aX AV)(a0 a1:AV):M AV:=aN 43 (qc a0) 0 9 fun a=>aN 33 a1 1 9 fun b=>bd .eql 9 a b fun c=>af c
def C46(a0 a1:AV):callW pg 46 [a0,a1]=aI (S46 (callW pg) ae (cl ao a0) (cl ao a1)):=cY
def S55(call:CC)(fx:aX AV)(a0:AV):M AV:=cw 47 (qc a0) fun a=>ah (call 56 [a]) fun b=>mL UnOp.not b fun c=>af c
def C55(a0:AV):callW pg 55 [a0]=aI (S55 (callW pg) ae (cl ao a0)):=cY
def S59(call:CC)(fx:aX AV)(a0 a1 a2 a3:AV):M AV:=cw 133 a0 fun a=>cw 3 a1 fun b=>cw 51 a2 fun c=>cw 34 a3 fun d=>ah (call 60 [a,b,c,d]) fun e=>ee 4 [] e fun f=>af (.agg (il (ab f)))
def C59(a0 a1 a2 a3:AV):callW pg 59 [a0,a1,a2,a3]=S59 (callW pg) ae a0 a1 a2 a3:=cZ
def S70(call:CC)(fx:aX AV)(a0 a1:AV):M AV:=ah (call 117 [a0,a1]) fun a=>bd .geq 3 a (qi 0) fun b=>af b
def C70(a0 a1:AV):callW pg 70 [a0,a1]=aI (S70 (callW pg) ae (cl ao a0) (cl ao a1)):=cY
def S72(call:CC)(fx:aX AV)(a0:AV):M AV:=ah (call 118 [a0]) fun a=>jK a (dU .add 9 (.str [32]) a0 fun b=>dU .add 9 b (.str [32]) fun c=>ah (call 119 [.str [32,97,110,100,32,98,97,99,107,32,98,111,111,108,32,99,108,111,99,107,32,101,108,115,101,32,102,97,108,115,101,32,102,105,108,101,115,32,102,110,32,102,111,114,119,97,114,100,32,103,101,116,32,105,102,32,105,110,32,105,110,116,32,108,101,116,32,109,111,100,117,108,101,32,109,111,118,101,32,110,101,116,32,110,111,116,32,111,114,32,112,117,98,32,115,101,99,114,101,116,115,32,115,101,116,32,116,104,101,110,32,116,114,117,101,32,117,115,101,32,118,97,114,32],c]) fun d=>vG UnOp.not d fun e=>af [e]) fun f=>af f
def C72(a0:AV):callW pg 72 [a0]=aI (S72 (callW pg) ae (cl ao a0)):=cY
def L73_0(call:CC)(fx:aX AV)(a:RR)(b:List AV):M AV:=ck .lss 3 (aa b 5) (aa b 4) (ez 38 (aa b 3) (aa b 5) 96 fun c=>fM 3 c fun d=>aN 96 (qc d) 0 9 fun e=>ah (eL T 156 (aa b 2) e false) fun f=>gw f (dE 96 (qc d) 0 9 fun g=>ah (call 72 [g]) fun h=>vG UnOp.not h fun i=>af [i]) fun j=>gw j (dE 96 (qc d) 1 49 fun k=>ah (call 74 [k]) fun l=>vG UnOp.not l fun m=>af [m]) fun n=>aw n (af (.bool false)) (aN 96 (qc d) 0 9 fun o=>ah (oo T 156 (aa b 2) o (.bool true)) fun p=>bd .add 3 (aa b 5) (qi 1) fun q=>a (H9 b [q]))) (dJ 38 (aa b 0) fun r=>bd .leq 3 r (aa b 1) fun s=>af s)
def FL73_0(call:CC):FW (L73_0 call ae):=gL
def S73(call:CC)(fx:aX AV)(a0 a1:AV):M AV:=ah fK fun a=>dJ 38 a0 fun b=>fx (L73_0 call fx) [a0,a1,a,a0,b,qi 0]
def C73(a0 a1:AV):callW pg 73 [a0,a1]=aI (S73 (callW pg) ae (cl ao a0) (cl ao a1)):=cY
def K80_0(call:CC)(fx:aX AV)(a:List AV):M AV:=cw 49 (aa a 0) fun b=>ee 2 [] b fun c=>af (.tup [.agg [aa (ab c) 0,aa (ab c) 1],qi 0])
def S80(call:CC)(fx:aX AV)(a0 a1 a2:AV):M AV:=oz a0 fun a=>gY 113 a 0 fun b=>gY 43 b 2 fun c=>q9 38 c fun d=>aN 31 (qc a2) 2 9 fun e=>ah (call 78 [d,e]) fun f=>eV f 0 fun g=>eV f 1 fun h=>fM 2 g fun i=>mL UnOp.not h fun j=>aw j (gp false 49 [] fun k=>ee 2 [] k fun l=>af (.tup [.agg [aa (ab l) 0,aa (ab l) 1],qi 12])) (jn (K80_0 call fx) fun m=>aN 31 (qc a2) 0 3 fun n=>ck .eql 3 n (qi 18) (aN 31 (qc a2) 5 29 fun o=>ez 29 o (qi 0) 31 fun p=>ah (call 39 [a0,a1,p]) fun q=>eV q 0 fun r=>eV q 1 fun s=>fM 2 r fun u=>ck .neq 56 s (qi 0) (gp false 49 [] fun v=>ee 2 [] v fun w=>af (.tup [.agg [aa (ab w) 0,aa (ab w) 1],s])) (cw 49 (qc u) fun x=>cw 49 (qc i) fun y=>ah (call 40 [x,y]) fun z=>mL UnOp.not z fun A=>aw A (gp false 49 [] fun B=>ee 2 [] B fun C=>af (.tup [.agg [aa (ab C) 0,aa (ab C) 1],qi 13])) (m [qc i,qi 0,.sl []]))) (m [qc i,qi 0,.sl []]))
def C80(a0 a1 a2:AV):callW pg 80 [a0,a1,a2]=S80 (callW pg) ae a0 a1 a2:=cZ
def L81_0(call:CC)(fx:aX AV)(a:RR)(b:List AV):M AV:=ck .lss 3 (aa b 4) (aa b 3) (ez 119 (aa b 2) (aa b 4) 49 fun c=>fM 2 c fun d=>cw 49 (qc d) fun e=>aN 121 (aa b 1) 1 119 fun f=>ez 119 f (aa b 4) 49 fun g=>ah (cj (call 40 [e,g])) fun h=>mL UnOp.not h fun i=>aw i (gp false 49 [] fun j=>ee 2 [] j fun k=>af (.tup [.agg [aa (ab k) 0,aa (ab k) 1],qi 13])) (bd .add 3 (aa b 4) (qi 1) fun l=>a (tA b [l,aa b 5,aa b 6]))) (oz (aa b 0) fun m=>gY 113 m 2 fun n=>q9 3 n fun o=>aN 121 (aa b 1) 3 3 fun p=>bd .or 3 o p fun q=>oz (aa b 0) fun r=>gY 113 r 2 fun s=>yS 3 s q fun u=>aN 121 (aa b 1) 2 49 fun v=>ee 2 [] v fun w=>af (.tup [.agg [aa (ab w) 0,aa (ab w) 1],qi 0]))
def FL81_0(call:CC):FW (L81_0 call ae):=gL
def S81(call:CC)(fx:aX AV)(a0 a1 a2:AV):M AV:=cw 31 (qc a2) fun a=>ah (call 123 [a0,a]) fun b=>eV b 0 fun c=>eV b 1 fun d=>fM 5 c fun e=>mL UnOp.not d fun f=>aw f (gp false 49 [] fun g=>ee 2 [] g fun h=>af (.tup [.agg [aa (ab h) 0,aa (ab h) 1],qi 12])) (aN 121 (qc e) 1 119 fun i=>dJ 119 i fun j=>aN 31 (qc a2) 5 29 fun k=>dJ 29 k fun l=>ck .neq 3 j l (gp false 49 [] fun m=>ee 2 [] m fun n=>af (.tup [.agg [aa (ab n) 0,aa (ab n) 1],qi 13])) (aN 31 (qc a2) 5 29 fun o=>ah (call 82 [a0,a1,o]) fun p=>eV p 0 fun q=>eV p 1 fun r=>ck .neq 56 r (qi 0) (gp false 49 [] fun s=>ee 2 [] s fun u=>af (.tup [.agg [aa (ab u) 0,aa (ab u) 1],r])) (dJ 119 q fun v=>fx (L81_0 call fx) [a0,qc e,q,v,qi 0,qi 0,.sl []])))
def C81(a0 a1 a2:AV):callW pg 81 [a0,a1,a2]=S81 (callW pg) ae a0 a1 a2:=cZ
def S85(call:CC)(fx:aX AV)(a0 a1:AV):M AV:=aN 49 a1 1 38 fun a=>aN 96 (qc a0) 0 9 fun b=>ah (call 78 [a,b]) fun c=>eV c 0 fun d=>eV c 1 fun e=>fM 2 d fun f=>mL UnOp.not e fun g=>gw g (zC 49 (qc f) fun h=>dE 96 (qc a0) 1 49 fun i=>ah (call 40 [h,i]) fun j=>vG UnOp.not j fun k=>af [k]) fun l=>af l
def C85(a0 a1:AV):callW pg 85 [a0,a1]=aI (S85 (callW pg) ae (cl ao a0) (cl ao a1)):=cY
def S91(call:CC)(fx:aX AV)(a0 a1:AV):M AV:=aN 103 (qc a0) 0 75 fun a=>cw 75 (qc a1) fun b=>ah (call 139 [a,b]) fun c=>bd .leq 3 c (qi 0) fun d=>jK d (zC 75 (qc a1) fun e=>dE 103 (qc a0) 1 75 fun f=>ah (call 139 [e,f]) fun g=>dU .lss 3 g (qi 0) fun h=>af [h]) fun i=>af i
def C91(a0 a1:AV):callW pg 91 [a0,a1]=aI (S91 (callW pg) ae (cl ao a0) (cl ao a1)):=cY
def S92(call:CC)(fx:aX AV)(a0 a1:AV):M AV:=ah (call 45 [a0,a1]) fun a=>bd .geq 3 a (qi 0) fun b=>af b
def C92(a0 a1:AV):callW pg 92 [a0,a1]=aI (S92 (callW pg) ae (cl ao a0) (cl ao a1)):=cY
def L94_0(call:CC)(fx:aX AV)(a:RR)(b:List AV):M AV:=ck .lss 3 (aa b 4) (aa b 3) (ez 22 (aa b 2) (aa b 4) 43 fun c=>fM 9 c fun d=>ez 58 (aa b 0) (aa b 4) 131 fun e=>fM 2 e fun f=>cw 43 (qc d) fun g=>cw 131 (qc f) fun h=>ah (bj call (aa b 1) [g,h]) fun i=>mL UnOp.not i fun j=>aw j (af (.bool false)) (bd .add 3 (aa b 4) (qi 1) fun k=>a (tA b [k]))) (af (.bool true))
def FL94_0(call:CC):FW (L94_0 call ae):=gL
def S94(call:CC)(fx:aX AV)(a0 a1 a2:AV):M AV:=dJ 22 a0 fun a=>dJ 58 a1 fun b=>ck .neq 3 a b (af (.bool false)) (dJ 22 a0 fun c=>fx (L94_0 call fx) [a1,a2,a0,c,qi 0])
def C94(a0 a1 a2:AV):callW pg 94 [a0,a1,a2]=aI (S94 (callW pg) ae (cl ao a0) (cl ao a1) (cl ao a2)):=cY
def S96(call:CC)(fx:aX AV)(a0:AV):M AV:=cw 47 (qc a0) fun a=>ah (call 56 [a]) fun b=>mL UnOp.not b fun c=>af c
def C96(a0:AV):callW pg 96 [a0]=aI (S96 (callW pg) ae (cl ao a0)):=cY
def S98(call:CC)(fx:aX AV)(a0 a1:AV):M AV:=aN 51 (qc a0) 0 9 fun a=>cw 9 a1 fun b=>bd .eql 9 a b fun c=>af c
def C98(a0 a1:AV):callW pg 98 [a0,a1]=aI (S98 (callW pg) ae (cl ao a0) (cl ao a1)):=cY
def S108(call:CC)(fx:aX AV)(a0 a1 a2:AV):M AV:=cw 146 (qc a1) fun a=>cw 31 (qc a2) fun b=>ah (call 63 [a0,a,b]) fun c=>fM 4 c fun d=>aN 47 (qc d) 0 3 fun e=>bd .eql 3 e (qi 1) fun f=>ah (call 102 [f,qi 13]) fun g=>aN 47 (qc d) 1 3 fun h=>bd .eql 3 h (qi 1) fun i=>af i
def C108(a0 a1 a2:AV):callW pg 108 [a0,a1,a2]=S108 (callW pg) ae a0 a1 a2:=cZ
def L116_0(call:CC)(fx:aX AV)(a:RR)(b:List AV):M AV:=ck .lss 3 (aa b 3) (aa b 2) (ez 35 (aa b 1) (aa b 3) 3 fun c=>ck .neq 3 c (aa b 0) (af c) (bd .add 3 (aa b 3) (qi 1) fun d=>a (gq b [d]))) (af (aa b 0))
def FL116_0(call:CC):FW (L116_0 call ae):=gL
def S116(call:CC)(fx:aX AV)(a0:AV):M AV:=dJ 35 a0 fun a=>fx (L116_0 call fx) [qi 0,a0,a,qi 0]
def C116(a0:AV):callW pg 116 [a0]=aI (S116 (callW pg) ae (cl ao a0)):=cY
def L120_0(call:CC)(fx:aX AV)(a:RR)(b:List AV):M AV:=ck .lss 3 (aa b 4) (aa b 3) (ez 38 (aa b 2) (aa b 4) 96 fun c=>fM 3 c fun d=>aN 96 (qc d) 0 9 fun e=>ah (cj (call 72 [e])) fun f=>mL UnOp.not f fun g=>ah (bq g false 1 (dU .gtr 3 (aa b 4) (qi 0) fun h=>af [h])) fun i=>ah (bq (aa i 0) true 1 (dE 96 (qc d) 0 9 fun j=>dE 49 (aa b 1) 1 38 fun k=>dU .sub 3 (aa b 4) (qi 1) fun l=>Qr 38 k l fun m=>dE 96 m 0 9 fun n=>dU .leq 9 j n fun o=>af [o])) fun p=>gw g (LD (aa i 0) (aa p 0) (.bool false) fun q=>af [q]) fun r=>gw r (dE 96 (qc d) 1 49 fun s=>dU .sub 3 (aa b 0) (qi 1) fun u=>ah (cj (call 120 [s,u])) fun v=>vG UnOp.not v fun w=>af [w]) fun x=>aw x (af (.bool false)) (bd .add 3 (aa b 4) (qi 1) fun y=>a (tA b [y]))) (af (.bool true))
def FL120_0(call:CC):FW (L120_0 call ae):=gL
def S120(call:CC)(fx:aX AV)(a0 a1:AV):M AV:=bd .eql 3 a1 (qi 0) fun a=>gw a (dE 49 (qc a0) 0 3 fun b=>dU .lss 3 b (qi 0) fun c=>af [c]) fun d=>gw d (dE 49 (qc a0) 0 3 fun e=>dU .geq 3 e (qi 3) fun f=>af [f]) fun g=>gw g (dE 49 (qc a0) 1 38 fun h=>pt 38 h fun i=>dU .gtr 3 i (qi 8) fun j=>af [j]) fun k=>ah (bq k false 1 (dE 49 (qc a0) 0 3 fun l=>dU .neq 3 l (qi 2) fun m=>af [m])) fun n=>ah (bq (aa n 0) true 1 (dE 49 (qc a0) 1 38 fun o=>pt 38 o fun p=>dU .gtr 3 p (qi 0) fun q=>af [q])) fun r=>gw k (LD (aa n 0) (aa r 0) (.bool false) fun s=>af [s]) fun u=>aw u (af (.bool false)) (aN 49 (qc a0) 1 38 fun v=>dJ 38 v fun w=>fx (L120_0 call fx) [a1,qc a0,v,w,qi 0])
def C120(a0 a1:AV):callW pg 120 [a0,a1]=aI (S120 (callW pg) ae (cl ao a0) (cl ao a1)):=cY
def L126_0(call:CC)(fx:aX AV)(a:RR)(b:List AV):M AV:=ck .lss 3 (aa b 3) (aa b 2) (ez 38 (aa b 1) (aa b 3) 96 fun c=>fM 3 c fun d=>aN 49 (aa b 0) 1 38 fun e=>aN 96 (qc d) 0 9 fun f=>ah (call 78 [e,f]) fun g=>eV g 0 fun h=>eV g 1 fun i=>fM 2 h fun j=>aw i (aN 96 (qc d) 1 49 fun k=>cw 49 (qc j) fun l=>ah (call 126 [k,l]) fun m=>eV m 0 fun n=>eV m 1 fun o=>fM 2 n fun p=>aw o (aN 96 (qc d) 0 9 fun q=>cw 49 (qc p) fun r=>gp false 96 [(0,q),(1,r)] fun s=>nd 38 1 [(0,s)] fun u=>ah (bJ (cC T 38 (aa b 7) u)) fun v=>zZ v fun w=>bd .add 3 (aa b 3) (qi 1) fun x=>a (gq b [x,aa b 4,aa b 5,aa b 6,v])) (bd .add 3 (aa b 3) (qi 1) fun y=>a (gq b [y,aa b 4,aa b 5,aa b 6,aa b 7]))) (bd .add 3 (aa b 3) (qi 1) fun z=>a (gq b [z,aa b 4,aa b 5,aa b 6,aa b 7]))) (ee 2 [] (.agg [aa b 6,aa b 7]) fun A=>af (.tup [.agg [aa (ab A) 0,aa (ab A) 1],.bool true]))
def FL126_0(call:CC):FW (L126_0 call ae):=gL
def S126(call:CC)(fx:aX AV)(a0 a1:AV):M AV:=aN 49 (qc a0) 0 3 fun a=>aN 49 (qc a1) 0 3 fun b=>ck .neq 3 a b (gp false 49 [] fun c=>ee 2 [] c fun d=>af (.tup [.agg [aa (ab d) 0,aa (ab d) 1],.bool false])) (aN 49 (qc a0) 0 3 fun e=>gp true 49 [(0,e)] fun f=>ee 2 [1] f fun g=>aN 49 (qc a0) 1 38 fun h=>dJ 38 h fun i=>fx (L126_0 call fx) [qc a1,h,i,qi 0,qi 0,.sl [],aa (ab g) 0,.sl []])
def C126(a0 a1:AV):callW pg 126 [a0,a1]=aI (S126 (callW pg) ae (cl ao a0) (cl ao a1)):=cY
def S143(call:CC)(fx:aX AV)(a0:AV):M AV:=dJ 34 a0 fun a=>dJ 34 a0 fun b=>ah (bJ (ej T 34 a0 none (some a) (some b))) fun c=>af c
def C143(a0:AV):callW pg 143 [a0]=aI (S143 (callW pg) ae (cl ao a0)):=cY
def S152(call:CC)(fx:aX AV)(a0:AV):M AV:=af (.fn (Fn.func 180) [] [qc a0])
def C152(a0:AV):callW pg 152 [a0]=S152 (callW pg) ae a0:=cZ
def L162_0(call:CC)(fx:aX AV)(a:RR)(b:List AV):M AV:=dJ 9 (aa b 0) fun c=>bd .lss 3 (aa b 2) c fun d=>jK d (ah (bJ (kb T 9 (aa b 0) (aa b 2))) fun e=>ah (bj call (aa b 1) [e]) fun f=>af [f]) fun g=>aw g (bd .add 3 (aa b 2) (qi 1) fun h=>a [aa b 0,aa b 1,h]) (af (aa b 2))
def FL162_0(call:CC):FW (L162_0 call ae):=gL
def S162(call:CC)(fx:aX AV)(a0 a1:AV):M AV:=fx (L162_0 call fx) [a0,a1,qi 0]
def C162(a0 a1:AV):callW pg 162 [a0,a1]=aI (S162 (callW pg) ae (cl ao a0) (cl ao a1)):=cY
def S178(call:CC)(fx:aX AV)(a0 a1:AV):M AV:=ah (call 186 [a0]) fun a=>ah (call 186 [a1]) fun b=>aw a (aw b (af (qi 0)) (af (qi (-1)))) (aw b (af (qi 1)) (ck .lss 3 a0 a1 (af (qi (-1))) (ck .gtr 3 a0 a1 (af (qi 1)) (af (qi 0)))))
def C178(a0 a1:AV):callW pg 178 [a0,a1]=aI (S178 (callW pg) ae (cl ao a0) (cl ao a1)):=cY
def S186(call:CC)(fx:aX AV)(a0:AV):M AV:=bd .neq 3 a0 a0 fun a=>af a
def C186(a0:AV):callW pg 186 [a0]=aI (S186 (callW pg) ae (cl ao a0)):=cY
end
end Go.Proofs.YtkkdcdofponfiaaGreat
