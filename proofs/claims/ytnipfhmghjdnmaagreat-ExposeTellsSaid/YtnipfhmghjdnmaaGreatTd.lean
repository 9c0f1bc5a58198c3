/- What the functions of the seat compute, part 4: the texts of the claim, one behind the other. Conditions: bounds, as each theorem names them. -/
import Derived.Test.YtnipfhmghjdnmaaGreatTc
import Derived.Shelf.SlGeneric
import Derived.Ground.SlsfProg
import Derived.Shelf.SlSortCmp.NoneTotal
import Derived.Tactics
import Derived.Tactics2
import Derived.Defers
import Derived.Recover
set_option linter.defProp false
set_option linter.unusedSimpArgs false
set_option linter.unusedVariables false
namespace Go.Proofs
open Go.Shelf
def Nz:Go.Shelf.Ren:=⟨fun|6=>77|15=>109|14=>108|28=>151|29=>152|20=>143|21=>144|22=>145|23=>146|24=>147|25=>148|26=>149|27=>150|46=>174|47=>175|48=>176|49=>177|50=>178|57=>184|n=>n,fun|22=>42|24=>37|25=>124|3=>3|39=>167|0=>0|53=>203|55=>205|4=>4|46=>196|45=>195|50=>200|5=>5|9=>9|66=>215|70=>219|76=>221|77=>222|n=>n,fun|n=>n⟩
def Nu:Go.Proofs.SlLaysF0.n6 Tryz.prog Nz:={
 mixed:=by kernel_rfl
 f6:=⟨Tryz.f77.name,by decide,Tryz.func77.trans (NM some (by kernel_rfl))⟩
 f14:=⟨Tryz.f108.name,by decide,Tryz.func108.trans (NM some (by kernel_rfl))⟩
 f15:=Tryz.func109.trans (NM some (by kernel_rfl))
 f20:=⟨Tryz.f143.name,by decide,Tryz.func143.trans (NM some (by kernel_rfl))⟩
 f21:=⟨Tryz.f144.name,by decide,Tryz.func144.trans (NM some (by kernel_rfl))⟩
 f22:=⟨Tryz.f145.name,by decide,Tryz.func145.trans (NM some (by kernel_rfl))⟩
 f23:=⟨Tryz.f146.name,by decide,Tryz.func146.trans (NM some (by kernel_rfl))⟩
 f24:=⟨Tryz.f147.name,by decide,Tryz.func147.trans (NM some (by kernel_rfl))⟩
 f25:=⟨Tryz.f148.name,by decide,Tryz.func148.trans (NM some (by kernel_rfl))⟩
 f26:=⟨Tryz.f149.name,by decide,Tryz.func149.trans (NM some (by kernel_rfl))⟩
 f27:=⟨Tryz.f150.name,by decide,Tryz.func150.trans (NM some (by kernel_rfl))⟩
 f28:=Tryz.func151.trans (NM some (by kernel_rfl))
 f29:=Tryz.func152.trans (NM some (by kernel_rfl))
 f46:=⟨Tryz.f174.name,by decide,Tryz.func174.trans (NM some (by kernel_rfl))⟩
 f47:=Tryz.func175.trans (NM some (by kernel_rfl))
 f48:=Tryz.func176.trans (NM some (by kernel_rfl))
 f49:=⟨Tryz.f177.name,by decide,Tryz.func177.trans (NM some (by kernel_rfl))⟩
 f50:=⟨Tryz.f178.name,by decide,Tryz.func178.trans (NM some (by kernel_rfl))⟩
 f57:=⟨Tryz.f184.name,by decide,Tryz.func184.trans (NM some (by kernel_rfl))⟩
 t0:=Tryz.underlying0
 a0:=Tryz.isAgg0
 z0:=Tryz.sizeOf0
 v0:=Tryz.zeroValue0
 t3:=Tryz.underlying3
 a3:=Tryz.isAgg3
 z3:=Tryz.sizeOf3
 v3:=Tryz.zeroValue3
 t4:=Tryz.underlying4
 a4:=Tryz.isAgg4
 z4:=Tryz.sizeOf4
 v4:=Tryz.zeroValue4
 t5:=Tryz.underlying5
 a5:=Tryz.isAgg5
 z5:=Tryz.sizeOf5
 v5:=Tryz.zeroValue5
 t9:=Tryz.underlying9
 a9:=Tryz.isAgg9
 z9:=Tryz.sizeOf9
 v9:=Tryz.zeroValue9
 t22:=Tryz.underlying42
 a22:=Tryz.isAgg42
 z22:=Tryz.sizeOf42
 v22:=Tryz.zeroValue42
 t25:=Tryz.underlying124
 a25:=Tryz.isAgg124
 z25:=Tryz.sizeOf124
 v25:=Tryz.zeroValue124
 t39:=Tryz.underlying167
 a39:=Tryz.isAgg167
 z39:=Tryz.sizeOf167
 v39:=Tryz.zeroValue167
 t45:=Tryz.underlying195
 a45:=Tryz.isAgg195
 z45:=Tryz.sizeOf195
 v45:=Tryz.zeroValue195
 t46:=Tryz.underlying196
 a46:=Tryz.isAgg196
 z46:=Tryz.sizeOf196
 v46:=Tryz.zeroValue196
 t50:=Tryz.underlying200
 a50:=Tryz.isAgg200
 z50:=Tryz.sizeOf200
 v50:=Tryz.zeroValue200
 t53:=Tryz.underlying203
 a53:=Tryz.isAgg203
 z53:=Tryz.sizeOf203
 v53:=Tryz.zeroValue203
 t55:=Tryz.underlying205
 a55:=Tryz.isAgg205
 z55:=Tryz.sizeOf205
 v55:=Tryz.zeroValue205
 t66:=Tryz.underlying215
 a66:=Tryz.isAgg215
 z66:=Tryz.sizeOf215
 v66:=Tryz.zeroValue215
 t70:=Tryz.underlying219
 a70:=Tryz.isAgg219
 z70:=Tryz.sizeOf219
 v70:=Tryz.zeroValue219
 t76:=Tryz.underlying221
 a76:=Tryz.isAgg221
 z76:=Tryz.sizeOf221
 v76:=Tryz.zeroValue221
 t77:=Tryz.underlying222
 a77:=Tryz.isAgg222
 z77:=Tryz.sizeOf222
 v77:=Tryz.zeroValue222 }
end Go.Proofs
namespace Go.Proofs.YtnipfhmghjdnmaaGreat.C
open Go Go.Av Go.Av.Ap
set_option maxRecDepth 100000
noncomputable def pg:Pg:={ T:=T,funcs:=wF Ac,own:=own,other:=fun _=>none }
def hOther:ey pg:=fun f E h=>by cases h
def E141(call:FuncId->List AV->M AV)(fx:bq AV)(a0:AV):cJ (pg.cx call Tryz.f141.ntmps yI) fx Tryz.f141 (own 141) [a0]=S141 call fx a0:=by kernel_rfl
def C141(a0:AV):ai pg 141 [a0]=aH (S141 (ai pg) aj (cl aw a0)):=(ay hOther rfl rfl rfl _).trans (NM aH (E141 _ _ (cl aw a0)))
def E106(call:FuncId->List AV->M AV)(fx:bq AV)(a0 a1:AV):cJ (pg.cx call Tryz.f106.ntmps yH) fx Tryz.f106 (own 106) [a0,a1]=S106 call fx a0 a1:=by kernel_rfl
def C106(a0 a1:AV):ai pg 106 [a0,a1]=aH (S106 (ai pg) aj (cl aw a0) (cl aw a1)):=(ay hOther rfl rfl rfl _).trans (NM aH (E106 _ _ (cl aw a0) (cl aw a1)))
def E105(call:FuncId->List AV->M AV)(fx:bq AV)(a0:AV):cJ (pg.cx call Tryz.f105.ntmps yG) fx Tryz.f105 (own 105) [a0]=S105 call fx a0:=by kernel_rfl
def C105(a0:AV):ai pg 105 [a0]=aH (S105 (ai pg) aj (cl aw a0)):=(ay hOther rfl rfl rfl _).trans (NM aH (E105 _ _ (cl aw a0)))
def E66(call:FuncId->List AV->M AV)(fx:bq AV)(a0 a1:AV):cJ (pg.cx call Tryz.f66.ntmps DV) fx Tryz.f66 (own 66) [a0,a1]=S66 call fx a0 a1:=by kernel_rfl
def C66(a0 a1:AV):ai pg 66 [a0,a1]=aH (S66 (ai pg) aj (cl aw a0) (cl aw a1)):=(ay hOther rfl rfl rfl _).trans (NM aH (E66 _ _ (cl aw a0) (cl aw a1)))
theorem Bd(t:Nat)(a b:bk):ao T .gtr t (.str a) (.str b)=some (.bool !(bQ a b||a== b)):=rfl
def Ed(x y:bk):Int:=if bQ x y=true then -1 else if bQ y x=true then 1 else 0
theorem t141(s:bk):ai pg 141 [.str s]=M.pure (.bool false):=by
 rw[C141];have e:ao T .neq 9 (.str s) (.str s)=some (.bool !(s== s)):=rfl;simp[S141,e]
def t106(a b:bk):ai pg 106 [.str a,.str b]=M.pure (.int .i64 (Ed a b)):=by
 rw[C106];unfold Ed;cases h1:bQ a b with
 |true=>simp[S106,t141,h1]
 | false=>
  by_cases h2:a=b
  ·subst h2;simp[S106,t141,fI,Bd]
  ·have h3:=gW a b h1 h2;have h4:(a== b)=false:=Oh.2 h2;simp[S106,t141,h1,h3,h2,Bd]
def uS(l:List Int)(hb:l.length<=1099511627776):∀(n:Nat)(i:Int),l.length-i.toNat=n->0<=i->i<=l.length->
  aj (L105_0 (ai pg) aj) [.int .i64 0,ints l,.int .i64 l.length,.int .i64 i]=M.pure (.int .i64 (((l.drop i.toNat).find? fun x=>!(x== 0)).getD 0)):=by
 intro n
 induction n with
 |zero=>
  intro i hn hi hl;rw[FL105_0];simp only[L105_0];have h1:¬(i<(l.length:Int)):=by omega
  have h2:l.drop i.toNat=[]:=NN (by omega);simp[h1,h2]
 | succ n ih=>
  intro i hn hi hl;have h1:i<(l.length:Int):=by omega
  have hlt:i.toNat<l.length:=by omega
  have h4:=ih (i+1) (by omega) (by omega) (by omega);rw[show (i+1).toNat=i.toNat+1 by omega]at h4;rw[FL105_0,NI hlt];simp only[L105_0,O9];by_cases h0:l[i.toNat]=0
  ·simp (disch:=omega) [h1,aF,Bi,h4,h0,ND l i.toNat hlt]
  ·have h0':(l[i.toNat]== 0)=false:=Oh.2 h0;simp (disch:=omega) [h1,aF,Bi,h0,h0',ND l i.toNat hlt]
def t105(l:List Int)(hb:l.length<=1099511627776):ai pg 105 [ints l]=M.pure (.int .i64 ((l.find? fun x=>!(x== 0)).getD 0)):=by
 rw[C105];simp[S105,uS l hb l.length 0 rfl (by omega) (by omega)]
def t66(a b:aG):ai pg 66 [bp a,bp b]=M.pure (.int .i64 (qS a b)):=by
 rw[C66];have hB:∀x y:Int,au T 45 2 [(0,.int .i64 x),(1,.int .i64 y)]=some (ints [x,y]):=fun x y=>rfl;have hc:(([Ed a.1 b.1,Ed a.2 b.2].find? fun x=>!(x== 0)).getD 0)=qS a b:=by
  unfold qS Ed m8;have e1:=fI a.1;have e2:=fI a.2;cases h1:bQ a.1 b.1 with
  |true=>simp
  | false=>
   cases h2:bQ b.1 a.1 with
   |true=>
    have:a.1≠b.1:=fun e=>by rw[e,fI]at h2;cases h2
    have h3:(a.1== b.1)=false:=Oh.2 this;simp[h3]
   | false=>
    have:a.1=b.1:=by
     by_cases e:a.1=b.1
     ·exact e
     ·have:=gW _ _ h1 e;rw[this]at h2;cases h2
    have h3:(a.1== b.1)=true:=Ol.2 this;have h4:(b.1== a.1)=true:=Ol.2 this.symm;cases h5:bQ a.2 b.2 with
    |true=>simp[h3]
    |false=>
     cases h6:bQ b.2 a.2<;>simp[h3,h4]
 simp[S66,t106,hB,t105,cX,hc]
def good:@GoodPg ⟨True⟩ Tryz.prog pg:=by
 letI:Dr:=⟨True⟩
 exact⟨tok,wS,(fun f E h=>by cases h),(fun f h=>by cases h)⟩
end Go.Proofs.YtnipfhmghjdnmaaGreat.C
namespace Go.Proofs.YtnipfhmghjdnmaaGreat
open Go Go.Av Go.Av.Ap Go.RowKit Go.Sort
set_option maxRecDepth 1000000
def EG{w:World}(hg:kU w){blk off n:Nat}{d:Array aG}{os:Array Obj}(hb:gN<=blk):kU (sortWorldK dq 2 w blk off n d os):=
 hg.mono fun b hlt=>m5 dq 2 off n d os (On hlt hg.lt) (by omega)
def El:∀args w,(callFunc 66 args).run Tryz.prog w= .ok (.enter 66 args) w:=enters_of Tryz.func66 (by kernel_rfl) rfl
def Ai(S:aE)(β:List bT)(x:aG):VR S β (bp x) (.agg (dq x).toArray):=by
 simp only[bp,VR];exact⟨dq x,rfl,oD.vr S β x⟩
def Lm(x y:aG)(W:World)(hg:kU W):Calls Tryz.prog 66 #[.agg (dq x).toArray,.agg (dq y).toArray] W fun e w'=>e= .returned (.int .i64 (qS x y))/\∃q os',w'=grow (W.drewN q) os':=by
 letI:Dr:=⟨True⟩
 have hv:bC (mA W) [] [bp x,bp y] [.agg (dq x).toArray,.agg (dq y).toArray]:=by
  simp only[bC];exact⟨_,_,rfl,Ai _ _ x,_,_,rfl,Ai _ _ y,rfl⟩
 have h:=(pu C.good C.hOther 66 [bp x,bp y] [] (mA W) [] W _ (by rw[C.t66];simp[M.pure]) ⟨hg,fun b _ ho=>by obtain⟨l,_,_,h1,_⟩:=ho;simp at h1⟩ (fun _ _ _ h=>h) ⟨rfl,fun _=>.no,fun l cs hl=>by simp at hl⟩ hv).1;rw[C.t66]at h;refine h.mono fun e w' hp=>?_;obtain⟨S',β',v,rfl,hv,L,_⟩:=hp;simp only[VR]at hv;subst hv;exact⟨rfl,L.grew trivial⟩
def Ld:∀w,(isAgg 37).run Tryz.prog w= .ok true w:=fun w=>by kernel_rfl
def Kn:∀w,(Go.sizeOf 37).run Tryz.prog w= .ok 2 w:=fun w=>by kernel_rfl
def sr(w:World)(blk off cap:Nat)(d:Array aG)(hg:kU w)(hb:gN<=blk)(hH:HoldsK dM.ev dM.k w blk off d)(hlt:blk<w.heap.size)(hsz:d.size<4611686018427387904):
  Calls Tryz.prog 77 #[.slice (some ⟨blk,off,none⟩) d.size cap,.func (.func 66) #[] #[]] w fun e w'=>e= .returned (.tuple #[])/\∃n os,w'=sortWorldK dM.ev dM.k w blk off n (gx d.toList).toArray os:=by
 have:=AnyQ.slices_SortFunc_eq Nu 2 Ld Kn dq (fun _=>rfl) oD.one qS L4 66 #[] blk off cap d w El
  (fun m os dk _ x y=>Lm x y _ (EG hg hb)) hH hlt hsz
 refine this.mono ?_;rintro e w' ⟨he,n,os,hw⟩;refine⟨he,n,os,?_⟩;rw[hw];unfold gx;simp only[dM]
theorem tY(call:FuncId->List AV->M AV)(args:List AV)(h:Hp)(S:aE)(β:List bT)(w:World)(vs:List Value)(hr:gV 66 call args h≠.fail)(hg:yD β h w)(hw:Wf S w)(hh:da S β w h)(hv:bC S β args vs):
  Calls Tryz.prog 77 vs.toArray w (fc none S β h w (gV 66 call args h)):=by
 by_cases hf:∃o',args=[.hn,.fn (.func o') [] []]
 ·obtain⟨o',rfl⟩:=hf;have e:gV 66 call [.hn,.fn (.func o') [] []] h=(bif Nat.beq o' 66 then R.ok (.tup []) h else R.fail):=rfl;rw[e]at hr |-;cases hb:Nat.beq o' 66 with
  |false=>rw[hb]at hr;exact absurd rfl hr
  |true=>
   simp only[bC,VR]at hv;obtain⟨_,_,rfl,rfl,v,_,rfl,_,rfl⟩:=hv;refine (AnyF.slices_SortFunc_none Nu none 0 v w).mono ?_;rintro e' w' ⟨rfl,rfl⟩;exact lj hw hh (Below.refl _ _) E6 (by simp only[VR,bC];exact⟨[],rfl,rfl⟩)
 ·have e:gV 66 call args h=mi dM 66 gx call args h:=by
   unfold gV;split
   ·rename_i o';exact absurd ⟨o',rfl⟩ hf
   ·rfl
  rw[e]at hr |-;have h0:=hr;unfold mi at h0;split at h0
  ·rename_i g';cases hb:Nat.beq g' 66 with
   |false=>rw[hb]at h0;exact absurd rfl h0
   |true=>
    have e:mi dM 66 gx call [.sl [],.fn (.func g') [] []] h= .ok (.tup []) h:=by simp only[mi,hb,NF]
    rw[e];simp only[bC,VR,Ot]at hv;obtain⟨_,_,rfl,⟨a,cap,rfl,_⟩,v,_,rfl,_,rfl⟩:=hv;refine (AnyF.slices_SortFunc_none Nu a cap v w).mono ?_;rintro e' w' ⟨rfl,rfl⟩;exact lj hw hh (Below.refl _ _) E6 (by simp only[VR,bC];exact⟨[],rfl,rfl⟩)
  ·exact Ho oD call (fun w blk off cap d hg hb hH hlt hsz=>sr w blk off cap d hg hb hH hlt hsz) hr hg hw hh hv
  ·exact absurd rfl h0
end Go.Proofs.YtnipfhmghjdnmaaGreat
namespace Go.Proofs.YtnipfhmghjdnmaaGreat
open Go Go.Av Go.Av.Ap Go.RowKit Go.Shelf Go.Sort
attribute [local go_sem] Oper.semAt_some
set_option maxRecDepth 100000
def Jm(F:Fence)(n:Nat)(h2:F.fn 103)(h3:F.fn 140)(hro:F.round=none)(hn:4<=n)(g:Nat)(lb:Array Value)(hFg:F.fn g)(eg:∀args w,(callFunc g args).run Tryz.prog w= .ok (.enter g args) w)(S Sp:List iv->Prop)(N:Nat)(hN:N<=1000000)(w:World)(hseq:SeqStopsK F (n-1-1) Tryz.prog g lb (fun x:iv=>#[l9 x]) KeepsWalks S Sp N w):
  CallsIn F n Tryz.prog 103 #[.func (.func g) #[] lb] w fun e w'=>∃v ss,e= .returned v/\S ss/\w'.ownsRow w.heap.size 37 2 v ss.length (ss.flatMap iO)/\(v= .slice none 0 0↔ss=[])/\Below w.heap.size w w':=by
 have h1:1<=n:=by omega
 refine callsIn_of_wp Tryz.func103 rfl h2 ?_ hro;simp only[Tryz.ntmps103,OQ,Of,Ot,Nat.reduceAdd,Nat.reduceSub,O6,O7,Pi,O8,N4,Ob]
 gi_wp2_with (gi_at_call 140;refine (I8 F (n-1) h3 hro (by omega) g lb hFg eg S Sp N hN _ hseq).mono ?_;rintro e w' ⟨v,ss,rfl,hS,hrow,hnil,hb⟩)
 go_ret
 exact⟨v,ss,rfl,hS,hrow,hnil,hb⟩
def eC(x:iv):aG:=(x.1.data.toList,x.2.data.toList)
def Eo(x:iv):dq (eC x)=iO x:=by
 simp only[dq,eC,iO,str_eq (rfl:x.1.data.toList=_),str_eq (rfl:x.2.data.toList=_)]
def GG(ss:List iv):((ss.map eC).map dq).flatten=ss.flatMap iO:=by
 rw[P2,List.flatMap_def];exact NM List.flatten (PU fun x _=>Eo x)
def zX{w:World}{b n₀:Nat}(enc:aG->List Value)(k off n:Nat)(d:Array aG)(os:Array Obj)(hb:n₀<=b)(hn:n₀<=w.heap.size):Below n₀ w (sortWorldK enc k w b off n d os):=by
 have hg:=yg (w:=w) (b:=b) enc k off n d os;exact⟨hg.os,hg.tape,hg.out,hg.size,fun i hi=>m5 enc k off n d os (by omega) (by omega)⟩
def zK{W:World}{base n:Nat}{v:Value}{ss:List iv}(h:W.ownsRow base 37 2 v n (ss.flatMap iO))(hn:n=ss.length)(hne:ss≠[]):
  ∃b cap cur,v= .slice (some ⟨b,0,none⟩) n cap/\base<=b/\W.heap[b]? = some (.cells cur 37 (0,0))/\n<=cap/\cur.size=cap*2/\HoldsK dq 2 W b 0 (ss.map eC).toArray:=by
 rcases h.2 with⟨_,h0⟩|⟨b,cap,cur,hv,hb,hc,h1,_,h2,h3⟩
 ·exact absurd (PW.1 (hn▸h0)) hne
 ·refine⟨b,cap,cur,hv,hb,hc,h1,h2,fun j hj=>?_⟩;have hfl:=ko dq 2 (fun _=>rfl) (by decide) (ss.map eC).toArray;have hsz:(flatK dq 2 (ss.map eC).toArray).size=ss.length*2:=by rw[size_flatK];simp
  rw[hsz]at hj;have hjc:j<cur.size:=by rw[h2];omega
  have e1:(flatK dq 2 (ss.map eC).toArray)[j]! = cur[j]:=by
   have g1:(flatK dq 2 (ss.map eC).toArray).toList[j]? = cur.toList[j]?:=by
    rw[hfl,show (ss.map eC).toArray.toList=ss.map eC from rfl,GG,<- h3,N0,NE (by omega)]
   rw[Oe,Oe,Og (by omega),Og hjc]at g1;rw[ND _ j (by omega)];exact QZ g1
  rw[e1,NU];exact⟨by simp[World.cell?,hc,hjc],by simp[World.frozen?,hc]⟩
set_option maxHeartbeats 1000000 in
def vC(g:Nat)(lb:Array Value)(eg:∀args w,(callFunc g args).run Tryz.prog w= .ok (.enter g args) w)(S Sp:List iv->Prop)(N:Nat)(hN:N<=1000000)(hS1:∀ss,S ss->ss.length=N)(w:World)(hgok:kU w)(hseq:∀n,5<=n->SeqStopsK Fence.wide n Tryz.prog g lb (fun x:iv=>#[l9 x]) KeepsWalks S Sp N w):
  Calls Tryz.prog 64 #[.func (.func g) #[] lb,.func (.func 66) #[] #[]] w fun e w'=>∃v ss,e= .returned v/\S ss/\Below w.heap.size w w'/\
   ((ss=[]/\v= .slice none 0 0)\/∃b cap x,v= .slice (some ⟨b,0,none⟩) ss.length cap/\ss.length<=cap/\w.heap.size<=b/\Row w' b x/\x.size=cap*2/\x.toList.take (ss.length*2)=((cP (ss.map eC)).map dq).flatten):=by
 rw[<- callsIn_wide (n:=20)];have h1:1<=20:=by decide
 have f1:Fence.wide.fn 103:=trivial;have f2:Fence.wide.fn 77:=trivial;have hcol:=Jm Fence.wide 19 trivial trivial rfl (by decide) g lb trivial eg S Sp N hN w (hseq _ (by decide));refine callsIn_of_wp Tryz.func64 rfl trivial ?_ rfl;simp only[Tryz.ntmps64,OQ,Of,Ot,Nat.reduceAdd,Nat.reduceSub,O6,O7,Pi,O8,N4,Ob]
 gi_wp2_with (gi_at_call 103;refine hcol.mono ?_;rintro e w1 ⟨v,ss,rfl,hS,hrow,hnil,hb⟩)
 by_cases hss:ss=[]
 ·have hv:=hnil.2 hss;subst hv hss;have hsrt:CallsIn Fence.wide 19 Tryz.prog 77 #[.slice none 0 0,.func (.func 66) #[] #[]] w1 _:=callsIn_wide.2 (AnyF.slices_SortFunc_none Nu none 0 (.func (.func 66) #[] #[]) w1)
  gi_wp2_with (gi_at_call 77;refine hsrt.mono ?_;rintro e w2 ⟨rfl,rfl⟩)
  go_ret
  exact⟨_,[],rfl,hS,hb,.inl ⟨rfl,rfl⟩⟩
 ·obtain⟨b,cap,cur,rfl,mP,hcur,hcap,hcs,hH⟩:=zK hrow rfl hss;have hbl:b<w1.heap.size:=(NT.1 hcur).1;have hsl:ss.length<4611686018427387904:=by rw[hS1 ss hS];omega
  have hg1:kU w1:=hgok.mono fun k hk=>hb.block k (On hk hgok.lt);have hsrt0:=sr w1 b 0 cap (ss.map eC).toArray hg1 (O0 hgok.lt mP) hH hbl (by simpa using hsl);rw[show (ss.map eC).toArray.size=ss.length by simp]at hsrt0;have hsrt:CallsIn Fence.wide 19 Tryz.prog 77 #[.slice (some ⟨b,0,none⟩) ss.length cap,.func (.func 66) #[] #[]] w1 _:=callsIn_wide.2 hsrt0
  gi_wp2_with (gi_at_call 77;refine hsrt.mono ?_;rintro e w2 ⟨rfl,m,os,rfl⟩)
  go_ret
  have hrow1:Row w1 b cur:=⟨_,hcur⟩;rw[o9];have hlen:(cP (ss.map eC)).length=ss.length:=by rw[gw];simp
  have hfl:=ko dq 2 (fun _=>rfl) (by decide) (cP (ss.map eC)).toArray;have hfs:(flatK dq 2 (cP (ss.map eC)).toArray).size=ss.length*2:=by rw[size_flatK];simp[hlen]
  have hr2:=yh hrow1 dq 2 0 m (cP (ss.map eC)).toArray os (by rw[hcs];simp[hlen];omega);refine⟨_,ss,rfl,hS,hb.trans (zX dq 2 0 m _ os mP hb.size),.inr ⟨b,cap,_,rfl,hcap,mP,hr2,?_,?_⟩⟩
  ·simp only[Px,N4,NU,OQ,N3,OD,List.length_drop,hfs,hcs];omega
  ·have hll:(flatK dq 2 (cP (ss.map eC)).toArray).toList.length=ss.length*2:=by rw[OD];exact hfs
   show List.take (ss.length*2) (List.take 0 _++_++_)=_;rw[Px,N4];refine (List.take_append_of_le_length (Nat.le_of_eq hll.symm)).trans ?_;refine (OY (Nat.le_of_eq hll)).trans hfl
def GQ{S:aE}{β:List bT}:{es:List AV} ->{ents:List MapEntry} ->{ks:List aG} ->iJ S β es ents->es.mapM xj=some ks->∃rs:List iv,rs.map eC=ks/\ents.map (·.key)=rs.map l9:=by
 intro es
 induction es with
 |nil=>
  intro ents ks h hk;have hl:=h.1;simp at hl hk;subst hk;cases ents with
  |nil=>exact⟨[],rfl,rfl⟩
  |cons x r=>simp at hl
 | cons e es ih=>
  intro ents ks h hk;cases ents with
  |nil=>have:=h.1;simp at this
  | cons x ents=>
   rw[Qf]at hk;cases h1:xj e with
   |none=>rw[h1]at hk;cases hk
   | some k=>
    cases h2:es.mapM xj with
    |none=>rw[h1,h2]at hk;cases hk
    | some ks'=>
     rw[h1,h2]at hk;simp only[Option.pure_def,Option.bind_eq_bind,PT,NB]at hk;subst hk;obtain⟨rs,hr1,hr2⟩:=ih (ents:=ents) ⟨by have:=h.1;simpa using this,fun i a y ha hy=>h.2 (i+1) a y (by simpa using ha) (by simpa using hy)⟩ h2;obtain⟨kk,vv,rfl,hkk,_⟩:=h.2 0 e x rfl rfl;unfold xj at h1;split at h1
     ·rename_i a b v he;simp only[AV.tup.injEq,O3,PY]at he;obtain⟨rfl,rfl⟩:=he;simp only[NB]at h1;subst h1;simp only[VR,bC]at hkk;obtain⟨_,hx,_,_,rfl,⟨y1,rfl,hy1⟩,_,_,rfl,⟨y2,rfl,hy2⟩,rfl⟩:=hkk;refine⟨(y1,y2):: rs,?_,?_⟩
      ·simp only[N8,eC,hy1,hy2,hr1]
      ·simp only[N8,hr2,hx,l9]
     ·cases h1
def Hx{S:aE}{β:List bT}{b cap:Nat}{x:Array Value}{l:List aG}(hl:l.length<=cap)(hx:x.size=cap*2)(ht:x.toList.take (l.length*2)=(l.map dq).flatten):
  VR (S.withRowTo b x.size x) β (aI l) (.slice (some ⟨b,0,none⟩) l.length cap):=by
 simp only[aI,VR,Pn];refine⟨some ⟨b,0,none⟩,cap,rfl,hl,(fun h=>by cases h),fun q hq=>?_⟩;simp only[NB]at hq;subst hq;refine⟨fun _=>rfl,2,.of_get fun i e he=>?_⟩;rw[Ou]at he;cases hi:l[i]? with
 |none=>rw[hi]at he;cases he
 | some r=>
  rw[hi]at he;simp only[Oo,NB]at he;subst he;have hil:=dY hi;refine⟨.agg (dq r).toArray,Ai _ _ r,rfl,fun j v hj=>?_⟩;have hj2:j<2:=by
   have:=dY hj
   simpa [Value.cells,dq]using this
  have hg:(l.map dq).flatten[i*2+j]? = some v:=by
   rw[lp dq 2 (fun _=>rfl) (by decide),show (i*2+j) / 2=i by omega,show (i*2+j) % 2=j by omega,hi];simpa [Value.cells]using hj
  rw[<- ht,N0,NE (by omega),Oe]at hg;unfold aE.withRowTo;dsimp only;rw[NE rfl,NE (by omega),NU];exact hg
def tX(call:FuncId->List AV->M AV)(args:List AV)(h:Hp)(S:aE)(β:List bT)(w:World)(vs:List Value)(hr:oc [173,173] 66 call args h≠.fail)(hg:yD β h w)(hw:Wf S w)(hh:da S β w h)(hv:bC S β args vs):
  Calls Tryz.prog 64 vs.toArray w (fc none S β h w (oc [173,173] 66 call args h)):=by
 unfold oc at hr |-;split at hr
 ·rename_i g x o';cases hb:eI [173,173] g&&Nat.beq 66 o' with
  |false=>rw[hb]at hr;exact absurd rfl hr
  | true =>
   rw[hb]at hr;simp only[NF]at hr |-;cases hes:jj h x with
   |none=>rw[hes]at hr;exact absurd rfl hr
   | some es=>
    rw[hes]at hr;simp only at hr |-;cases hks:es.mapM xj with
    |none=>rw[hks]at hr;exact absurd rfl hr
    | some ks=>
     rw[hks]at hr;simp only at hr |-;by_cases hlen:ks.length<=1000000
     ·rw [NE hlen]at hr |-;simp only[NG]at hb;have ho:o'=66:=(NR hb.2).symm;subst ho;simp only[bC,VR]at hv;obtain⟨_,_,rfl,⟨_,_,rfl,rfl,_,_,rfl,⟨Bm,Bo,cs,rfl,⟨xv,_,rfl,hxv,rfl⟩,hcell⟩,rfl⟩,_,_,rfl,⟨_,_,rfl,rfl,rfl⟩,rfl⟩:=hv;have hBs:S Bm Bo=some xv:=hcell 0 xv rfl;have hBc:=hw _ _ _ hBs;have hBl:=hw.lt hBs;have hh0:=hh;obtain⟨_,ω,hH⟩:=hh;have hkeys:∃rs:List iv,rs.map eC=ks/\((w.cell? ⟨Bm,Bo,none⟩=some (.map none)/\rs=[])\/∃b es clock,w.cell? ⟨Bm,Bo,none⟩=some (.map (some b))/\w.heap[b]? = some (.map es clock)/\kd es.toList clock/\es.toList.map (·.key)=rs.map l9):=by
       unfold jj at hes;split at hes
       ·rename_i l;split at hes
        ·rename_i es' hl;simp only[NB]at hes;subst hes;simp only[VR]at hxv;obtain⟨⟨b,z⟩,hbl,h0,rfl⟩:=hxv;simp only at h0;subst h0;obtain⟨ents,clock,g1,g2,g3,_⟩:=hH.mapRow hl hbl;obtain⟨rs,r1,r2⟩:=GQ g2 hks;exact⟨rs,r1,.inr ⟨b,ents,clock,hBc,g1,g3,r2⟩⟩
        ·cases hes
       ·simp only[NB]at hes;subst hes;simp only[VR]at hxv;subst hxv;simp at hks;subst hks;exact⟨[],rfl,.inl ⟨hBc,rfl⟩⟩
       ·cases hes
      obtain⟨rs,hrs,hc⟩:=hkeys;have hgen:∀g',(∀args w,(callFunc g' args).run Tryz.prog w= .ok (.enter g' args) w)->
        (∀n,5<=n->SeqStopsK Fence.wide n Tryz.prog g' #[.pointer (some ⟨Bm,Bo,none⟩)] (fun x:iv=>#[l9 x]) KeepsWalks (fun ss=>ss.Perm rs) (fun _=>True) rs.length w)->
        Calls Tryz.prog 64 #[.func (.func g') #[] #[.pointer (some ⟨Bm,Bo,none⟩)],.func (.func 66) #[] #[]] w (fc none S β h w (.ok (aI (cP ks)) h)):=by
       intro g' eg hseq;refine (vC g' _ eg _ _ rs.length (by rw[<- hrs]at hlen;simpa using hlen) (fun ss hs=>hs.length_eq) w hg.1 hseq).mono ?_;rintro e w' ⟨v,ss,rfl,hS,hB,hres⟩;have hso:cP ks=cP (ss.map eC):=by rw[<- hrs];exact mj (hS.map eC).symm
       rcases hres with⟨rfl,rfl⟩|⟨b,cap,y,rfl,h1,h2,h3,h4,h5⟩
       ·refine lj hw hh0 hB E6 ?_;rw[hso];simp only[PD,cP,aI,VR,Ot];exact⟨none,0,rfl,NL _,fun _=>rfl,fun q hq=>by cases hq⟩
       ·have hl2:(cP (ss.map eC)).length=ss.length:=by rw[gw];simp
        refine BJ hw hh0 hB E6 h3 h2 ?_;rw[hso]
        have:=Hx (S:=S) (β:=β) (b:=b) (cap:=cap) (x:=y) (l:=cP (ss.map eC)) (by omega) h4 (by rw[hl2];exact h5)
        rw[hl2]at this;exact this
      have hg2:g=173\/g=173:=by
       have:=hb.1
       simp only[eI]at this;rcases O1 (Nat.beq 173 g)with h1|h1
       ·exact .inl (NR h1).symm
       ·rw[h1]at this;rcases O1 (Nat.beq 173 g)with h2|h2
        ·exact .inr (NR h2).symm
        ·first
          |(rw[h2]at this;cases this)
          |cases this
      rcases hg2 with rfl|rfl
      ·exact hgen 173 (enters_of Tryz.func173 (by kernel_rfl) rfl) fun n hn=>mf Fence.wide n trivial rfl (by omega) Bm Bo rs w hBl hc
      ·exact hgen 173 (enters_of Tryz.func173 (by kernel_rfl) rfl) fun n hn=>mf Fence.wide n trivial rfl (by omega) Bm Bo rs w hBl hc
     ·rw[if_neg hlen]at hr;exact absurd rfl hr
 ·exact absurd rfl hr
end Go.Proofs.YtnipfhmghjdnmaaGreat
namespace Go.Proofs.YtnipfhmghjdnmaaGreat
open Go Go.Av
set_option maxRecDepth 100000
noncomputable def CG(n:Nat)(a:Ann):Cx:={ T:=T,call:=fun _ _=>M.fail,own:=own,iso:=fun _=>false,nw:=fun _=>false,nt:=n,ann:=a }
def tj(n:Nat)(a:Ann):db Tryz.prog (CG n a).own (CG n a).call:=fun f args h S β w vs hr=>absurd rfl hr
def AA(n:Nat)(a:Ann):IsoCall (CG n a):=⟨fun f args h=>Bool.noConfusion h,fun f args h=>Bool.noConfusion h⟩
def Ln(e:AV)(es:List AV):cJ (CG Tryz.f100.ntmps uw) (dt 0) Tryz.f100 none [.sl (e:: es)]=ae (appH T 61 true (.sl []) (.sl (e:: es))) fun v=>ae (ah (some v)) M.pure:=by kernel_rfl
def Lo:cJ (CG Tryz.f100.ntmps uw) (dt 0) Tryz.f100 none [.hn]=ae (ah (some (.sl []))) M.pure:=by kernel_rfl
def Lp(l off:Nat):cJ (CG Tryz.f100.ntmps uw) (dt 0) Tryz.f100 none [.hs l off 0 1 false]=ae (appH T 61 true (.sl []) (.hs l off 0 1 false)) fun v=>ae (ah (some v)) M.pure:=by kernel_rfl
def Lq(e:AV)(es:List AV):cJ (CG Tryz.f169.ntmps ux) (dt 0) Tryz.f169 none [.sl (e:: es)]=ae (ah (ck T 28 (.sl []) (.sl (e:: es)))) fun v=>ae (ah (some v)) M.pure:=by kernel_rfl
def Lr:cJ (CG Tryz.f169.ntmps ux) (dt 0) Tryz.f169 none [.hn]=ae (ah (some (.sl []))) M.pure:=by kernel_rfl
def Ls(l off:Nat):cJ (CG Tryz.f169.ntmps ux) (dt 0) Tryz.f169 none [.hs l off 0 1 false]=ae (ah (ck T 28 (.sl []) (.hs l off 0 1 false))) fun v=>ae (ah (some v)) M.pure:=by kernel_rfl
def Lt(l off:Nat):ck T 28 (.sl []) (.hs l off 0 1 false)=some (.sl []):=by rfl
def oX(call:FuncId->List AV->M AV)(args:List AV)(h:Hp)(S:aE)(β:List bT)(w:World)(vs:List Value)(hr:fL T 61 call args h≠.fail)(hg:yD β h w)(hw:Wf S w)(hh:da S β w h)(hv:bC S β args vs):
  Calls Tryz.prog 100 vs.toArray w (fc none S β h w (fL T 61 call args h)):=by
 have key:∀es,args=[.sl es]->Calls Tryz.prog 100 vs.toArray w (fc none S β h w (fL T 61 call args h)):=by
  rintro es rfl;exact (pw (cx:=CG Tryz.f100.ntmps uw) (E:=fun es h=>fL T 61 call [.sl es] h) tok (tj _ _) (AA _ _) Tryz.func100 rfl (fun h=>by rfl) (fun e es h=>by rw[Ln];exact congrFun (D5 _) h) (fun h=>by rw[Lo];rfl) (fun l off h=>by rw[Lp];rfl) hr hg hw hh hv).1
 unfold fL at hr;split at hr
 ·exact key _ rfl
 ·exact absurd rfl hr
def oY(call:FuncId->List AV->M AV)(args:List AV)(h:Hp)(S:aE)(β:List bT)(w:World)(vs:List Value)(hr:ki T 28 call args h≠.fail)(hg:yD β h w)(hw:Wf S w)(hh:da S β w h)(hv:bC S β args vs):
  Calls Tryz.prog 169 vs.toArray w (fc none S β h w (ki T 28 call args h)):=by
 have key:∀es,args=[.sl es]->Calls Tryz.prog 169 vs.toArray w (fc none S β h w (ki T 28 call args h)):=by
  rintro es rfl;exact (pw (cx:=CG Tryz.f169.ntmps ux) (E:=fun es h=>ki T 28 call [.sl es] h) tok (tj _ _) (AA _ _) Tryz.func169 rfl (fun h=>by rfl) (fun e es h=>by rw[Lq];exact congrFun (D5 _) h) (fun h=>by rw[Lr];rfl) (fun l off h=>by rw[Ls,Lt];rfl) hr hg hw hh hv).1
 unfold ki at hr;split at hr
 ·exact key _ rfl
 ·exact absurd rfl hr
def La:Prop:=∀call,db Tryz.prog own call->∀(args:List AV)(h:Hp)(S:aE)(β:List bT)(w:World)(vs:List Value),yt 69 .i64 (.agg [.int .i64 0,.int .i64 0,.sl [],.sl []]) call args h≠.fail->yD β h w->Wf S w->da S β w h->bC S β args vs->
 Calls Tryz.prog 88 vs.toArray w (fc none S β h w (yt 69 .i64 (.agg [.int .i64 0,.int .i64 0,.sl [],.sl []]) call args h))
end Go.Proofs.YtnipfhmghjdnmaaGreat
namespace Go.Proofs.YtnipfhmghjdnmaaGreat
open Go Go.Av
def yS(p q:Addr)(w:World):CallsD Tryz.prog 117 #[.pointer (some p),.pointer (some q)] .returning w fun e u' w'=>e= .returned (.tuple #[])/\u'= .returning/\w'=w:=by
 refine callsD_of_wpS Tryz.func117 rfl fun c₀ cs hu=>?_;apply wpS_seq;apply wpS_region;simp[wpOpsS,go_sem,recoverD,hu,Tryz.ntmps117,Exit.thenS];refine wpS_of_wp ?_
 go_wp2
 cases c₀;simp_all[bodyPostS,results,Tryz.results117]
def D1(n:Int)(w:World):(Instr.typeAssert (.iface 69 (.int .i64 n)) 20 69 true).run Tryz.prog w= .ok (.tuple #[.int .i64 n,.bool true]) w:=by kernel_rfl
def Jb(w:World):(Instr.build 71 #[]).run Tryz.prog w= .ok (.agg #[.int .i64 0,.int .i64 0,.slice none 0 0,.slice none 0 0]) w:=by
 obtain⟨v,h1,h2⟩:=wb (P:=Tryz.prog) (T:=T) (w:=w) (S:=fun _ _=>none) (β:=[]) (told:=true) (t:=71) (parts:=[]) (r:=.agg [.int .i64 0,.int .i64 0,.hn,.hn]) (qs:=#[]) tok rfl rfl;rw[h1];simp only[VR,bC]at h2;obtain⟨vs,rfl,a,_,rfl,rfl,b,_,rfl,rfl,c,_,rfl,rfl,d,_,rfl,rfl,rfl⟩:=h2;rfl
set_option maxHeartbeats 4000000 in
set_option maxRecDepth 100000 in
def BD(b c:Nat)(x0 x1 x2 x3 y0:Value)(n:Int)(w:World)(c0:w.cell? ⟨b,0,none⟩=some x0)(c1:w.cell? ⟨b,1,none⟩=some x1)(c2:w.cell? ⟨b,2,none⟩=some x2)(c3:w.cell? ⟨b,3,none⟩=some x3)(d0:w.cell? ⟨c,0,none⟩=some y0)(f0:w.frozen? ⟨b,0,none⟩=false)(f1:w.frozen? ⟨b,1,none⟩=false)(f2:w.frozen? ⟨b,2,none⟩=false)(f3:w.frozen? ⟨b,3,none⟩=false)(g0:w.frozen? ⟨c,0,none⟩=false)(hne:¬b=c)(hne':¬c=b):
  CallsD Tryz.prog 117 #[.pointer (some ⟨b,0,none⟩),.pointer (some ⟨c,0,none⟩)] (.panicking [{ v:=.iface 69 (.int .i64 n),recovered:=false }]) w fun e u' w'=>
   e= .returned (.tuple #[])/\u'= .panicking [{ v:=.iface 69 (.int .i64 n),recovered:=true }]/\w'=((((w.setCell ⟨b,0,none⟩ (.int .i64 0)).setCell ⟨b,1,none⟩ (.int .i64 0)).setCell ⟨b,2,none⟩ (.slice none 0 0)).setCell ⟨b,3,none⟩ (.slice none 0 0)).setCell ⟨c,0,none⟩ (.int .i64 n):=by
 refine callsD_of_wpS Tryz.func117 rfl fun c₀ cs hu=>?_;apply wpS_seq;apply wpS_region;simp[wpOpsS,go_sem,recoverD,hu,Tryz.ntmps117,Exit.thenS];refine wpS_of_wp ?_;have h1:=D1 n;have h2:=Jb
 go_wp2
 cases c₀;simp_all[bodyPostS,results,Tryz.results117]
end Go.Proofs.YtnipfhmghjdnmaaGreat
namespace Go.Proofs.YtnipfhmghjdnmaaGreat
open Go Go.Av
set_option maxRecDepth 100000
def pb(w:World):World:=(w.alloc (Obj.cells #[Value.int IntKind.i64 0,Value.int IntKind.i64 0,Value.slice none 0 0,Value.slice none 0 0] 71)).alloc (Obj.cells #[Value.int IntKind.i64 0] 69)
def Ae(w w':World)(u0 u1 u2 u3 e:Value):World:=((((w'.setCell ⟨w.heap.size,0,none⟩ u0).setCell ⟨w.heap.size,1,none⟩ u1).setCell ⟨w.heap.size,2,none⟩ u2).setCell ⟨w.heap.size,3,none⟩ u3).setCell ⟨w.heap.size+1,0,none⟩ e
def M6(w:World)(R:Ending->World->Prop):Ending->World->Prop:=fun e w'=>
 w'.heap[w.heap.size]? = (pb w).heap[w.heap.size]? /\w'.heap[w.heap.size+1]? = (pb w).heap[w.heap.size+1]? /\
 ((∃u0 u1 u2 u3:Value,u0.oneCell'=true/\u1.oneCell'=true/\u2.oneCell'=true/\u3.oneCell'=true/\e= .returned (.agg #[u0,u1,u2,u3])/\R (.returned (.tuple #[.agg #[u0,u1,u2,u3],.int .i64 0])) (Ae w w' u0 u1 u2 u3 (.int .i64 0)))\/
  ∃n,e= .panicked [{ v:=.iface 69 (.int .i64 n),recovered:=false }]/\R (.returned (.tuple #[.agg #[.int .i64 0,.int .i64 0,.slice none 0 0,.slice none 0 0],.int .i64 n])) (Ae w w' (.int .i64 0) (.int .i64 0) (.slice none 0 0) (.slice none 0 0) (.int .i64 n)))
set_option maxHeartbeats 4000000 in
def FP(g:FuncId)(x y:Array Value)(w:World)(R:Ending->World->Prop)(hfn:(Tryz.prog.funcs[g]?).any (fun fn=>fn.body.isSome&&!(fn.name== "runtime.NumGoroutine"))=true)(hc:Calls Tryz.prog g (x++y) (pb w) (M6 w R)):Calls Tryz.prog 88 #[.func (.func g) x y] w R:=by
 have hmf:∀(fn:Fn)(first cap:Array Value)(w:World),(Instr.makeFunc fn first cap).run Tryz.prog w= .ok (.func fn first cap) w:=fun _ _ _ _=>rfl
 go_enter_defers Tryz.func88,Tryz.ntmps88
 go_wp2
 rw[iw hfn,Oper.upon_enter];refine hc.mono fun e w' h=>?_;obtain⟨k0,k1,h⟩:=h;have r0:w'.heap[w.heap.size]? = some (.cells #[Value.int IntKind.i64 0,Value.int IntKind.i64 0,Value.slice none 0 0,Value.slice none 0 0] 71):=by rw[k0];exact (Go.Av.alloc_old _ _ (by simp)).trans (heap_alloc_new w _)
 have r1:w'.heap[w.heap.size+1]? = some (.cells #[Value.int IntKind.i64 0] 69):=by rw[k1];have:=heap_alloc_new (w.alloc (Obj.cells #[Value.int IntKind.i64 0,Value.int IntKind.i64 0,Value.slice none 0 0,Value.slice none 0 0] 71)) (Obj.cells #[Value.int IntKind.i64 0] 69);rwa [World.size_alloc]at this
 have c0:w'.cell? ⟨w.heap.size,0,none⟩=some (.int .i64 0):=by simp[World.cell?,r0]
 have c1:w'.cell? ⟨w.heap.size,1,none⟩=some (.int .i64 0):=by simp[World.cell?,r0]
 have c2:w'.cell? ⟨w.heap.size,2,none⟩=some (.slice none 0 0):=by simp[World.cell?,r0]
 have c3:w'.cell? ⟨w.heap.size,3,none⟩=some (.slice none 0 0):=by simp[World.cell?,r0]
 have d0:w'.cell? ⟨w.heap.size+1,0,none⟩=some (.int .i64 0):=by simp[World.cell?,r1]
 have f0:w'.frozen? ⟨w.heap.size,0,none⟩=false:=by simp[World.frozen?,r0]
 have f1:w'.frozen? ⟨w.heap.size,1,none⟩=false:=by simp[World.frozen?,r0]
 have f2:w'.frozen? ⟨w.heap.size,2,none⟩=false:=by simp[World.frozen?,r0]
 have f3:w'.frozen? ⟨w.heap.size,3,none⟩=false:=by simp[World.frozen?,r0]
 have g0:w'.frozen? ⟨w.heap.size+1,0,none⟩=false:=by simp[World.frozen?,r1]
 clear k0 k1 r0 r1 hc hmf;rcases h with⟨u0,u1,u2,u3,o0,o1,o2,o3,rfl,hR⟩|⟨n,rfl,hR⟩
 ·simp only;rename_i K1 hK1 K hK;apply hK;clear hK;have hK1':=hK1;clear hK1;have s0:∀a m (w:World),(store a u0 m).run Tryz.prog w=stored Tryz.prog w a u0 m:=fun a m w=>run_store _ w a u0 m o0;have s1:∀a m (w:World),(store a u1 m).run Tryz.prog w=stored Tryz.prog w a u1 m:=fun a m w=>run_store _ w a u1 m o1;have s2:∀a m (w:World),(store a u2 m).run Tryz.prog w=stored Tryz.prog w a u2 m:=fun a m w=>run_store _ w a u2 m o2;have s3:∀a m (w:World),(store a u3 m).run Tryz.prog w=stored Tryz.prog w a u3 m:=fun a m w=>run_store _ w a u3 m o3
  go_wp2
  change Leaves _ _ _ _ _ _ _;refine leaves_cons (f:=117) (args:=#[.pointer (some ⟨w.heap.size,0,none⟩),.pointer (some ⟨w.heap.size+1,0,none⟩)]) (by simp) (by simp[go_sem]) ?_;refine (yS ⟨w.heap.size,0,none⟩ ⟨w.heap.size+1,0,none⟩ _).mono ?_;rintro e u' w'' ⟨rfl,rfl,rfl⟩;simp only[Leaves,settle];refine⟨_,?_,hR⟩;simp[results,Tryz.results88,go_sem,Ae,World.cell?_setCell_same,c0,c1,c2,c3,d0]
 ·change Leaves _ _ _ _ _ _ _;refine leaves_cons (f:=117) (args:=#[.pointer (some ⟨w.heap.size,0,none⟩),.pointer (some ⟨w.heap.size+1,0,none⟩)]) (by simp) (by simp[go_sem]) ?_;refine (BD w.heap.size (w.heap.size+1) _ _ _ _ _ n w' c0 c1 c2 c3 d0 f0 f1 f2 f3 g0 (by omega) (by omega)).mono ?_;rintro e u' w'' ⟨rfl,rfl,rfl⟩;simp only[Leaves,settle];refine⟨_,?_,hR⟩;simp[results,Tryz.results88,go_sem,Ae,World.cell?_setCell_same,c0,c1,c2,c3,d0]
def pc(w:World):(pb w).heap.size=w.heap.size+2:=by simp[pb]
def FO(w:World)(b:Nat)(hb:b<w.heap.size):(pb w).heap[b]? = w.heap[b]?:=by
 unfold pb;rw[Go.Av.alloc_old _ _ (by simp;omega),Go.Av.alloc_old _ _ hb]
def yw(w:World):Gro w (pb w):=(Gro.alloc w _ _).trans (Gro.alloc _ _ _)
def yv(w w':World)(u0 u1 u2 u3 e:Value):Gro w' (Ae w w' u0 u1 u2 u3 e):=
 ((((Gro.setCell _ _ _).trans (Gro.setCell _ _ _)).trans (Gro.setCell _ _ _)).trans (Gro.setCell _ _ _)).trans (Gro.setCell _ _ _)
def uh(w w':World)(u0 u1 u2 u3 e:Value)(b:Nat)(hb:¬(w.heap.size<=b/\b<(pb w).heap.size)):(Ae w w' u0 u1 u2 u3 e).heap[b]? = w'.heap[b]?:=by
 rw[pc]at hb;unfold Ae;rw[fV (by simp;omega),fV (by simp;omega),fV (by simp;omega),fV (by simp;omega),fV (by simp;omega)]
def BC{call:FuncId->List AV->M AV}{f:AV}{xs:List AV}{h:Hp}(hr:cO call f xs h≠.fail):∃g a c,f= .fn (.func g) a c:=by
 unfold cO at hr;split at hr
 ·exact⟨_,_,_,rfl⟩
 ·exact absurd rfl hr
theorem pd:La:=by
 intro call hC args h S β w vs hr hg hw hh hv
 have key:∀f,args=[f]->Calls Tryz.prog 88 vs.toArray w (fc none S β h w (yt 69 .i64 (.agg [.int .i64 0,.int .i64 0,.sl [],.sl []]) call args h)):=by
  rintro f rfl;have ht:yt 69 .i64 (.agg [.int .i64 0,.int .i64 0,.sl [],.sl []]) call [f] h=yu 69 .i64 (.agg [.int .i64 0,.int .i64 0,.sl [],.sl []]) (cO call f [] h):=rfl;rw[ht]at hr |-;clear ht;simp only[bC]at hv;obtain⟨fv,_,rfl,hv,rfl⟩:=hv;have hne:cO call f [] h≠.fail:=fun e=>by rw[e]at hr;exact hr rfl
  obtain⟨g,a,c,rfl⟩:=BC hne
  ·have hcv:cO call (.fn (.func g) a c) [] h=call g (a++[]++c) h:=rfl;rw[hcv]at hr hne |-;simp only[VR]at hv;obtain⟨x,y,rfl,hx,hy⟩:=hv;have hold:=FO w;have hv2:bC S β (a++[]++c) (x++y):=by simpa using hx.append hy
   obtain⟨hcall,hfn⟩:=hC g (a++[]++c) h S β (pb w) (x++y) hne ⟨hg.1.mono fun b hb=>hold b (On hb hg.1.lt),hg.2⟩ (hw.grow hold) (hh.grow hold) hv2;refine FP g x.toArray y.toArray w _ hfn ?_;have e:(x++y).toArray=x.toArray++y.toArray:=by simp
   rw[<- e];refine hcall.mono fun en w' hp=>?_;have kk:∀S' β' h',Go.Av.Left (ct β h) S β (pb w) S' β' w' h'->w'.heap[w.heap.size]? = (pb w).heap[w.heap.size]? /\w'.heap[w.heap.size+1]? = (pb w).heap[w.heap.size+1]?:=fun S' β' h' L=>
    ⟨(L.keep _ (by rw[pc];omega) fun ho=>by have:=hh.low ho;omega).1,(L.keep _ (by rw[pc];omega) fun ho=>by have:=hh.low ho;omega).1⟩
   generalize call g (a++[]++c) h=r at hr hne hp |-;cases r with
   |fail=>exact absurd rfl hne
   | ok v h'=>
    obtain⟨S',β',u,rfl,hu,L,_⟩:=hp;refine⟨(kk _ _ _ L).1,(kk _ _ _ L).2,.inl ?_⟩;simp only[yu]at hr |-;cases hok:cE 4 v with
    |false=>rw[hok]at hr;exact absurd rfl hr
    | true=>
     obtain⟨g1,g2,g3⟩:=kA hok hu;have hcs:∃cs,v= .agg cs:=by
      simp only[cE,NG]at hok;have h1:=hok.1;cases v<;>simp[cM]at h1;exact⟨_,rfl⟩
     obtain⟨cs,rfl⟩:=hcs;simp only[VR]at hu;obtain⟨us,rfl,hus⟩:=hu;simp only[Value.cells]at g1 g3
     match us,g1 with
     |[u0,u1,u2,u3],_=>
      refine⟨u0,u1,u2,u3,g3 u0 (by simp),g3 u1 (by simp),g3 u2 (by simp),g3 u3 (by simp),rfl,S',β',_,rfl,?_,tJ (yw w) hold L (yv ..) (fun b hb=>uh w w' _ _ _ _ _ b hb) hw hh,fun sz hsz=>by cases hsz⟩;simp only[VR,bC];exact⟨[.agg #[u0,u1,u2,u3],.int .i64 0],rfl,_,_,rfl,⟨[u0,u1,u2,u3],rfl,hus⟩,_,_,rfl,rfl,rfl⟩
   | pan v h'=>
    obtain⟨S',β',u,rfl,hu,L⟩:=hp;refine⟨(kk _ _ _ L).1,(kk _ _ _ L).2,.inr ?_⟩;unfold yu at hr |-;split at hr
    ·rename_i heq;cases heq
    ·rename_i t' k' n h'' heq;cases heq;cases hb:(Nat.beq t' 69&&decide (k'=IntKind.i64))with
     |false=>rw[hb]at hr;exact absurd rfl hr
     |true=>
      simp only[NG,Oa]at hb;obtain⟨hb1,rfl⟩:=hb
      have:=NR hb1
      subst this;simp only[VR]at hu;obtain⟨u',rfl,rfl⟩:=hu;refine⟨n,rfl,S',β',_,rfl,?_,tJ (yw w) hold L (yv ..) (fun b hb=>uh w w' _ _ _ _ _ b hb) hw hh,fun sz hsz=>by cases hsz⟩;simp only[VR,bC];refine⟨[.agg #[.int .i64 0,.int .i64 0,.slice none 0 0,.slice none 0 0],.int .i64 n],rfl,_,_,rfl,⟨[.int .i64 0,.int .i64 0,.slice none 0 0,.slice none 0 0],rfl,_,_,rfl,rfl,_,_,rfl,rfl,_,_,rfl,?_,_,_,rfl,?_,rfl⟩,_,_,rfl,rfl,rfl⟩
      ·exact⟨none,0,rfl,NL _,fun _=>rfl,fun q hq=>by cases hq⟩
      ·exact⟨none,0,rfl,NL _,fun _=>rfl,fun q hq=>by cases hq⟩
    ·exact absurd rfl hr
 rcases args with _|⟨f,_|⟨f2,r⟩⟩
 ·exact absurd rfl hr
 ·exact key _ rfl
 ·exact absurd rfl hr
end Go.Proofs.YtnipfhmghjdnmaaGreat
namespace Go.Proofs.YtnipfhmghjdnmaaGreat
open Go Go.Av Go.Av.Ap Go.RowKit
set_option maxRecDepth 100000
def EB{e:AV}{y:bk×AV}(h:wR e=some y):∃s0 b1 l2 n3 l4 n5 n6 n7 s8 s9 l10 l11,e= .agg [.str s0,.bool b1,.sl l2,.int .i64 n3,.sl l4,.int .i64 n5,.int .i64 n6,.int .i64 n7,.str s8,.str s9,.sl l10,.sl l11]/\y=(s0,.agg [.str s0,.bool b1,.sl l2,.int .i64 n3,.sl l4,.int .i64 n5,.int .i64 n6,.int .i64 n7,.str s8,.str s9,.sl l10,.sl l11]):=by
 unfold wR at h;split at h
 ·cases h;exact⟨_,_,_,_,_,_,_,_,_,_,_,_,rfl,rfl⟩
 ·cases h
def E1{e:AV}{m:bk×List (bk×AV)}(h:zD e=some m):∃s0 l1 l2 l3 l4 b5 l6 l7 l8,e= .agg [.str s0,.sl l1,.sl l2,.sl l3,.sl l4,.bool b5,.sl l6,.sl l7,.sl l8]/\∃l,l4.mapM wR=some l/\m=(s0,l):=by
 unfold zD at h;split at h
 ·rename_i s _ _ _ fs _ _ _ _;cases hl:fs.mapM wR with
  |none=>rw[hl]at h;cases h
  |some l=>rw[hl]at h;simp only[Oo,NB]at h;exact⟨_,_,_,_,_,_,_,_,_,rfl,l,hl,h.symm⟩
 ·cases h
def mg{α γ:Type}{f:α->Option γ}{x:α}{xs:List α}{l:List γ}(h:(x:: xs).mapM f=some l):∃y ys,f x=some y/\xs.mapM f=some ys/\l=y:: ys:=by
 rw[Qf]at h;cases h1:f x with
 |none=>rw[h1]at h;cases h
 | some y=>
  cases h2:xs.mapM f with
  |none=>rw[h1,h2]at h;cases h
  |some ys=>
   rw[h1,h2]at h;simp only[Option.pure_def,Option.bind_eq_bind,PT,NB]at h;exact⟨y,ys,rfl,rfl,h.symm⟩
theorem AJ{S:aE}{β:List bT}{b sz:Nat}:(es:List AV)->(off:Nat)->(l:List (bk×AV))->bZ S β es b off sz->es.mapM wR=some l->
  ∃zs:List F12,jc S β l zs/\zs.length=es.length/\∀j,j<zs.length->S b (off+j*12)=some (.string (zs[j]?.getD default).n)/\S b (off+j*12+1)=some (zs[j]?.getD default).a1/\S b (off+j*12+2)=some (zs[j]?.getD default).a2/\S b (off+j*12+3)=some (zs[j]?.getD default).a3/\S b (off+j*12+4)=some (zs[j]?.getD default).a4/\S b (off+j*12+5)=some (zs[j]?.getD default).a5/\S b (off+j*12+6)=some (zs[j]?.getD default).a6/\S b (off+j*12+7)=some (zs[j]?.getD default).a7/\S b (off+j*12+8)=some (zs[j]?.getD default).a8/\S b (off+j*12+9)=some (zs[j]?.getD default).a9/\S b (off+j*12+10)=some (zs[j]?.getD default).a10/\S b (off+j*12+11)=some (zs[j]?.getD default).a11
 |[],off,l,_,h=>by
  simp at h;subst h;exact⟨[],rfl,rfl,fun j hj=>by simp at hj⟩
 | e:: es,off,l,he,h=>by
  obtain⟨y,l',h1,h2,rfl⟩:=mg h;simp only[bZ]at he;obtain⟨⟨v,hv,hs,hc⟩,he⟩:=he;obtain⟨s0,b1,l2,n3,l4,n5,n6,n7,s8,s9,l10,l11,rfl,rfl⟩:=EB h1;have hv0:=hv;simp only[VR,bC]at hv;obtain⟨vs,rfl,_,_,rfl,⟨x0,rfl,hx0⟩,_,_,rfl,rfl,_,_,rfl,⟨p2,c2,rfl,hp2⟩,_,_,rfl,rfl,_,_,rfl,⟨p4,c4,rfl,hp4⟩,_,_,rfl,rfl,_,_,rfl,rfl,_,_,rfl,rfl,_,_,rfl,⟨x8,rfl,hx8⟩,_,_,rfl,⟨x9,rfl,hx9⟩,_,_,rfl,⟨p10,c10,rfl,hp10⟩,_,_,rfl,⟨p11,c11,rfl,hp11⟩,rfl⟩:=hv;have hsz:sz=12:=by rw[<- hs];rfl
  subst hsz;obtain⟨zs,hR,hl,hZ⟩:=AJ es (off+12) l' he h2;refine⟨⟨x0,.bool b1,.slice p2 l2.length c2,.int .i64 n3,.slice p4 l4.length c4,.int .i64 n5,.int .i64 n6,.int .i64 n7,.string x8,.string x9,.slice p10 l10.length c10,.slice p11 l11.length c11⟩:: zs,⟨_,_,rfl,⟨hx0,hv0,⟨_,rfl⟩,⟨_,_,_,rfl⟩,⟨_,rfl⟩,⟨_,_,_,rfl⟩,⟨_,rfl⟩,⟨_,rfl⟩,⟨_,rfl⟩,⟨_,rfl⟩,⟨_,rfl⟩,⟨_,_,_,rfl⟩,⟨_,_,_,rfl⟩⟩,hR⟩,by simp[hl],fun j hj=>?_⟩;cases j with
  |zero=>exact⟨by simpa using hc 0 _ rfl,by simpa using hc 1 _ rfl,by simpa using hc 2 _ rfl,by simpa using hc 3 _ rfl,by simpa using hc 4 _ rfl,by simpa using hc 5 _ rfl,by simpa using hc 6 _ rfl,by simpa using hc 7 _ rfl,by simpa using hc 8 _ rfl,by simpa using hc 9 _ rfl,by simpa using hc 10 _ rfl,by simpa using hc 11 _ rfl⟩
  |succ j=>
   have:=hZ j (by simpa using hj)
   rw[show off+12+j*12=off+(j+1)*12 by omega]at this;simpa using this
theorem AX{S:aE}{β:List bT}{w:World}(hw:Wf S w){b sz:Nat}:(es:List AV)->(off:Nat)->(l:List (bk×List (bk×AV)))->bZ S β es b off sz->es.mapM zD=some l->
  ∃zs:List M9,jI S β w l zs/\zs.length=es.length/\∀j,j<zs.length->S b (off+j*9)=some (.string (zs[j]?.getD default).n)/\S b (off+j*9+1)=some (zs[j]?.getD default).a1/\S b (off+j*9+2)=some (zs[j]?.getD default).a2/\S b (off+j*9+3)=some (zs[j]?.getD default).a3/\S b (off+j*9+4)=some (zs[j]?.getD default).a4/\S b (off+j*9+5)=some (zs[j]?.getD default).a5/\S b (off+j*9+6)=some (zs[j]?.getD default).a6/\S b (off+j*9+7)=some (zs[j]?.getD default).a7/\S b (off+j*9+8)=some (zs[j]?.getD default).a8
 |[],off,l,_,h=>by
  simp at h;subst h;exact⟨[],rfl,rfl,fun j hj=>by simp at hj⟩
 | e :: es,off,l,he,h=>by
  obtain⟨y,l',h1,h2,rfl⟩:=mg h;simp only[bZ]at he;obtain⟨⟨v,hv,hs,hc⟩,he⟩:=he;obtain⟨s0,l1,l2,l3,l4,b5,l6,l7,l8,rfl,fl,hfl,rfl⟩:=E1 h1;simp only[VR,bC]at hv;obtain⟨vs,rfl,_,_,rfl,⟨x0,rfl,hx0⟩,_,_,rfl,⟨p1,c1,rfl,hp1⟩,_,_,rfl,⟨p2,c2,rfl,hp2⟩,_,_,rfl,⟨p3,c3,rfl,hp3⟩,_,_,rfl,⟨p4,c4,rfl,hp4⟩,_,_,rfl,rfl,_,_,rfl,⟨p6,c6,rfl,hp6⟩,_,_,rfl,⟨p7,c7,rfl,hp7⟩,_,_,rfl,⟨p8,c8,rfl,hp8⟩,rfl⟩:=hv;have hsz:sz=9:=by rw[<- hs];rfl
  subst hsz;obtain⟨zs,hR,hl,hZ⟩:=AX hw es (off+9) l' he h2;have hf:∃fz,jc S β fl fz/\jr w.heap.size w.heap.size w (.slice p4 l4.length c4) fz:=by
   cases hl4:l4 with
   |nil=>
    subst hl4;simp at hfl;subst hfl;exact⟨[],rfl,.inl ⟨rfl,_,_,rfl⟩⟩
   | cons f fs=>
    rw[hl4]at hp4 hfl;obtain⟨q1,q2,q3⟩:=hp4;cases p4 with
    |none=>have:=q2 rfl;rw[this]at q1;simp at q1
    | some q=>
     obtain⟨g1,sz,g2⟩:=q3 q rfl;obtain⟨qb,qo,qp⟩:=q;have hqp:qp=none:=g1 (by simp at q1;omega);subst hqp;obtain⟨fz,r1,r2,r3⟩:=AJ (f:: fs) qo fl g2 hfl;refine⟨fz,r1,.inr ⟨qb,qo,c4,by rw[r2],?_,?_,fun j hj=>?_⟩⟩
     ·exact hw.lt (r3 0 (by rw[r2];simp)).1
     ·exact Nat.ne_of_lt (hw.lt (r3 0 (by rw[r2];simp)).1)
     ·obtain⟨d0,d1,d2,d3,d4,d5,d6,d7,d8,d9,d10,d11⟩:=r3 j hj;exact⟨hw _ _ _ d0,hw _ _ _ d1,hw _ _ _ d2,hw _ _ _ d3,hw _ _ _ d4,hw _ _ _ d5,hw _ _ _ d6,hw _ _ _ d7,hw _ _ _ d8,hw _ _ _ d9,hw _ _ _ d10,hw _ _ _ d11⟩
  obtain⟨fz,hf1,hf2⟩:=hf;refine⟨⟨x0,.slice p1 l1.length c1,.slice p2 l2.length c2,.slice p3 l3.length c3,.slice p4 l4.length c4,.bool b5,.slice p6 l6.length c6,.slice p7 l7.length c7,.slice p8 l8.length c8⟩:: zs,⟨_,_,rfl,⟨hx0,fz,hf1,hf2,⟨_,_,_,rfl⟩,⟨_,_,_,rfl⟩,⟨_,_,_,rfl⟩,⟨_,_,_,rfl⟩,⟨_,rfl⟩,⟨_,_,_,rfl⟩,⟨_,_,_,rfl⟩,⟨_,_,_,rfl⟩⟩,hR⟩,by simp[hl],fun j hj=>?_⟩;cases j with
  |zero=>exact⟨by simpa using hc 0 _ rfl,by simpa using hc 1 _ rfl,by simpa using hc 2 _ rfl,by simpa using hc 3 _ rfl,by simpa using hc 4 _ rfl,by simpa using hc 5 _ rfl,by simpa using hc 6 _ rfl,by simpa using hc 7 _ rfl,by simpa using hc 8 _ rfl⟩
  |succ j=>
   have:=hZ j (by simpa using hj)
   rw[show off+9+j*9=off+(j+1)*9 by omega]at this;simpa using this
def tW(call:FuncId->List AV->M AV)(args:List AV)(h:Hp)(S:aE)(β:List bT)(w:World)(vs:List Value)(hr:rA call args h≠.fail)(hg:yD β h w)(hw:Wf S w)(hh:da S β w h)(hv:bC S β args vs):
  Calls Tryz.prog 53 vs.toArray w (fc none S β h w (rA call args h)):=by
 unfold rA at hr |-;split at hr
 ·rename_i ms;cases hm:ms.mapM zD with
  |none=>rw[hm]at hr;exact absurd rfl hr
  | some l=>
   rw[hm]at hr;simp only at hr |-;by_cases hc:l.length<=1000000/\∀m∈l,m.2.length<=1000000
   ·rw [NE hc];simp only[bC,VR]at hv;obtain⟨_,_,rfl,⟨a,cap,rfl,hle,hnil,hq⟩,rfl⟩:=hv;have hzs:∃zs:List M9,jI S β w l zs/\ms.length=zs.length/\(zs=[]\/∃b off,a=some ⟨b,off,none⟩/\b<w.heap.size/\qw w b off zs):=by
     cases hms:ms with
     |nil=>
      subst hms;simp at hm;subst hm;exact⟨[],rfl,rfl,.inl rfl⟩
     | cons e es=>
      rw[hms]at hm hle hq;cases a with
      |none=>have:=hnil rfl;simp at hle;omega
      | some q=>
       obtain⟨g1,sz,g2⟩:=hq q rfl;obtain⟨qb,qo,qp⟩:=q;have hqp:qp=none:=g1 (by simp at hle;omega);subst hqp;obtain⟨zs,r1,r2,r3⟩:=AX hw (e:: es) qo l g2 hm;refine⟨zs,r1,r2.symm,.inr ⟨qb,qo,rfl,?_,fun j hj=>?_⟩⟩
       ·exact hw.lt (r3 0 (by rw[r2];simp)).1
       ·obtain⟨d0,d1,d2,d3,d4,d5,d6,d7,d8⟩:=r3 j hj;exact⟨hw _ _ _ d0,hw _ _ _ d1,hw _ _ _ d2,hw _ _ _ d3,hw _ _ _ d4,hw _ _ _ d5,hw _ _ _ d6,hw _ _ _ d7,hw _ _ _ d8⟩
    obtain⟨zs,hR,hlen,hcl⟩:=hzs
    have:=JD Fence.wide 20 trivial trivial trivial rfl (by decide) S β a ms.length cap zs l w hR hlen hc hcl
    rw[callsIn_wide]at this;refine this.mono ?_;rintro e w' ⟨bo,rfl,hbo,hmap,hB⟩;exact BI hw hh hB E6 hbo hmap
   ·rw[if_neg hc]at hr;exact absurd rfl hr
 ·exact absurd rfl hr
def Bt{α:Type}{f k:Nat}{x:α}{o:Option α}{y:α}(h:(bif Nat.beq f k then some x else o)=some y):(f=k/\x=y)\/o=some y:=by
 cases hb:Nat.beq f k with
 |true=>rw[hb]at h;exact .inl ⟨NR hb,by simpa using h⟩
 |false=>rw[hb]at h;exact .inr h
def good:GoodPg Tryz.prog pg where
 tok:=tok
 funcs:=wS
 other:=by
  intro f E hE call hC args h S β w vs hr hg hw hh hv;have h0:other f=some E:=hE;unfold other at h0;rcases Bt h0 with⟨rfl,rfl⟩|h0
  ·first
    |exact⟨tW call args h S β w vs hr hg hw hh hv,by kernel_rfl⟩
    |exact⟨tX call args h S β w vs hr hg hw hh hv,by kernel_rfl⟩
    |exact⟨tY call args h S β w vs hr hg hw hh hv,by kernel_rfl⟩
    |exact⟨pd call hC args h S β w vs hr hg hw hh hv,by kernel_rfl⟩
    |exact⟨oX call args h S β w vs hr hg hw hh hv,by kernel_rfl⟩
    |exact⟨oY call args h S β w vs hr hg hw hh hv,by kernel_rfl⟩
  rcases Bt h0 with⟨rfl,rfl⟩|h0
  ·first
    |exact⟨tW call args h S β w vs hr hg hw hh hv,by kernel_rfl⟩
    |exact⟨tX call args h S β w vs hr hg hw hh hv,by kernel_rfl⟩
    |exact⟨tY call args h S β w vs hr hg hw hh hv,by kernel_rfl⟩
    |exact⟨pd call hC args h S β w vs hr hg hw hh hv,by kernel_rfl⟩
    |exact⟨oX call args h S β w vs hr hg hw hh hv,by kernel_rfl⟩
    |exact⟨oY call args h S β w vs hr hg hw hh hv,by kernel_rfl⟩
  rcases Bt h0 with⟨rfl,rfl⟩|h0
  ·first
    |exact⟨tW call args h S β w vs hr hg hw hh hv,by kernel_rfl⟩
    |exact⟨tX call args h S β w vs hr hg hw hh hv,by kernel_rfl⟩
    |exact⟨tY call args h S β w vs hr hg hw hh hv,by kernel_rfl⟩
    |exact⟨pd call hC args h S β w vs hr hg hw hh hv,by kernel_rfl⟩
    |exact⟨oX call args h S β w vs hr hg hw hh hv,by kernel_rfl⟩
    |exact⟨oY call args h S β w vs hr hg hw hh hv,by kernel_rfl⟩
  rcases Bt h0 with⟨rfl,rfl⟩|h0
  ·first
    |exact⟨tW call args h S β w vs hr hg hw hh hv,by kernel_rfl⟩
    |exact⟨tX call args h S β w vs hr hg hw hh hv,by kernel_rfl⟩
    |exact⟨tY call args h S β w vs hr hg hw hh hv,by kernel_rfl⟩
    |exact⟨pd call hC args h S β w vs hr hg hw hh hv,by kernel_rfl⟩
    |exact⟨oX call args h S β w vs hr hg hw hh hv,by kernel_rfl⟩
    |exact⟨oY call args h S β w vs hr hg hw hh hv,by kernel_rfl⟩
  rcases Bt h0 with⟨rfl,rfl⟩|h0
  ·first
    |exact⟨tW call args h S β w vs hr hg hw hh hv,by kernel_rfl⟩
    |exact⟨tX call args h S β w vs hr hg hw hh hv,by kernel_rfl⟩
    |exact⟨tY call args h S β w vs hr hg hw hh hv,by kernel_rfl⟩
    |exact⟨pd call hC args h S β w vs hr hg hw hh hv,by kernel_rfl⟩
    |exact⟨oX call args h S β w vs hr hg hw hh hv,by kernel_rfl⟩
    |exact⟨oY call args h S β w vs hr hg hw hh hv,by kernel_rfl⟩
  rcases Bt h0 with⟨rfl,rfl⟩|h0
  ·first
    |exact⟨tW call args h S β w vs hr hg hw hh hv,by kernel_rfl⟩
    |exact⟨tX call args h S β w vs hr hg hw hh hv,by kernel_rfl⟩
    |exact⟨tY call args h S β w vs hr hg hw hh hv,by kernel_rfl⟩
    |exact⟨pd call hC args h S β w vs hr hg hw hh hv,by kernel_rfl⟩
    |exact⟨oX call args h S β w vs hr hg hw hh hv,by kernel_rfl⟩
    |exact⟨oY call args h S β w vs hr hg hw hh hv,by kernel_rfl⟩
  cases h0
 nw:=by
  intro f hf;have h0:(bif Nat.beq f 100 then true else false)=true:=hf;cases hb:Nat.beq f 100 with
  |true=>
   have:=NR hb
   subst this;exact⟨_,rfl,fun call args=>BE _ _ _ _⟩
  |false=>rw[hb]at h0;cases h0
end Go.Proofs.YtnipfhmghjdnmaaGreat
namespace Go.Proofs.YtnipfhmghjdnmaaGreat
open Go Go.Av Go.Av.Ap Go.RowKit
set_option maxRecDepth 1000000
section
variable {H:Type} {enc:TypeId×Value->H} {W:World}
theorem fT:reachBytes=140737488351232:=rfl
theorem vt(N:Nat):Rd enc Tryz.prog W N 28 (fun l:List bk=>[strs l]) (fun l=>l.length<=8796093022208):=
 (fS (jE Tryz.underlying9) Tryz.underlying28 (by kernel_rfl:_=1) (by decide) (by kernel_rfl:_=16) (Eh fun _=>rfl)).map id (fun _=>rfl) (fun l h=>by have:=h.1;rw[fT]at this;simp only[id];omega)
theorem Val.lim_mk{k n:Int}{ns:List bk}{vs:List Val}(h1:ns.length<=140737488355328)(h2:vs.length<=140737488355328)(h3:∀v∈vs,v.Lim):(Val.mk k n ns vs).Lim:=fun j=>match j with
 |0=>trivial
 |j+1=>⟨h1,h2,fun x hx=>h3 x hx j⟩
theorem Exp.lim_mk{o n:Int}{s m:bk}{ns:List bk}{es:List Exp}(h1:ns.length<=8796093022208)(h2:es.length<=140737488355328)(h3:∀v∈es,v.Lim):(Exp.mk o n s m ns es).Lim:=fun j=>match j with
 |0=>trivial
 |j+1=>⟨h1,h2,fun x hx=>h3 x hx j⟩
theorem Ty.lim_mk{k:Int}{fs:List ie}(h2:fs.length<=140737488355328)(h3:∀v∈fs,v.2.Lim):(Ty.mk k fs).Lim:=fun j=>match j with
 |0=>trivial
 |j+1=>⟨h2,fun x hx=>h3 x hx j⟩
theorem sd{N:Nat}(h:Rd enc Tryz.prog W N 71 (fun v:Val=>aa v.av) Val.Lim):Rd enc Tryz.prog W N 61 (fun l:List Val=>[vals l]) (fun l=>l.length<=140737488355328/\∀v∈l,v.Lim):=
 (fS h Tryz.underlying61 (by kernel_rfl:_=4) (by decide) (by kernel_rfl:_=64) (ev:=Val.av) (fD fun v=>by rw[v.av_eq];rfl)).map id (fun l=>by simp[vals,eu]) (fun l h=>⟨by have:=h.1;rw[fT]at this;simp only[id];omega,h.2⟩)
theorem rd_val:∀N,Rd enc Tryz.prog W N 71 (fun v:Val=>aa v.av) Val.Lim
 |0=>.zero
 | N+1=>(dE Tryz.underlying71 (by kernel_rfl) (aR (jD Tryz.underlying3) rfl (by kernel_rfl:_=1) (aR (jD Tryz.underlying3) rfl (by kernel_rfl:_=1) (aR (vt N) rfl (by kernel_rfl:_=1)
   (aR (sd (rd_val N)) rfl (by kernel_rfl:_=1) eB))))).map (fun x=>Val.mk x.1 x.2.1 x.2.2.1 x.2.2.2.1) (fun x=>by simp[Val.av_eq,aa]) (fun x h=>Val.lim_mk (by have:=h.2.2.1;omega) h.2.2.2.1.1 h.2.2.2.1.2)
theorem Hj(N:Nat):Rd enc Tryz.prog W N 61 (fun l:List Val=>[vals l]) (fun l=>l.length<=140737488355328/\∀v∈l,v.Lim):=sd (rd_val N)
theorem sa{N:Nat}(h:Rd enc Tryz.prog W N 31 (fun v:Exp=>v.cells) Exp.Lim):Rd enc Tryz.prog W N 29 (fun l:List Exp=>[cb l]) (fun l=>l.length<=140737488355328/\∀v∈l,v.Lim):=
 (fS h Tryz.underlying29 (by kernel_rfl:_=6) (by decide) (by kernel_rfl:_=96) (ev:=Exp.av) (fD fun v=>rfl)).map id (fun l=>by simp[cb,eO]) (fun l h=>⟨by have:=h.1;rw[fT]at this;simp only[id];omega,h.2⟩)
theorem vo:∀N,Rd enc Tryz.prog W N 31 (fun v:Exp=>v.cells) Exp.Lim
 |0=>.zero
 | N+1=>(dE Tryz.underlying31 (by kernel_rfl) (aR (jD Tryz.underlying3) rfl (by kernel_rfl:_=1) (aR (jD Tryz.underlying3) rfl (by kernel_rfl:_=1) (aR (jE Tryz.underlying9) rfl (by kernel_rfl:_=1) (aR (jE Tryz.underlying9) rfl (by kernel_rfl:_=1)
   (aR (vt N) rfl (by kernel_rfl:_=1) (aR (sa (vo N)) rfl (by kernel_rfl:_=1) eB))))))).map (fun x=>Exp.mk x.1 x.2.1 x.2.2.1 x.2.2.2.1 x.2.2.2.2.1 x.2.2.2.2.2.1) (fun x=>by simp[Exp.cells_eq,Exp.op,Exp.n,Exp.s,Exp.m,Exp.names,Exp.args]) (fun x h=>Exp.lim_mk h.2.2.2.2.1 h.2.2.2.2.2.1.1 h.2.2.2.2.2.1.2)
theorem vp(N:Nat):Rd enc Tryz.prog W N 29 (fun l:List Exp=>[cb l]) (fun l=>l.length<=140737488355328/\∀v∈l,v.Lim):=sa (vo N)
theorem sb{N:Nat}(h:Rd enc Tryz.prog W N 88 (fun v:Ty=>v.cells) Ty.Lim):Rd enc Tryz.prog W (N+1) 50 (fun l:List ie=>[di l]) (fun l=>l.length<=140737488355328/\∀v∈l,v.2.Lim):=
 (fS ((dE Tryz.underlying105 (by kernel_rfl) (aR (jE Tryz.underlying9) rfl (by kernel_rfl:_=1) (aR h rfl (by kernel_rfl:_=2) eB))).map (fun x=>((x.1,x.2.1):ie)) (cells':=fun f=>aa (dW f)) (Ok':=fun f=>f.2.Lim) (fun x=>by simp[Ty.cells_eq]) (fun x h=>h.2.1))
  Tryz.underlying50 (by kernel_rfl:_=3) (by decide) (by kernel_rfl:_=48) (ev:=dW) (fD fun v=>by rw[nv];rfl)).map id (fun l=>by simp[di,iT]) (fun l h=>⟨by have:=h.1;rw[fT]at this;simp only[id];omega,h.2⟩)
theorem Fp:∀N,Rd enc Tryz.prog W N 88 (fun v:Ty=>v.cells) Ty.Lim
 |0=>.zero
 | N+1=>(dE Tryz.underlying88 (by kernel_rfl) (aR (jD Tryz.underlying3) rfl (by kernel_rfl:_=1) (aR ((sb (Fp N)).le (P8 N)) rfl (by kernel_rfl:_=1) eB))).map (fun x=>Ty.mk x.1 x.2.1)
   (fun x=>by simp[Ty.cells_eq,Ty.kind,Ty.fields]) (fun x h=>Ty.lim_mk h.2.1.1 h.2.1.2)
theorem vq(N:Nat):Rd enc Tryz.prog W N 50 (fun l:List ie=>[di l]) (fun l=>l.length<=140737488355328/\∀v∈l,v.2.Lim):=(sb (Fp N)).le (P8 N)
theorem Ki(N:Nat):Rd enc Tryz.prog W (N+1) 90 (fun f:Fun=>aa f.av) Fun.Lim:=
 (dE Tryz.underlying90 (by kernel_rfl) (aR (jE Tryz.underlying9) rfl (by kernel_rfl:_=1) (aR (vl Tryz.underlying4) rfl (by kernel_rfl:_=1) (aR (vq N) rfl (by kernel_rfl:_=1) (aR (Fp N) rfl (by kernel_rfl:_=2)
  (aR (jD Tryz.underlying3) rfl (by kernel_rfl:_=1) (aR (vo N) rfl (by kernel_rfl:_=6) eB))))))).map (fun x=>(⟨x.1,x.2.1,x.2.2.1,x.2.2.2.1,x.2.2.2.2.1,x.2.2.2.2.2.1⟩:Fun))
  (fun x=>by simp[Ty.cells_eq,Exp.cells_eq]) (fun x h=>⟨h.2.2.1.1,h.2.2.1.2,h.2.2.2.1,h.2.2.2.2.2.1⟩)
theorem Hg(N:Nat):Rd enc Tryz.prog W N 51 (fun l:List Fun=>[kp l]) (fun l=>l.length<=140737488355328/\∀v∈l,v.Lim):=
 ((fS (Ki N) Tryz.underlying51 (by kernel_rfl:_=12) (by decide) (by kernel_rfl:_=184) (ev:=Fun.av) (fD fun v=>rfl)).map id (fun l=>by simp[kp]) (fun l h=>⟨by have:=h.1;rw[fT]at this;simp only[id];omega,h.2⟩)).le (P8 N)
theorem Kj(N:Nat):Rd enc Tryz.prog W (N+1) 55 (fun m:Mod=>aa m.av) Mod.Lim:=
 (dE Tryz.underlying55 (by kernel_rfl) (aR (jE Tryz.underlying9) rfl (by kernel_rfl:_=1) (aR (vt N) rfl (by kernel_rfl:_=1) (aR (vq N) rfl (by kernel_rfl:_=1) (aR (vp N) rfl (by kernel_rfl:_=1)
  (aR (Hg N) rfl (by kernel_rfl:_=1) (aR (vl Tryz.underlying4) rfl (by kernel_rfl:_=1)
  (aR ((dE Tryz.underlying53 (by kernel_rfl) (aR (vq N) rfl (by kernel_rfl:_=1) (aR (vp N) rfl (by kernel_rfl:_=1) (aR (vp N) rfl (by kernel_rfl:_=1) eB)))).le (P8 N)) rfl (by kernel_rfl:_=3) eB)))))))).map
  (fun x=>(⟨x.1,x.2.1,x.2.2.1,x.2.2.2.1,x.2.2.2.2.1,x.2.2.2.2.2.1,x.2.2.2.2.2.2.1.1,x.2.2.2.2.2.2.1.2.1,x.2.2.2.2.2.2.1.2.2.1⟩:Mod))
  (fun x=>by simp) (fun x h=>⟨by have:=h.2.1;simp only;omega,h.2.2.1.1,h.2.2.1.2,h.2.2.2.1.1,h.2.2.2.1.2,h.2.2.2.2.1.1,h.2.2.2.2.1.2,h.2.2.2.2.2.2.1.1.1,h.2.2.2.2.2.2.1.1.2,h.2.2.2.2.2.2.1.2.1.1,h.2.2.2.2.2.2.1.2.1.2,h.2.2.2.2.2.2.1.2.2.1.1,h.2.2.2.2.2.2.1.2.2.1.2⟩)
theorem Hh(N:Nat):Rd enc Tryz.prog W N 22 (fun l:List Mod=>[mods l]) (fun l=>l.length<=140737488355328/\∀v∈l,v.Lim):=
 ((fS (Kj N) Tryz.underlying22 (by kernel_rfl:_=9) (by decide) (by kernel_rfl:_=192) (ev:=Mod.av) (fD fun v=>rfl)).map id (fun l=>by simp[mods]) (fun l h=>⟨by have:=h.1;rw[fT]at this;simp only[id];omega,h.2⟩)).le (P8 N)
theorem zP:∀N,Rd enc Tryz.prog W N 58 (fun v:Ver=>aa v.av) (fun _=>True)
 |0=>.zero
 |_+1=>(dE Tryz.underlying58 (by kernel_rfl) (aR (jD Tryz.underlying3) rfl (by kernel_rfl:_=1) (aR (jD Tryz.underlying3) rfl (by kernel_rfl:_=1) (aR (jD Tryz.underlying3) rfl (by kernel_rfl:_=1) eB)))).map (fun x=>(⟨x.1,x.2.1,x.2.2.1⟩:Ver)) (fun x=>rfl) (fun x h=>trivial)
theorem Hk(N:Nat):Rd enc Tryz.prog W N 23 (fun l:List Ver=>[ol l]) (fun l=>l.length<=140737488355328):=
 (fS (zP N) Tryz.underlying23 (by kernel_rfl:_=3) (by decide) (by kernel_rfl:_=24) (ev:=Ver.av) (fD fun v=>rfl)).map id (fun l=>by simp[ol]) (fun l h=>by have:=h.1;rw[fT]at this;simp only[id];omega)
theorem Kk(N:Nat):Rd enc Tryz.prog W (N+1) 99 (fun v:Rng=>aa v.av) (fun _=>True):=
 (dE Tryz.underlying99 (by kernel_rfl) (aR (zP N) rfl (by kernel_rfl:_=3) (aR (zP N) rfl (by kernel_rfl:_=3) eB))).map (fun x=>(⟨x.1,x.2.1⟩:Rng)) (fun x=>rfl) (fun x h=>trivial)
theorem Hi(N:Nat):Rd enc Tryz.prog W N 27 (fun l:List Rng=>[kF l]) (fun l=>l.length<=140737488355328):=
 ((fS (Kk N) Tryz.underlying27 (by kernel_rfl:_=6) (by decide) (by kernel_rfl:_=48) (ev:=Rng.av) (fD fun v=>rfl)).map id (fun l=>by simp[kF]) (fun l h=>by have:=h.1;rw[fT]at this;simp only[id];omega)).le (P8 N)
theorem Hf(N:Nat):Rd enc Tryz.prog W (N+1) 63 (fun c:Ap.Call=>aa c.av) CallLim:=
 (dE Tryz.underlying63 (by kernel_rfl) (aR (jE Tryz.underlying9) rfl (by kernel_rfl:_=1) (aR (jE Tryz.underlying9) rfl (by kernel_rfl:_=1) (aR (Hj N) rfl (by kernel_rfl:_=1) eB)))).map (fun x=>(⟨x.1,x.2.1,x.2.2.1⟩:Ap.Call)) (fun x=>rfl) (fun x h=>⟨h.2.2.1.1,h.2.2.1.2⟩)
theorem Fo(N:Nat):Rd enc Tryz.prog W N 24 (fun l:List Ap.Call=>[Ap.calls l]) (fun l=>(l.length+1)*56<=140737488355328/\∀c∈l,CallLim c):=
 ((fS (Hf N) Tryz.underlying24 (by kernel_rfl:_=3) (by decide) (by kernel_rfl:_=56) (ev:=Ap.Call.av) (fD fun v=>rfl)).map id (fun l=>by simp[Ap.calls]) (fun l h=>⟨by have:=h.1;rw[fT]at this;simp only[id];omega,h.2⟩)).le (P8 N)
theorem A9(N:Nat):Rd enc Tryz.prog W (N+1) 26 (fun s:Seen=>aa s.av) (fun s=>s.Lim/\(s.calls.length+1)*56<=140737488355328):=
 (dE Tryz.underlying26 (by kernel_rfl) (aR (Hh N) rfl (by kernel_rfl:_=1) (aR (Hk N) rfl (by kernel_rfl:_=1) (aR (Fo N) rfl (by kernel_rfl:_=1) (aR (vl Tryz.underlying4) rfl (by kernel_rfl:_=1) eB))))).map (fun x=>(⟨x.1,x.2.1,x.2.2.1,x.2.2.2.1⟩:Seen)) (fun x=>rfl) (fun x h=>⟨⟨h.1.1,h.1.2,h.2.1,by have:=h.2.2.1.1;simp only;omega,h.2.2.1.2⟩,h.2.2.1.1⟩)
theorem Kg(N:Nat):Rd enc Tryz.prog W (N+1) 33 (fun a:Adv=>aa a.av) Adv.Lim:=
 (dE Tryz.underlying33 (by kernel_rfl) (aR (jD Tryz.underlying3) rfl (by kernel_rfl:_=1) (aR (jE Tryz.underlying9) rfl (by kernel_rfl:_=1) (aR (Hi N) rfl (by kernel_rfl:_=1) (aR (jE Tryz.underlying9) rfl (by kernel_rfl:_=1) (aR (vo N) rfl (by kernel_rfl:_=6) eB)))))).map (fun x=>(⟨x.1,x.2.1,x.2.2.1,x.2.2.2.1,x.2.2.2.2.1⟩:Adv)) (fun x=>by simp[Exp.cells_eq]) (fun x h=>⟨h.2.2.1,h.2.2.2.2.1⟩)
end
end Go.Proofs.YtnipfhmghjdnmaaGreat
namespace Go.Proofs.YtnipfhmghjdnmaaGreat
open Go Go.Av Go.Av.Ap
set_option maxRecDepth 100000
def t164(n:Int):ai pg 164 [.int .i64 n]=M.pure (.bool false):=by
 rw[C164];simp[S164]
def t114(a b:Int):ai pg 114 [.int .i64 a,.int .i64 b]=M.pure (.int .i64 (qe a b)):=by
 rw[C114];simp[S114,t164,qe]
def Kc:List Int->Int
 |[]=>0
 |x:: l=>if x=0 then Kc l else x
def uS(l:List Int)(hb:l.length<=1099511627776):∀(n:Nat)(i:Int),l.length-i.toNat=n->0<=i->i<=l.length->
  aj (L105_0 (ai pg) aj) [.int .i64 0,ints l,.int .i64 l.length,.int .i64 i]=M.pure (.int .i64 (Kc (l.drop i.toNat))):=by
 intro n
 induction n with
 |zero=>
  intro i hn hi hl;rw[FL105_0];simp only[L105_0];have h1:¬(i<(l.length:Int)):=by omega
  have h2:l.drop i.toNat=[]:=NN (by omega);simp[h1,h2,Kc]
 |succ n ih=>
  intro i hn hi hl;have h1:i<(l.length:Int):=by omega
  have hlt:i.toNat<l.length:=by omega
  have h4:=ih (i+1) (by omega) (by omega) (by omega);rw[show (i+1).toNat=i.toNat+1 by omega]at h4;rw[FL105_0,NI hlt];simp only[L105_0,Kc];simp (disch:=omega) [h1,aF,Bi,ND l i.toNat hlt,h4]
def t105(l:List Int)(hb:l.length<=1099511627776):ai pg 105 [ints l]=M.pure (.int .i64 (Kc l)):=by
 rw[C105];simp[S105,uS l hb l.length 0 rfl (by omega) (by omega)]
def xK(a b:Int):qe a b=0↔a=b:=by
 unfold qe;split
 ·omega
 ·split<;>omega
def Kd(v w:Ver):Kc [qe v.a w.a,qe v.b w.b,qe v.c w.c]=uE v w:=by
 unfold uE;simp only[Kc,xK];by_cases h1:v.a=w.a<;>by_cases h2:v.b=w.b<;>simp[h1,h2];intro h;rw[h];exact ((xK _ _).2 rfl).symm
def t84(v w:Ver):ai pg 84 [v.av,w.av]=M.pure (.int .i64 (uE v w)):=by
 rw[C84,<- Kd];have hB:∀x y z:Int,au T 45 3 [(0,.int .i64 x),(1,.int .i64 y),(2,.int .i64 z)]=some (ints [x,y,z]):=fun x y z=>rfl;simp[S84,t114,hB,t105]
def t48(x:Rng)(v:Ver):ai pg 48 [x.av,v.av]=M.pure (.bool (GM x v)):=by
 rw[C48];simp[S48,t84,GM]
def t47(x:Rng)(v:Ver):ai pg 47 [x.av,.ip (aa v.av)]=M.pure (.bool (GM x v)):=by
 rw[C47];simp[S47,t48,cl,eV]
def J5(f:AV)(q:Rng->Bool)(hf:∀x:Rng,cO (ai pg) f [x.av]=M.pure (.bool (q x)))(l:List Rng)(hb:l.length<=1099511627776):∀(n:Nat)(i:Int),l.length-i.toNat=n->0<=i->i<=l.length->
  aj (L83_0 (ai pg) aj) [kF l,f,.int .i64 l.length,.int .i64 i]=M.pure (.int .i64 (bj q (l.drop i.toNat) i)):=by
 intro n
 induction n with
 |zero=>
  intro i hn hi hl;rw[FL83_0];simp only[L83_0];have h1:¬(i<(l.length:Int)):=by omega
  have h2:l.drop i.toNat=[]:=NN (by omega);simp[h1,h2,bj]
 |succ n ih=>
  intro i hn hi hl;have h1:i<(l.length:Int):=by omega
  have hlt:i.toNat<l.length:=by omega
  have h4:=ih (i+1) (by omega) (by omega) (by omega);rw[show (i+1).toNat=i.toNat+1 by omega]at h4;rw[FL83_0,NI hlt];simp only[L83_0,bj];simp (disch:=omega) [h1,aF,KT,ND l i.toNat hlt,h4,hf]
theorem AK{α:Type}(q:α->Bool):∀(l:List α)(i:Int),0<=i->decide (0<=bj q l i)=l.any q
 |[],i,h=>by simp[bj]
 | x:: l,i,h=>by
  have:=AK q l (i+1) (by omega)
  simp only[bj,QD];by_cases hq:q x=true
  ·simp[hq,h]
  ·simp only[hq,NC,NK,Bool.false_or];exact this
def t83(f:AV)(q:Rng->Bool)(hcl:∀g,cl g f=f)(hf:∀x:Rng,cO (ai pg) f [x.av]=M.pure (.bool (q x)))(l:List Rng)(hb:l.length<=1099511627776):ai pg 83 [kF l,f]=M.pure (.int .i64 (bj q l 0)):=by
 rw[C83]
 have:=J5 f q hf l hb l.length 0 rfl (by omega) (by omega)
 simp at this;simp[S83,hcl,this]
def t22(l:List Rng)(v:Ver)(hb:l.length<=1099511627776):ai pg 22 [kF l,v.av]=M.pure (.bool (oK l v)):=by
 have hcl:∀g,cl g (.fn (.func 47) [] [.ip (aa v.av)])= .fn (.func 47) [] [.ip (aa v.av)]:=fun g=>by simp[cl,eV]
 have hf:∀x:Rng,cO (ai pg) (.fn (.func 47) [] [.ip (aa v.av)]) [x.av]=M.pure (.bool (GM x v)):=fun x=>t47 x v;have h1:=t83 _ _ hcl hf l hb;have h2:ai pg 46 [kF l,.fn (.func 47) [] [.ip (aa v.av)]]=M.pure (.bool (oK l v)):=by
  have h3:=AK (fun x=>GM x v) l 0 (by omega);have h4:decide (0<=bj (fun x=>GM x v) l 0)=oK l v:=h3;rw[C46,hcl,uC];have h5:S46 (ai pg) aj (kF l) (.fn (.func 47) [] [.ip (aa v.av)])=M.pure (.bool (oK l v)):=by
   unfold S46;rw[h1];simp[h4]
  rw[h5];exact lS _
 rw[C22];simp at h2;simp[S22,h2]
def t142(a b:Int):ai pg 142 [.int .i64 a,.int .i64 b]=M.pure (.int .i64 (qe a b)):=by
 rw[C142];simp[S142,qe]
def t107(v w:Ver):ai pg 107 [v.av,w.av]=M.pure (.int .i64 (uE v w)):=by
 rw[C107];unfold uE;by_cases h1:v.a=w.a<;>by_cases h2:v.b=w.b<;>simp[S107,t142,h1,h2]
theorem J3(v:Ver)(l:List Rng)(hb:l.length<=1099511627776):∀(n:Nat)(i:Int),l.length-i.toNat=n->0<=i->i<=l.length->
  aj (L76_0 (ai pg) aj) [kF l,.ip (aa v.av),.int .i64 i]=M.pure (.bool (oK (l.drop i.toNat) v)):=by
 intro n
 induction n with
 |zero=>
  intro i hn hi hl;rw[FL76_0];simp only[L76_0];have h1:¬(i<(l.length:Int)):=by omega
  have h2:l.drop i.toNat=[]:=NN (by omega);simp[h1,h2,oK]
 |succ n ih=>
  intro i hn hi hl;have h1:i<(l.length:Int):=by omega
  have hlt:i.toNat<l.length:=by omega
  have h4:=ih (i+1) (by omega) (by omega) (by omega);rw[show (i+1).toNat=i.toNat+1 by omega]at h4;rw[FL76_0,NI hlt];simp only[L76_0];have h5:oK (l[i.toNat]:: l.drop (i.toNat+1)) v=(GM l[i.toNat] v||oK (l.drop (i.toNat+1)) v):=rfl;rw[h5];simp at h4;simp (disch:=omega) [h1,aF,KT,ND l i.toNat hlt,h4,t107];unfold GM;by_cases c1:uE l[i.toNat].lo v<=0<;>by_cases c2:uE v l[i.toNat].hi<0<;>simp[c1,c2]
def t76(l:List Rng)(v:Ver)(hb:l.length<=1099511627776):ai pg 76 [kF l,v.av]=M.pure (.bool (oK l v)):=by
 have:=J3 v l hb l.length 0 rfl (by omega) (by omega)
 rw[C76];simp at this;simp[S76,this]
def DZ(l:List bk)(i k:Nat)(hk:k=i+1)(h:k<l.length):sG (l.drop i)=(bQ (l[i]'(by omega)) l[k]&&sG (l.drop k)):=by
 subst hk;have e1:l.drop i=l[i]:: l.drop (i+1):=NI (by omega);have e2:l.drop (i+1)=l[i+1]:: l.drop (i+2):=NI h;rw[e1,e2];rfl
def AS(call)(l:List bk)(hb:l.length<=4611686018427387904):∀(n:Nat)(i:Int),l.length-i.toNat=n->1<=i->aj (L165_0 call aj) [strs l,.int .i64 i]=M.pure (.bool (sG (l.drop (i.toNat-1)))):=by
 intro n
 induction n with
 | zero=>
  intro i hn hi;rw[FL165_0];simp only[L165_0];have h1:¬(i<(l.length:Int)):=by omega
  have h2:sG (l.drop (i.toNat-1))=true:=by
   have:(l.drop (i.toNat-1)).length<=1:=by simp;omega
   match hq:l.drop (i.toNat-1),this with
   |[],_=>rfl
   |[x],_=>rfl
   |x:: y:: r,h=>simp at h
  simp[h1,h2]
 |succ n ih=>
  intro i hn hi;have h1:i<(l.length:Int):=by omega
  rw[FL165_0];simp only[L165_0];simp (disch:=omega) [h1,aF,yE];rw[ih (i+1) (by omega) (by omega),DZ l (i.toNat-1) i.toNat (by omega) (by omega),show (i+1).toNat-1=i.toNat by omega];cases bQ l[i.toNat-1] l[i.toNat]<;>simp
def t165(l:List bk)(hb:l.length<=4611686018427387904):ai pg 165 [strs l]=M.pure (.bool (sG l)):=by
 rw[C165];simp[S165,AS (ai pg) l hb (l.length-1) 1 rfl (by omega)]
def GT(f:AV)(F:Val->Bool)(l:List Val)(hb:l.length<=4611686018427387904)(hf:∀x∈l,cO (ai pg) f [Val.av x]=M.pure (.bool (F x))):∀(n:Nat)(i:Int),l.length-i.toNat=n->0<=i->i<=l.length->
  aj (L115_0 (ai pg) aj) [vals l,f,.int .i64 l.length,.int .i64 i]=M.pure (.int .i64 (bj F (l.drop i.toNat) i)):=by
 intro n
 induction n with
 |zero=>
  intro i hn hi hl;rw[FL115_0];simp only[L115_0];have h1:¬(i<(l.length:Int)):=by omega
  have h2:l.drop i.toNat=[]:=NN (by omega);simp[h1,h2,bj]
 |succ n ih=>
  intro i hn hi hl;have h1:i<(l.length:Int):=by omega
  have hlt:i.toNat<l.length:=by omega
  have h2:bj F (l.drop i.toNat) i=if F l[i.toNat]=true then i else bj F (l.drop (i.toNat+1)) (i+1):=by rw[NI hlt];rfl
  have h3:=hf l[i.toNat] (NW hlt);have h4:=ih (i+1) (by omega) (by omega) (by omega);rw[show (i+1).toNat=i.toNat+1 by omega]at h4;rw[FL115_0];simp only[L115_0];simp (disch:=omega) [h1,aF,ou,h3,h2];cases F l[i.toNat]
  ·simpa using h4
  ·simp
def t115(f:AV)(F:Val->Bool)(l:List Val)(hb:l.length<=4611686018427387904)(hc:∀g,cl g f=f)(hf:∀x∈l,cO (ai pg) f [Val.av x]=M.pure (.bool (F x))):ai pg 115 [vals l,f]=M.pure (.int .i64 (bj F l 0)):=by
 rw[C115];simp[S115,hc,GT f F l hb hf l.length 0 rfl (by omega) (by omega)]
def t85(f:AV)(F:Val->Bool)(l:List Val)(hb:l.length<=4611686018427387904)(hc:∀g,cl g f=f)(hf:∀x∈l,cO (ai pg) f [Val.av x]=M.pure (.bool (F x))):ai pg 85 [vals l,f]=M.pure (.bool (l.any F)):=by
 rw[C85];simp[S85,hc,t115 f F l hb hc hf,BW]
theorem t116:∀(d:Nat),d<=4->∀(v:Val),v.sz<=4611686018427387904->ai pg 116 [v.av,.int .i64 d]=M.pure (.bool (bU d v))
 |0,_,v,_=>by
  rw[C116];simp[S116,bU]
 | d+1,hd,v,hv=>by
  have ih:=t116 d (by omega);have h1:=t165 v.names (O0 v.sz_names hv);have hf:∀x∈v.values,cO (ai pg) (.fn (.func 166) [] [.ip [.int .i64 ((d:Int)+1)]]) [x.av]=M.pure (.bool !(bU d x)):=by
   intro x hx;have hsz:=Ns hx
   have:=ih x (by omega)
   show ai pg 166 [x.av,.ip [.int .i64 ((d:Int)+1)]]=_;rw[C166];simp (disch:=omega) [S166,cl,eV,aF,this,show (d:Int)+1-1=d by omega]
  have h2:=t85 (.fn (.func 166) [] [.ip [.int .i64 ((d:Int)+1)]]) (fun x=>!(bU d x)) v.values (by have:=v.sz_len;omega) (fun g=>rfl) hf;have h0:¬((d:Int)+1=0):=by omega
  rw[C116];simp[S116,bU,h0,h1,h2];have hall:(!v.values.any fun x=>!bU d x)=v.values.all (bU d):=by simp[List.not_any_eq_all_not]
  rw[hall];split
  ·rfl
  ·congr 2;rw[show (v.kind== 2)=decide (v.kind=2)from rfl,show (v.n== 0)=decide (v.n=0)from rfl,show (v.names.length== v.values.length)=decide (v.names.length=v.values.length) by rw[Pa];simp,
    show (!decide ((8:Int)<(v.names.length:Int)))=decide (v.names.length<=8) by rw[Pa];simp;omega]
mutual
def LS:Val->Val->Bool
 |.mk k n ns vs,.mk k' n' ns' vs'=>k== k'&&n== n'&&ns== ns'&&FB vs vs'
def FB:List Val->List Val->Bool
 |[],[]=>true
 |v:: vs,w:: ws=>LS v w&&FB vs ws
 |_,_=>false
end
def t87(v:Val)(hv:v.sz<=4611686018427387904):ai pg 87 [v.av]=M.pure (.bool (bU 4 v)):=by
 rw[C87]
 have:=t116 4 (by omega) v hv
 simp at this;simp[S87,this]
theorem t180(l:List bk)(hb:l.length<=4611686018427387904):ai pg 180 [strs l]=M.pure (.bool (sG l)):=by
 have h:aj (L180_0 (ai pg) aj)=aj (L165_0 (ai pg) aj):=rfl;rw[C180];simp[S180,h,AS (ai pg) l hb (l.length-1) 1 rfl (by omega)]
def iS:Nat->Val->Bool
 |0,_=>false
 |d+1,v=>if(v.kind<0\/3<=v.kind)\/¬v.names.length=v.values.length then false
  else if v.kind=0 then v.names.length== 0
  else if v.kind=1 then v.names.length== 0&&decide (0<=v.n)&&decide (v.n<=1)
  else if(¬v.n=0\/8<v.names.length)\/sG v.names=false then false
  else v.values.all (iS d)
theorem t179:∀(d:Nat),d<=4->∀(v:Val),v.sz<=4611686018427387904->ai pg 179 [v.av,.int .i64 d]=M.pure (.bool (iS d v))
 |0,_,v,_=>by
  rw[C179];simp[S179,iS]
 | d+1,hd,v,hv=>by
  have ih:=t179 d (by omega);have h1:=t180 v.names (O0 v.sz_names hv);have hlen:=v.sz_len;have hloop:=AG (FL179_0 (ai pg)) (fun k=>[.int .i64 ((d:Int)+1),.ip (aa v.av),.int .i64 (k:Int)]) v.values.length (fun k=>iS d v.values[k]!)
   (by simp[L179_0]) (fun k hk=>by
    have hx:=ih v.values[k] (by have:=Ns (NW hk);omega);have hk':(k:Int)<(v.values.length:Int):=by omega
    simp only[L179_0];simp (disch:=omega) [hk,hk',aF,ou,hx,show (d:Int)+1-1=d by omega];cases iS d v.values[k]<;>simp) 0 (OX _)
  simp only[QM,qH]at hloop;have h0:¬((d:Int)+1<1):=by omega
  have h8:((8:Int)<(v.names.length:Int))=(8<v.names.length):=by rw[eq_iff_iff];omega
  simp at hloop;rw[C179];simp[S179,iS,h0,h1,hloop,h8]
def t154(v:Val)(hv:v.sz<=4611686018427387904):ai pg 154 [v.av]=M.pure (.bool (iS 4 v)):=by
 rw[C154]
 have:=t179 4 (by omega) v hv
 simp at this;simp[S154,this]
def t112(l:List Val)(hl:bJ l<=4611686018427387904):ai pg 112 [vals l]=M.pure (.bool (l.all (iS 4))):=by
 have hlen:=kJ l;have hloop:=AG (FL112_0 (ai pg)) (fun k=>[vals l,.int .i64 (k:Int)]) l.length (fun k=>iS 4 l[k]!)
  (by simp[L112_0]) (fun k hk=>by
   have hx:=t154 l[k] (by have:=i9 (NW hk);omega);have hk':(k:Int)<(l.length:Int):=by omega
   simp only[L112_0];simp (disch:=omega) [hk,hk',aF,ou,hx];cases iS 4 l[k]<;>simp) 0 (OX _)
 simp only[QM,qH]at hloop;simp at hloop;rw[C112];simp[S112,hloop]
def J1(f:AV)(F:Mod->Bool)(l:List Mod)(hb:l.length<=4611686018427387904)(hf:∀x∈l,cO (ai pg) f [Mod.av x]=M.pure (.bool (F x))):∀(n:Nat)(i:Int),l.length-i.toNat=n->0<=i->i<=l.length->
  aj (L72_0 (ai pg) aj) [mods l,f,.int .i64 l.length,.int .i64 i]=M.pure (.int .i64 (bj F (l.drop i.toNat) i)):=by
 intro n
 induction n with
 |zero=>
  intro i hn hi hl;rw[FL72_0];simp only[L72_0];have h1:¬(i<(l.length:Int)):=by omega
  have h2:l.drop i.toNat=[]:=NN (by omega);simp[h1,h2,bj]
 |succ n ih=>
  intro i hn hi hl;have h1:i<(l.length:Int):=by omega
  have hlt:i.toNat<l.length:=by omega
  have h2:bj F (l.drop i.toNat) i=if F l[i.toNat]=true then i else bj F (l.drop (i.toNat+1)) (i+1):=by rw[NI hlt];rfl
  have h3:=hf l[i.toNat] (NW hlt);have h4:=ih (i+1) (by omega) (by omega) (by omega);rw[show (i+1).toNat=i.toNat+1 by omega]at h4;rw[FL72_0];simp only[L72_0];simp (disch:=omega) [h1,aF,fJ,h3,h2];cases F l[i.toNat]
  ·simpa using h4
  ·simp
def t72(f:AV)(F:Mod->Bool)(l:List Mod)(hb:l.length<=4611686018427387904)(hc:∀g,cl g f=f)(hf:∀x∈l,cO (ai pg) f [Mod.av x]=M.pure (.bool (F x))):ai pg 72 [mods l,f]=M.pure (.int .i64 (bj F l 0)):=by
 rw[C72];simp[S72,hc,J1 f F l hb hf l.length 0 rfl (by omega) (by omega)]
def J2(f:AV)(F:Fun->Bool)(l:List Fun)(hb:l.length<=4611686018427387904)(hf:∀x∈l,cO (ai pg) f [Fun.av x]=M.pure (.bool (F x))):∀(n:Nat)(i:Int),l.length-i.toNat=n->0<=i->i<=l.length->
  aj (L74_0 (ai pg) aj) [kp l,f,.int .i64 l.length,.int .i64 i]=M.pure (.int .i64 (bj F (l.drop i.toNat) i)):=by
 intro n
 induction n with
 |zero=>
  intro i hn hi hl;rw[FL74_0];simp only[L74_0];have h1:¬(i<(l.length:Int)):=by omega
  have h2:l.drop i.toNat=[]:=NN (by omega);simp[h1,h2,bj]
 |succ n ih=>
  intro i hn hi hl;have h1:i<(l.length:Int):=by omega
  have hlt:i.toNat<l.length:=by omega
  have h2:bj F (l.drop i.toNat) i=if F l[i.toNat]=true then i else bj F (l.drop (i.toNat+1)) (i+1):=by rw[NI hlt];rfl
  have h3:=hf l[i.toNat] (NW hlt);have h4:=ih (i+1) (by omega) (by omega) (by omega);rw[show (i+1).toNat=i.toNat+1 by omega]at h4;rw[FL74_0];simp only[L74_0];simp (disch:=omega) [h1,aF,mr,h3,h2];cases F l[i.toNat]
  ·simpa using h4
  ·simp
def t74(f:AV)(F:Fun->Bool)(l:List Fun)(hb:l.length<=4611686018427387904)(hc:∀g,cl g f=f)(hf:∀x∈l,cO (ai pg) f [Fun.av x]=M.pure (.bool (F x))):ai pg 74 [kp l,f]=M.pure (.int .i64 (bj F l 0)):=by
 rw[C74];simp[S74,hc,J2 f F l hb hf l.length 0 rfl (by omega) (by omega)]
def GV(f:AV)(F:ie->Bool)(l:List ie)(hb:l.length<=4611686018427387904)(hf:∀x∈l,cO (ai pg) f [dW x]=M.pure (.bool (F x))):∀(n:Nat)(i:Int),l.length-i.toNat=n->0<=i->i<=l.length->
  aj (L171_0 (ai pg) aj) [di l,f,.int .i64 l.length,.int .i64 i]=M.pure (.int .i64 (bj F (l.drop i.toNat) i)):=by
 intro n
 induction n with
 |zero=>
  intro i hn hi hl;rw[FL171_0];simp only[L171_0];have h1:¬(i<(l.length:Int)):=by omega
  have h2:l.drop i.toNat=[]:=NN (by omega);simp[h1,h2,bj]
 |succ n ih=>
  intro i hn hi hl;have h1:i<(l.length:Int):=by omega
  have hlt:i.toNat<l.length:=by omega
  have h2:bj F (l.drop i.toNat) i=if F l[i.toNat]=true then i else bj F (l.drop (i.toNat+1)) (i+1):=by rw[NI hlt];rfl
  have h3:=hf l[i.toNat] (NW hlt);have h4:=ih (i+1) (by omega) (by omega) (by omega);rw[show (i+1).toNat=i.toNat+1 by omega]at h4;rw[FL171_0];simp only[L171_0];simp (disch:=omega) [h1,aF,un,h3,h2];cases F l[i.toNat]
  ·simpa using h4
  ·simp
def t171(f:AV)(F:ie->Bool)(l:List ie)(hb:l.length<=4611686018427387904)(hc:∀g,cl g f=f)(hf:∀x∈l,cO (ai pg) f [dW x]=M.pure (.bool (F x))):ai pg 171 [di l,f]=M.pure (.int .i64 (bj F l 0)):=by
 rw[C171];simp[S171,hc,GV f F l hb hf l.length 0 rfl (by omega) (by omega)]
def t138(m:Mod)(s:bk):ai pg 138 [m.av,.ip [.str s]]=M.pure (.bool (m.name== s)):=by
 rw[C138];simp[S138,cl,eV]
def t139(f:Fun)(s:bk):ai pg 139 [f.av,.ip [.str s]]=M.pure (.bool (f.name== s)):=by
 rw[C139];simp[S139,cl,eV]
def M4(p:List Mod)(hp:p.length<=4611686018427387904)(s:bk):ai pg 72 [mods p,.fn (.func 138) [] [.ip [.str s]]]=M.pure (.int .i64 (fG p s)):=
 t72 _ _ p hp (fun g=>rfl) (fun m _=>t138 m s)
def M5(p:List Fun)(hp:p.length<=4611686018427387904)(s:bk):ai pg 74 [kp p,.fn (.func 139) [] [.ip [.str s]]]=M.pure (.int .i64 (dX p s)):=
 t74 _ _ p hp (fun g=>rfl) (fun m _=>t139 m s)
def t120(n:Int):ai pg 120 [.int .i64 n]=M.pure (Val.mk 0 n [] []).av:=by
 rw[C120];rfl
def t121(b:Bool):ai pg 121 [.bool b]=M.pure (cC b).av:=by
 rw[C121];cases b<;>rfl
def t118(b:Bool)(n:Int):ai pg 118 [.bool b,.int .i64 n]=if b=true then M.pure (.tup [])else ic (.iface 69 (.int .i64 n)):=by
 rw[C118];cases b<;>rfl
def Jl(l:List bk):dh T 28 (strs l) none (some (.int .i64 l.length)) (some (.int .i64 l.length))=some (strs l):=by
 have:=pT (T:=T) (t:=28) (e:=9) rfl rfl rfl (l.map AV.str)
 simpa [strs]using this
def Jk(l:List Val):dh T 61 (vals l) none (some (.int .i64 l.length)) (some (.int .i64 l.length))=some (vals l):=by
 have:=pT (T:=T) (t:=61) (e:=71) rfl rfl rfl (dP l)
 simpa [vals,eu]using this
def t167(l:List bk):ai pg 167 [strs l]=M.pure (strs l):=by
 rw[C167];simp[S167,Jl,bb (a:=strs l) fun g=>nc g l]
def t168(l:List Val):ai pg 168 [vals l]=M.pure (vals l):=by
 rw[C168];simp[S168,Jk]
def aD(o:Int)(ns:List bk)(vs:List Val):AV:=.agg [.int .i64 o,strs ns,vals vs]
@[simp] theorem bu(o:Int)(ns:List bk)(vs:List Val):aa (aD o ns vs)=[.int .i64 o,strs ns,vals vs]:=rfl
theorem bS(o:Int)(ns:List bk)(vs:List Val):AV.agg [.int .i64 o,strs ns,vals vs]=aD o ns vs:=rfl
def wk(g)(o:Int)(ns:List bk)(vs:List Val):cl g (aD o ns vs)=aD o ns vs:=by
 simp[aD,cl,eV,nc,qj]
def mX(o:Int)(ns:List bk)(vs:List Val):cE 3 (aD o ns vs)=true:=by simp[cE,bh,strs,vals,aD,cM,aa]
def zt(o:Int)(ns:List bk)(vs:List Val):aH (M.pure (aD o ns vs))=M.pure (aD o ns vs):=bb fun g=>wk g o ns vs
set_option maxHeartbeats 1000000 in
def t119(n:Int):ai pg 119 [.int .i64 n]=M.pure (.int .i64 (aW n)):=by
 rw[C119];unfold aW;simp only[S119,K119_0,K119_1,K119_2,K119_3,cl,eQ,dj,am,az,aL,aY,Ol];by_cases h0:n=0
 ·simp[h0]
 by_cases h1:n=1
 ·simp[h1]
 by_cases h2:n=2
 ·simp[h2]
 by_cases h17:n=17
 ·simp[h17]
 by_cases h10:n=10
 ·simp[h10]
 by_cases h14:n=14
 ·simp[h14]
 by_cases h16:n=16
 ·simp[h16]
 by_cases h18:n=18
 ·simp[h18]
 by_cases h3:n=3
 ·simp[h3]
 by_cases h4:n=4
 ·simp[h4]
 by_cases h5:n=5
 ·simp[h5]
 by_cases h6:n=6
 ·simp[h6]
 by_cases h7:n=7
 ·simp[h7]
 by_cases h8:n=8
 ·simp[h8]
 by_cases h9:n=9
 ·simp[h9]
 by_cases h12:n=12
 ·simp[h12]
 by_cases h11:n=11
 ·simp[h11]
 by_cases h13:n=13
 ·simp[h13]
 by_cases h15:n=15
 ·simp[h15]
 simp[h0,h1,h2,h17,h10,h14,h16,h18,h3,h4,h5,h6,h7,h8,h9,h12,h11,h13,h15]
theorem t124(o:Int)(ns:List bk)(vs:List Val)(s:bk)(v:Val)(h1:ns.length<=1099511627776)(h2:vs.length<=1099511627776):
  ai pg 124 [aD o ns vs,.str s,v.av]=M.pure (aD o (ns++[s]) (vs++[v])):=by
 have hb1:au T 28 1 [(0,.str s)]=some (strs [s]):=rfl;have hb2:au T 61 1 [(0,v.av)]=some (vals [v]):=by rw[v.av_eq];simp[vals,dP,v.av_eq];rfl
 have ha1:ck T 28 (strs ns) (strs [s])=some (strs (ns++[s])):=yC (by simp;omega);have ha2:ck T 61 (vals vs) (vals [v])=some (vals (vs++[v])):=sI (by simp;omega);have hb3:aN T false 145 [(0,.int .i64 o),(1,strs (ns++[s])),(2,vals (vs++[v]))]=some (aD o (ns++[s]) (vs++[v])):=rfl;rw[C124,wk];simp[S124,cl,t167,t168,hb1,hb2,ha1,ha2,hb3,bS,mX,zt]
def ni(e:Int):AV:=.iface 69 (.int .i64 e)
def cw(b:Bool)(e:Int)(x:M AV):M AV:=if b=true then x else ic (ni e)
def bv(b:Bool)(e:Int)(f:AV->M AV):ae (ai pg 118 [.bool b,.int .i64 e]) f=cw b e (f (.tup [])):=by
 rw[t118];unfold cw;cases b<;>rfl
def il:X Val->M AV:=fun x=>match x ⟨0,0,[],[],[],[]⟩with
 |.ok v _=>M.pure v.av
 |.er e _=>ic (ni e)
def t122(op:Int)(a b:Val)(h:op=3\/op=4\/op=5\/op=6\/op=7):ai pg 122 [.int .i64 op,a.av,b.av]=il (jK op a b):=by
 rw[C122];unfold jK;have hn:=t120;have ht:=t121;simp only[S122,dj,am,az,bW];by_cases h7:op=7
 ·by_cases hk:a.kind=b.kind
  ·by_cases h2:a.kind=2
   ·have h2':b.kind=2:=by omega
    simp[h7,hk,h2',bv,cw,il,X.er]
   ·have h2':¬b.kind=2:=by omega
    simp[h7,hk,h2',bv,cw,il,X.ok,ht]
  ·simp[h7,hk,bv,cw,il,X.er]
 ·by_cases ha:a.kind=0
  ·by_cases hb:b.kind=0
   ·simp only[h7,ha,hb,OB,Qn,NS,NK,Ol,FA71_0,FA71_1,NZ,LD3,am,dj,bP,aA,ec,aL,bv,cw,P7,N5,az,dD,gD,Ar,bV,hn,ht];by_cases h3:op=3
    ·simp[h3,il,X.ok,jW,wr];rfl
    by_cases h4:op=4
    ·simp[h4,il,X.ok,jW,wr];rfl
    by_cases h5:op=5
    ·simp[h5,il,X.ok,jW,wr];rfl
    simp[h3,h4,h5,il,X.ok]
   ·simp[h7,ha,hb,bv,cw,il,X.er]
  ·simp[h7,ha,bv,cw,il,X.er]
def t126(l:List bk)(s:bk)(hb:l.length<=1099511627776):ai pg 126 [strs l,.str s]=M.pure (.int .i64 (bj (fun x=>s== x) l 0)):=by
 have hl:∀(n:Nat)(i:Int),l.length-i.toNat=n->0<=i->i<=l.length->aj (L126_0 (ai pg) aj) [strs l,.str s,.int .i64 l.length,.int .i64 i]=M.pure (.int .i64 (bj (fun x=>s== x) (l.drop i.toNat) i)):=by
  intro n
  induction n with
  |zero=>
   intro i hn hi hl;rw[FL126_0];simp only[L126_0];have h1:¬(i<(l.length:Int)):=by omega
   have h2:l.drop i.toNat=[]:=NN (by omega);simp[h1,h2,bj]
  | succ n ih=>
   intro i hn hi hl;have h1:i<(l.length:Int):=by omega
   have hlt:i.toNat<l.length:=by omega
   have h2:bj (fun x=>s== x) (l.drop i.toNat) i=if(s== l[i.toNat])=true then i else bj (fun x=>s== x) (l.drop (i.toNat+1)) (i+1):=by rw[NI hlt];rfl
   have h4:=ih (i+1) (by omega) (by omega) (by omega);rw[show (i+1).toNat=i.toNat+1 by omega]at h4;rw[FL126_0];simp only[L126_0];simp (disch:=omega) [h1,aF,yE,h2];by_cases h:s=l[i.toNat]
   ·simp[h]
   ·simp[h];simpa using h4
 rw[C126];simp[S126,cl,hl l.length 0 rfl (by omega) (by omega)]
def t170:∀(n:Nat)(v:Val),v.sz<=n->v.sz<=1099511627776->ai pg 170 [v.av]=M.pure (.int .i64 (cK v:Nat)):=by
 intro n
 induction n with
 |zero=>intro v h;have:=v.sz_pos;omega
 | succ n ih=>
  intro v hn hv;have hlen:=v.sz_len;have hlv:∀(l:List Val),bJ l<=1099511627776->cV l<=1099511627776:=by
   intro l
   induction l with
   |nil=>intro _;simp[cV]
   | cons x l ih2=>
    intro h;simp only[bJ]at h
    have:=ih2 (by omega)
    have hx:∀(k:Nat)(y:Val),y.sz<=k->cK y<=y.sz:=by
     intro k
     induction k with
     |zero=>intro y hy;have:=y.sz_pos;omega
     |succ k ihk=>
      intro y hy;rw[fF];have h1:=y.sz_values;have h2:cV y.values<=bJ y.values:=(iV _ _).2 fun z hz=>O0 (ihk z (by have:=Ns hz;omega)) (i9 hz);omega
    simp only[cV]
    have:=hx _ x (NL _)
    omega
  have hl:∀(B A:List Val)(c:Nat),A++B=v.values->c<=1099511627776->aj (L170_0 (ai pg) aj) [.int .i64 (c:Nat),vals v.values,.int .i64 v.values.length,.int .i64 A.length]=M.pure (.int .i64 ((max c (cV B)+1:Nat))):=by
   intro B
   induction B with
   |nil=>
    intro A c e hc;simp only[OE]at e;subst e;rw[FL170_0];simp (disch:=omega) [L170_0,cV,aF]
   | cons x B ih2=>
    intro A c e hc;have hll:A.length+(B.length+1)=v.values.length:=by rw[<- e];simp
    have h1:(A.length:Int)<(v.values.length:Int):=by omega
    have hx:v.values[A.length]! = x:=by
     rw[<- e,ND _ _ (by simp)];simp
    have hm:x∈v.values:=by rw[<- e];simp
    have hx':v.values[A.length]'(by omega)=x:=by rw[<- hx,ND]
    have h3:=ih x (by have:=Ns hm;omega) (by have:=Ns hm;omega);have hxb:cK x<=1099511627776:=O0 ((iV v.values _).1 (hlv v.values (by have:=v.sz_values;omega)) x hm) (NL _);have h4:=ih2 (A++[x]) (max c (cK x)) (by rw[<- e];simp) (by omega);rw[FL170_0];have hmx:(max (c:Int) (cK x:Int))=((max c (cK x):Nat):Int):=by omega
    simp (disch:=omega) [L170_0,h1,aF,ou,hx',h3,hmx]at h4 |-;rw[h4];simp only[cV]
  rw[C170]
  have:=hl v.values [] 0 rfl (by omega)
  simp at this;simp[S170,this,fF]
def t172(f:ie)(e:Exp):ai pg 172 [dW f,.ip (aa e.av)]=M.pure (.bool (f.1== e.s)):=by
 rw[C172];simp[S172,cl,eV]
def L5(l:List ie)(hl:l.length<=1099511627776)(e:Exp):ai pg 171 [di l,.fn (.func 172) [] [.ip (aa e.av)]]=M.pure (.int .i64 (f4 l e.s)):=
 t171 _ _ l (by omega) (fun g=>by simp[cl,eV]) (fun f _=>t172 f e)
end Go.Proofs.YtnipfhmghjdnmaaGreat
