/- What the functions compute, part 10. Conditions: bounds. -/
import Derived.Test.YtbndmpiddinalabGreatDoorTi
import Derived.Lib.SmallJoins
set_option linter.defProp false
set_option linter.unusedSimpArgs false
set_option linter.unusedVariables false
namespace Go.Proofs.YtbndmpiddinalabGreatDoor
open Go Go.Av Go.Av.Ap
set_option maxRecDepth 100000
structure Goes (k:Nat) (p:Proc):Prop where
 right:RightP p
 lim:∀m∈p.mods,m.Lim
 few:∀m∈p.mods,∀f∈m.funcs,dR 12 f.body<=1000
 sz:SzP k p
def Goes.pbd{k:Nat}{p:Proc}(G:Goes k p):PBd p.mods:=(qb G.right.load G.few).1
def Goes.ostate{k:Nat}{p:Proc}(G:Goes k p):p.out.state.length<=1000000/\∀w∈p.out.state,w.values.length<=1000000/\∀v∈w.values,Rv v:=by
 rcases G.sz.ostate with h|h
 ·grind
 ·exact iv G.pbd h
def m6{v:Val}(h:Rv v):v.sz<=4611686018427387904:=XM (nS h) ZT
def Goes.opB{k:Nat}{p:Proc}(G:Goes k p)(hk:k<=1000000):OpB p:=by
 have P:=G.pbd;have hst:=iv P G.right.st;have hfr:=kz G.right P;have hlen:=G.right.len;have hval:=sD G.sz.value;have h8:=pB G.sz.value;have hos:=G.ostate;exact⟨⟨P.len,⟨hst.1,fun w hw=>(hst.2 w hw).1⟩,⟨ZS,fun f hf=>⟨(hfr f hf).1.2,(hfr f hf).1.1⟩⟩,G.sz.world,by have:=G.sz.deeds;omega,by have:=G.sz.calls;omega,hos.1,fun w hw=>(hos.2 w hw).1⟩,G.lim,G.few,
  fun m hm=>by have:=P.vars m hm;omega,fun w hw v hv=>m6 ((hst.2 w hw).2 v hv),fun f hf=>⟨fun v hv=>m6 ((hfr f hf).2.2 v hv),fun v hv=>m6 ((hfr f hf).2.1 v hv)⟩,ZS,ZS⟩
def Goes.cmp{k:Nat}{p:Proc}(G:Goes k p)(hk:k<=1000000):CmpP p:=by
 have P:=G.pbd;have hst:=iv P G.right.st;have hfr:=kz G.right P;have hlen:=G.right.len;have hos:=G.ostate;have hp:=P.len;exact⟨⟨ZS,G.lim⟩,⟨ZS,fun w hw=>⟨ZU,fun v hv=>m6 ((hst.2 w hw).2 v hv)⟩⟩,⟨ZS,fun f hf=>⟨⟨ZU,fun v hv=>m6 ((hfr f hf).2.2 v hv)⟩,⟨ZU,fun v hv=>m6 ((hfr f hf).2.1 v hv)⟩⟩⟩,by have:=G.sz.world;omega,
  ⟨m6 G.sz.value,by have:=G.sz.deeds;omega,⟨by have:=G.sz.calls;omega,fun c hc=>⟨by have:=(G.sz.args c hc).1;omega,fun v hv=>(G.sz.args c hc).2 v hv⟩⟩,ZS,fun w hw=>⟨ZU,fun v hv=>m6 ((hos.2 w hw).2 v hv)⟩⟩⟩
def Goes.run{k:Nat}{p:Proc}(G:Goes k p)(n:Nat):Goes (k+n) (jI n p):=by
 obtain⟨a,b⟩:=Im n G.right G.pbd G.sz;exact⟨vH n G.right,by rw[b];exact G.lim,by rw[b];exact G.few,a⟩
def Goes.step{k:Nat}{p:Proc}(G:Goes k p)(he:p.ended=false):Goes (k+1) (bZ p):=by
 have:=G.run 1
 rw[show jI 1 p=bZ p by rw[xL (by rw[he];decide)];rfl]at this;exact this
def Goes.rightB{k:Nat}{p:Proc}(G:Goes k p):gR p=true:=xx.2 G.right
def Goes.tRun{k:Nat}{p:Proc}(G:Goes k p)(hk:k<=400000){n:Nat}(hn:n<=100000):af pg 13 [p.av,.int .i64 n]=ao (.tup [(jI n p).av,.int .i64 (if(jI n p).ended=true then 0 else 16)]):=by
 rw[t13 p n (G.opB ZS) (fun _ _=>G.sz.mono ZS)];unfold sT;rw[Xv ⟨G.rightB,ZS,ZS⟩,XC]
def Goes.tStep{k:Nat}{p:Proc}(G:Goes k p)(hk:k<=400000):af pg 8 [p.av]=ao (.tup [(if p.ended=true then p else bZ p).av,.int .i64 (if p.ended=true then 7 else 0)]):=by
 rw[t8 p (G.opB ZS) (fun _ _=>G.sz.mono ZS)];unfold El;rw[Xv G.rightB]
 grind
def Goes.tRight{k:Nat}{p:Proc}(G:Goes k p)(hk:k<=400000):af pg 17 [p.av]=ao (.bool true):=by rw[t17 p (G.opB ZS),G.rightB]
def KM(p:Proc):cg 13 p.av=ao (.agg (aa p.av)):=bc rfl
theorem QZ(a b:Int):cF T .eql 30 (.int .i64 a) (.int .i64 b)=some (.bool (a== b)):=rfl
def vt{p:List Ap.Mod}{s t:aW}{args:List Val}{w:List Int}{q:Proc}(h:gB p s t args w= .ok q)(hL:∀m∈p,m.Lim)(hc:∀m∈p,∀f∈m.funcs,∀d,dR d f.body<=120)(ha:args.length<=1000000)(hw:w.length<=1000000):Goes 1 q/\q.ended=false:=by
 obtain⟨H,he⟩:=Bh h;obtain⟨S,hm⟩:=Iz h ha hw;exact⟨⟨H,ZU,ZU,S⟩,he⟩
end Go.Proofs.YtbndmpiddinalabGreatDoor
namespace Go.Proofs.YtbndmpiddinalabGreatDoor
open Go Go.Av Go.Av.Ap
set_option maxRecDepth 1000000
def Iv:List UInt8:=[109,111,100,117,108,101,32,109,32,59,32,118,97,114,32,110,32,105,110,116,32,61,32,53,32,59,32,112,117,98,32,102,110,32,102,32,40,32,107,32,105,110,116,32,41,32,105,110,116,32,33,32,110,101,116,32,61,32,115,101,116,32,110,32,103,101,116,32,110,32,43,32,110,101,116,32,40,32,107,32,41,32,59]
def I5:Ty:=.mk 0 []
def OM:Exp:=.mk 18 0 [110] [] [] [.mk 3 0 [] [] [] [.mk 17 0 [110] [] [] [],.mk 16 2 [] [] [] [.mk 2 0 [107] [] [] []]]]
def rG:Ap.Mod:=⟨[109],[],[([110],I5)],[.mk 0 5 [] [] [] []],[⟨[102],true,[([107],I5)],I5,2,OM⟩],false,[],[],[]⟩
noncomputable def WB:R AV:=eu pg 80 11 [.str Iv] []
noncomputable def Oa:AV:=match WB with
 |.ok (.tup [_,v,_]) _=>v
 |_=>.any
noncomputable def Tg:Hp:=match WB with
 |.ok _ h=>h
 |_=>[]
def oH:AV:=.agg [.str [109],.sl [],ck rG.vars,dF rG.init,iP rG.funcs,.bool false,.hn,.hn,.hn]
def HV:eu pg 80 11 [.str Iv] []= .ok (.tup [oH,Oa,.int .i64 0]) Tg:=ZY
def Kg:af pg 11 [.str Iv] []= .ok (.tup [oH,Oa,.int .i64 0]) Tg:=zF g8 HV ZV
def N9:Proc:=⟨[rG],[⟨[109],[cp 5]⟩],[⟨[109],[102],0,[cp 2],[]⟩],[7,8],⟨0,default,[],[⟨[109],[102],[cp 2]⟩],[]⟩,false⟩
def smA:Proc:=⟨[rG],[⟨[109],[cp 12]⟩],[],[8],⟨0,cp 12,[⟨2,2,7⟩],[⟨[109],[102],[cp 2]⟩],[⟨[109],[cp 12]⟩]⟩,true⟩
def N8:Proc:=⟨[rG],[⟨[109],[cp 5]⟩],[⟨[109],[102],3,[cp 2],[cp 5,cp 7]⟩],[8],⟨0,default,[⟨2,2,7⟩],[⟨[109],[102],[cp 2]⟩],[]⟩,false⟩
def Bg:gB [rG] [109] [102] [cp 2] [7,8]= .ok N9:=ZY
def FN:gB [rG] [109] [102] [] []= .error 13:=ZY
def FP:gB [rG] [109] [103] [] []= .error 4:=ZY
def Ek:jI 6 N9=smA:=ZY
def Ku:jI 3 N9=N8:=ZY
def FL:gR p0=false:=ZY
def FM:eu pg 80 15 [mods [rG],.str [109],.str [102],vals [cp 2],ints [7,8],.int .i64 100] []= .ok smA.out.av []:=ZY
theorem Ej:I5.Lim:=Ty.lim_mk ZT (fun v hv=>by cases hv)
def D8{x:fF}(h:x∈[(([110]:aW),I5)]\/x∈[(([107]:aW),I5)]):x.2.Lim:=by
 grind [Ej]
def Ks:OM.Lim:=by
 have e2:(Exp.mk 2 0 [107] [] [] []).Lim:=Exp.lim_mk ZT ZT (fun v hv=>by cases hv);have e17:(Exp.mk 17 0 [110] [] [] []).Lim:=Exp.lim_mk ZT ZT (fun v hv=>by cases hv);have e16:(Exp.mk 16 2 [] [] [] [.mk 2 0 [107] [] [] []]).Lim:=Exp.lim_mk ZT ZT (fun v hv=>ZU);have e3:(Exp.mk 3 0 [] [] [] [.mk 17 0 [110] [] [] [],.mk 16 2 [] [] [] [.mk 2 0 [107] [] [] []]]).Lim:=Exp.lim_mk ZT ZT (fun v hv=>by
  grind)
 exact Exp.lim_mk ZT ZT (fun v hv=>ZU)
def yY:∀m∈[rG],m.Lim:=by
 intro m hm;rw[Yo]at hm;subst hm;refine⟨ZT,ZT,fun x hx=>D8 (.inl hx),ZT,fun e he=>?_,ZT,fun f hf=>?_,ZT,fun x hx=>(by cases hx),ZT,fun x hx=>(by cases hx),ZT,fun x hx=>(by cases hx)⟩
 ·rw[show rG.init=[Exp.mk 0 5 [] [] [] []]from rfl,Yo]at he
  grind [Exp.lim_mk]
 ·rw[show rG.funcs=[⟨[102],true,[([107],I5)],I5,2,OM⟩]from rfl,Yo]at hf;subst hf;exact⟨ZT,fun x hx=>D8 (.inr hx),Ej,Ks⟩
def Iw:∀m∈[rG],∀f∈m.funcs,∀d,dR d f.body<=120:=by
 intro m hm f hf d;rw[Yo]at hm;subst hm;rw[show rG.funcs=[⟨[102],true,[([107],I5)],I5,2,OM⟩]from rfl,Yo]at hf;subst hf;show dR d OM<=120
 have h:∀d (e:Exp) (n:Nat),(∀x∈e.args,∀k,dR k x<=n)->e.args.length<=2->dR d e<=1+2*n:=by
  intro d e n hx hl;cases d with
  |zero=>simp[dR]
  | succ d=>
   have:(e.args.map (dR d)).sum<=e.args.length*n:=by
    have key:∀l:List Exp,(∀x∈l,∀k,dR k x<=n)->(l.map (dR d)).sum<=l.length*n:=by
     intro l
     induction l with
     |nil=>intro _;simp
     |cons x l ih=>
      grind [Nat.add_mul]
    exact key e.args hx
   have h2:e.args.length*n<=2*n:=XB _ hl;simp only[dR];omega
 have l0:∀(a b:Int) (s:aW) k,dR k (.mk a b s [] [] [])<=1:=fun a b s k=>h k _ 0 (fun x hx=>by cases hx) ZW;have l1:∀k,dR k (.mk 16 2 [] [] [] [.mk 2 0 [107] [] [] []])<=3:=fun k=>h k _ 1 (fun x hx=>by
  simp_all) ZW
 have l2:∀k,dR k (.mk 3 0 [] [] [] [.mk 17 0 [110] [] [] [],.mk 16 2 [] [] [] [.mk 2 0 [107] [] [] []]])<=7:=fun k=>h k _ 3 (fun x hx j=>by
  have hx:x∈[Exp.mk 17 0 [110] [] [] [],.mk 16 2 [] [] [] [.mk 2 0 [107] [] [] []]]:=hx
  grind) ZW
 exact XM (h d OM 7 (fun x hx=>by
  have hx:x∈[Exp.mk 3 0 [] [] [] [.mk 17 0 [110] [] [] [],.mk 16 2 [] [] [] [.mk 2 0 [107] [] [] []]]]:=hx
  grind) (by show (1:Nat)<=2;decide)) ZT
def Kt:Goes 1 N9:=(vt Bg yY Iw ZT ZT).1
def Ix:af pg 15 [mods [rG],.str [109],.str [102],vals [cp 2],ints [7,8],.int .i64 100]=ao smA.out.av:=by
 have h1:=zF g8 FM ZV;have e:=C15 (mods [rG]) (.str [109]) (.str [102]) (vals [cp 2]) (ints [7,8]) (.int .i64 100);rw[e]at h1 |-;funext h;generalize S15 (af pg) ak (cl aF (mods [rG])) (cl aF (.str [109])) (cl aF (.str [102])) (cl aF (vals [cp 2])) (cl aF (ints [7,8])) (cl aF (.int .i64 100))=m at h1 |-;unfold bn at h1 |-;cases hm:m []with
 |ok v h'=>
  rw[hm]at h1;simp only[R.ok.injEq]at h1;show R.ok (frz 6 h' v) h=_;rw[h1.1];rfl
 |pan v h'=>grind
 |fail=>grind
def t12(n:Int):af pg 12 [.int .i64 n]=ao (cp n).av:=by
 rw[C12];exact gG (h':=[]) rfl rfl
theorem FQ:af pg 4 []=ao (.bool true):=by
 have hcl:cl aF (.sl [oH])=cl aF (mods [rG]):=by rfl
 have st1:∀a b c d,af pg 7 [.sl [oH],a,b,c,d]=af pg 7 [mods [rG],a,b,c,d]:=fun a b c d=>by rw[C7,C7,hcl]
 have rn1:∀a b c d e,af pg 15 [.sl [oH],a,b,c,d,e]=af pg 15 [mods [rG],a,b,c,d,e]:=fun a b c d e=>by rw[C15,C15,hcl]
 have hv2:∀v∈[cp 2],v.sz<=4611686018427387904:=fun v hv=>by rw[Yo]at hv;subst hv;decide
 have cn:=fun m hm f hf=>XM (Iw m hm f hf 12) (by decide:120<=1000);have e3:=t7 [rG] [109] [102] [cp 2] [7,8] yY cn ⟨ZT,hv2⟩ ZT;have e4:=t7 [rG] [109] [102] [] [] yY cn ⟨ZT,fun v hv=>(by cases hv)⟩ ZT;have e5:=t7 [rG] [109] [103] [] [] yY cn ⟨ZT,fun v hv=>(by cases hv)⟩ ZT;unfold iM at e3 e4 e5;rw[Bg]at e3;rw[FN]at e4;rw[FP]at e5;have e3:af pg 7 [mods [rG],.str [109],.str [102],vals [cp 2],ints [7,8]]=ao (.tup [N9.av,.int .i64 0]):=e3;have e4:af pg 7 [mods [rG],.str [109],.str [102],.sl [],.sl []]=ao (.tup [p0.av,.int .i64 13]):=e4;have e5:af pg 7 [mods [rG],.str [109],.str [103],.sl [],.sl []]=ao (.tup [p0.av,.int .i64 4]):=e5;have G:=Kt;have GA:Goes 7 smA:=by have:=G.run 6;rw[Ek]at this;exact this
 have r6:=G.tRun ZT (n:=6) ZT;have r3:=G.tRun ZT (n:=3) ZT;rw[Ek]at r6;rw[Ku]at r3;have r6:af pg 13 [N9.av,.int .i64 6]=ao (.tup [smA.av,.int .i64 0]):=r6;have r3:af pg 13 [N9.av,.int .i64 3]=ao (.tup [N8.av,.int .i64 16]):=r3;have sA:=GA.tStep ZT;have sA:af pg 8 [smA.av]=ao (.tup [smA.av,.int .i64 7]):=sA;have q1:=G.tRight ZT;have q2:=GA.tRight ZT;have q3:af pg 17 [p0.av]=ao (.bool false):=by
  rw[t17 p0 ⟨⟨ZT,⟨ZT,fun w hw=>(by cases hw)⟩,⟨ZT,fun w hw=>(by cases hw)⟩,ZT,ZT,ZT,⟨ZT,fun w hw=>(by cases hw)⟩⟩,fun m hm=>(by cases hm),fun m hm=>(by cases hm),fun m hm=>(by cases hm),fun m hm=>(by cases hm),fun m hm=>(by cases hm),⟨ZT,ZT⟩⟩,FL]
 have so:=W3 smA.out (GA.cmp ZT).out;have v57:=SC [cp 5,cp 7] ⟨ZT,fun v hv=>by
  rcases X7.1 hv with rfl|hv
  ·decide
  ·rw[Yo]at hv;subst hv;decide⟩
 have i8:=W4 [8] ZT;have cMh:cg 9 oH=ao oH:=bc rfl;have bM:aQ T 22 1 [(0,oH)]=some (.sl [oH]):=rfl;have bV:aQ T 23 1 [(0,(cp 2).av)]=some (vals [cp 2]):=rfl;have bW:aQ T 23 2 [(0,(cp 5).av),(1,(cp 7).av)]=some (vals [cp 5,cp 7]):=rfl;have bI:aQ T 24 2 [(0,.int .i64 7),(1,.int .i64 8)]=some (ints [7,8]):=rfl;have bJ:aQ T 24 1 [(0,.int .i64 8)]=some (ints [8]):=rfl;have lMh:ax T 55 (.ip (aa oH))=some oH:=rfl;have x0:dy (.tup [oH,Oa,.int .i64 0]) 0=some oH:=rfl;have x1:dy (.tup [oH,Oa,.int .i64 0]) 1=some Oa:=rfl;have x2:dy (.tup [oH,Oa,.int .i64 0]) 2=some (.int .i64 0):=rfl;have t1:S4 (af pg) ak []= .ok (.bool true) Tg:=by
  rw[S4];have pw:af pg 11 [.str [109,111,100,117,108,101,32,109,32,59,32,118,97,114,32,110,32,105,110,116,32,61,32,53,32,59,32,112,117,98,32,102,110,32,102,32,40,32,107,32,105,110,116,32,41,32,105,110,116,32,33,32,110,101,116,32,61,32,115,101,116,32,110,32,103,101,116,32,110,32,43,32,110,101,116,32,40,32,107,32,41,32,59]] []= .ok (.tup [oH,Oa,.int .i64 0]) Tg:=Kg;rw[ap pw];simp -implicitDefEqProofs only[x0,x1,x2,ae,cMh,aj,lMh,bM,t12,bV,bI,st1,e3,vM,vO,KM,aI,Fl,r6,r3,sA,e4,e5,q1,q2,kE,q3,rn1,Ix,dG,Nk,VJ,so,bW,bJ];have y1:bp T 29 (iO N8.frames)=some (.int .i64 1):=rfl;have y2:bp T 28 (aN N8.state)=some (.int .i64 1):=rfl;have y3:aA T 29 (iO N8.frames) (.int .i64 0)=some (.ip (aa (Frm.av ⟨[109],[102],3,[cp 2],[cp 5,cp 7]⟩))):=rfl;have y4:aA T 28 (aN N8.state) (.int .i64 0)=some (.ip (aa (Vars.av ⟨[109],[cp 5]⟩))):=rfl;have y5:bp T 23 (vals [cp 5])=some (.int .i64 1):=rfl;have y6:aA T 23 (vals [cp 5]) (.int .i64 0)=some (.ip (aa (cp 5).av)):=rfl;have z1:((1:Int) != 1)=false:=rfl;simp -implicitDefEqProofs only[Nj,NB,GZ,Hv,Rq,R9,ae,y1,y2,y3,y4,fY,z1,bv,aj,am,cr,ai,Xs,Xy,E0,Fo,y5,EY,Fi,GY,Ht,v57,i8,y6];have bt:∀(a:Int),(a== a)=true:=fun a=>X0 a;have eA:smA.ended=true:=rfl;have wB:N8.world=[8]:=rfl;have fV1:ah T 33 (.ip ((aa smA.av).drop 5)) 1=some (.ip ((aa smA.av).drop 6)):=rfl;have lV1:ax T 3 (.ip ((aa smA.av).drop 6))=some (.int .i64 12):=rfl;have fW1:ah T 33 (.ip (aa (cp 5).av)) 1=some (.ip ((aa (cp 5).av).drop 1)):=rfl;have lW1:ax T 3 (.ip ((aa (cp 5).av).drop 1))=some (.int .i64 5):=rfl;have un:KC .not (.bool false)=some (.bool true):=rfl;simp -implicitDefEqProofs only[aH,bt,eA,fV1,lV1,bv,cz,am,dG,EZ,Q8,ae,aj,i8,wB,fW1,lW1,un];rfl
 rw[C4];exact gG t1 rfl
end Go.Proofs.YtbndmpiddinalabGreatDoor
namespace Go.Proofs.YtbndmpiddinalabGreatDoor
open Go Go.Av Go.Av.Ap
set_option maxRecDepth 100000
theorem zN(eq:Bool):∀(a b:List Val)(s:Int×Bool),s.1<=(j0 fE eq a b s).1/\(j0 fE eq a b s).1<=s.1+a.length
 |[],_,s=>by simp[j0]
 |_:: _,[],s=>by simp[j0];omega
 |v:: a,w:: b,s=>by
  have:=zN eq a b (if fE v w=true then s else(s.1+1,s.2&&eq))
  rw[j0];simp only[XX];split at this<;>split<;>simp_all<;>omega
structure TwoSt (a b:List Vars):Prop where
 len:a.length=b.length
 la:a.length<=1000000
 va:∀w∈a,w.values.length<=1000000/\∀v∈w.values,v.sz<=4611686018427387904
theorem NK{a b:List Vars}(H:TwoSt a b)(V:List AV->M AV)(m:aW){i:Nat}(hi:i<a.length)(hv:a[i]!.values.length=b[i]!.values.length):∀(d k:Nat)(n:Int)(own:Bool),a[i]!.values.length-k=d->k<=a[i]!.values.length->0<=n->n<=1000000*i+k->
  ak (L9_0 (af pg) ak V) [aN a,aN b,.str m,.int .i64 n,.bool own,.int .i64 i,.int .i64 k]=
   V [aN a,aN b,.str m,.int .i64 (j0 fE (a[i]!.module== m) (a[i]!.values.drop k) (b[i]!.values.drop k) (n,own)).1,.bool (j0 fE (a[i]!.module== m) (a[i]!.values.drop k) (b[i]!.values.drop k) (n,own)).2,.int .i64 ((i+1:Nat):Int)]:=by
 have i1:=qZ hi;have i2:=qZ (p:=b) (k:=i) (by rw[<- H.len];exact hi);have hm:=H.va _ (show a[i]! ∈a by rw[Xx a i hi];exact XG hi);have hil:=H.la;have hw0:IntKind.i64.wrap ((i:Int)+1)=((i+1:Nat):Int):=aZ ZS;generalize a[i]! = x at i1 hm hv;generalize b[i]! = y at i2 hv;have lx:bp T 23 (vals x.values)=some (.int .i64 x.values.length):=nf _;intro d
 induction d with
 |zero=>
  intro k n own hd hk hn hb;have h1:¬((k:Int)<(x.values.length:Int)):=ZS
  have z1:x.values.drop k=[]:=List.drop_eq_nil_of_le ZS;have z2:y.values.drop k=[]:=List.drop_eq_nil_of_le ZS;rw[z1,z2];rw[FL9_0];simp -implicitDefEqProofs only[L9_0,am,ar,i1,ae,E0,Fo,lx,aB,ai,Xt,Xr h1,bm,hw0];rfl
 | succ d ih=>
  intro k n own hd hk hn hb;have hlt:k<x.values.length:=ZS
  have h1:(k:Int)<(x.values.length:Int):=ZS
  have j1:=qG (l:=x.values) (n:=(k:Int)) ZS h1;have j2:=qG (l:=y.values) (n:=(k:Int)) ZS ZS;rw[XC]at j1 j2;have hwk:IntKind.i64.wrap ((k:Int)+1)=((k+1:Nat):Int):=aZ ZS;have hwn:IntKind.i64.wrap (n+1)=n+1:=aM ZS ZS;have ex:x.values.drop k=x.values[k]! :: x.values.drop (k+1):=by rw[List.drop_eq_getElem_cons hlt,Xx x.values k hlt]
  have ey:y.values.drop k=y.values[k]! :: y.values.drop (k+1):=by rw[List.drop_eq_getElem_cons ZS,Xx y.values k ZS]
  have f1:=V5 x.values[k]! y.values[k]! (hm.2 _ (mI hlt));rw[ex,ey,j0];generalize x.values[k]! = v at j1 f1;generalize y.values[k]! = w at j2 f1;rw[FL9_0];simp -implicitDefEqProofs only[L9_0,am,ar,i1,ae,E0,Fo,lx,aB,ai,Xt,Xv h1,jn,i2,j1,j2,Sf,f1,dG,aj,bi,bm,hwn];cases fE v w with
  |true=>
   simp -implicitDefEqProofs only[XR,Xs,Xy,XF,K9_0,am,ar,bm,hwk,ae];exact ih (k+1) n own ZS ZS hn ZS
  |false=>
   have ee:cF T .eql 9 (.str x.module) (.str m)=some (.bool (x.module== m)):=rfl;simp -implicitDefEqProofs only[X3,Xs,Xy,XF,JG,JU,ae,ee,aE,aj,bg,K9_0,am,ar,bm,hwk];exact ih (k+1) (n+1) (own&&(x.module== m)) ZS ZS ZS ZS
def NL{a b:List Vars}(H:TwoSt a b)(m:aW):∀(d i:Nat)(n:Int)(own:Bool),a.length-i=d->i<=a.length->0<=n->n<=1000000*i->
  ak (L9_1 (af pg) ak) [aN a,aN b,.str m,.int .i64 n,.bool own,.int .i64 i]=ao (.tup [.int .i64 (jN fE m (a.drop i) (b.drop i) (n,own)).1,.bool (jN fE m (a.drop i) (b.drop i) (n,own)).2]):=by
 intro d;have hil:=H.la;have hl:=H.len
 induction d with
 |zero=>
  intro i n own hd hi hn hb;have h1:¬((i:Int)<(a.length:Int)):=ZS
  have hdec:decide ((i:Int)<(a.length:Int))=false:=XO h1;have z1:a.drop i=[]:=List.drop_eq_nil_of_le ZS;have z2:b.drop i=[]:=List.drop_eq_nil_of_le ZS;rw[z1,z2];rw[FL9_1];simp -implicitDefEqProofs only[L9_1,am,ar,rc,ae,aB,hdec,aE,aj,bg,Yu,ai,Xs,Xy];rfl
 | succ d ih=>
  intro i n own hd hi hn hb;have hlt:i<a.length:=ZS
  have hdec:decide ((i:Int)<(a.length:Int))=true:=XU ZS;have ea:a.drop i=a[i]! :: a.drop (i+1):=by rw[List.drop_eq_getElem_cons hlt,Xx a i hlt]
  have eb:b.drop i=b[i]! :: b.drop (i+1):=by rw[List.drop_eq_getElem_cons ZS,Xx b i ZS]
  have i1:=qZ hlt;have i2:=qZ (p:=b) (k:=i) ZS;have hm:=H.va _ (show a[i]! ∈a by rw[Xx a i hlt];exact XG hlt);have inner:=NK H (ak (L9_1 (af pg) ak)) m hlt;have lx:∀x:Vars,bp T 23 (vals x.values)=some (.int .i64 x.values.length):=fun x=>nf _;rw[ea,eb,jN];cases own with
  |false=>
   rw[Xr (show ¬(false:Bool)=true by decide)];rw[FL9_1];simp -implicitDefEqProofs only[L9_1,am,ar,rc,ae,aB,hdec,aE,aj,bg,YG,ai,Xs,Xy]
  | true=>
   rw[Xv (show (true:Bool)=true from rfl)];have key:ak (L9_1 (af pg) ak) [aN a,aN b,.str m,.int .i64 n,.bool true,.int .i64 i]=if a[i]!.values.length=b[i]!.values.length/\a[i]!.module=b[i]!.module then ak (L9_0 (af pg) ak (ak (L9_1 (af pg) ak))) [aN a,aN b,.str m,.int .i64 n,.bool true,.int .i64 i,.int .i64 0]else ao (.tup [.int .i64 0,.bool false]):=by
    generalize a[i]! = x at i1;generalize b[i]! = y at i2;rw[FL9_1];simp -implicitDefEqProofs only[L9_1,am,ar,rc,ae,aB,hdec,aE,aj,bg,Yn,ai,XF,i1,i2,E0,Fo,lx,fY,JG,JU,K9,eB];by_cases c1:x.values.length=y.values.length
    ·by_cases c2:x.module=y.module
     ·have e1:((x.values.length:Int) != (y.values.length:Int))=false:=by simp[c1]
      have e2:(x.module != y.module)=false:=by simp[c2]
      rw[Xv (show x.values.length=y.values.length/\x.module=y.module from⟨c1,c2⟩)];simp -implicitDefEqProofs only[e1,e2,Y3,Xs,Xy]
     ·have e2:(x.module != y.module)=true:=by simp[c2]
      rw[Xr (show ¬(x.values.length=y.values.length/\x.module=y.module)from fun h=>c2 h.2)];simp -implicitDefEqProofs only[e2,Bool.or_true,XF]
    ·have e1:((x.values.length:Int) != (y.values.length:Int))=true:=by simp;omega
     rw[Xr (show ¬(x.values.length=y.values.length/\x.module=y.module)from fun h=>c1 h.1)];simp -implicitDefEqProofs only[e1,ZI,XF]
   rw[key];by_cases hc:a[i]!.values.length=b[i]!.values.length/\a[i]!.module=b[i]!.module
   ·rw[Xv hc,Xv hc];have q:=inner hc.1 _ 0 n true rfl (XN _) hn ZS;rw[XK,XK]at q;have bd:=zN (a[i]!.module== m) a[i]!.values b[i]!.values (n,true);have q':ak (L9_0 (af pg) ak (ak (L9_1 (af pg) ak))) [aN a,aN b,.str m,.int .i64 n,.bool true,.int .i64 i,.int .i64 0]=_:=q;rw[q'];exact ih (i+1) _ _ ZS ZS (by simp only at bd;omega) (by have:=hm.1;simp only at bd;omega)
   ·rw[Xr hc,Xr hc]
def t9{a b:List Vars}(H:TwoSt a b)(m:aW):af pg 9 [aN a,aN b,.str m]=ao (.tup [.int .i64 (jN fE m a b (0,true)).1,.bool (jN fE m a b (0,true)).2]):=by
 have h:=NL H m a.length 0 0 true rfl (XN _) ZS ZS;rw[XK,XK]at h;have h':ak (L9_1 (af pg) ak) [aN a,aN b,.str m,.int .i64 0,.bool true,.int .i64 0]=_:=h;have hl:((a.length:Int)== (b.length:Int))=true:=by simp[H.len]
 rw[C9,show cl aF (aN a)=aN a by simp,show cl aF (aN b)=aN b by simp,show cl aF (.str m)= .str m from rfl];simp -implicitDefEqProofs only[S9,rc,ae,aH,hl,h'];exact dj fun g=>rfl
def Bj{k:Nat}{p:Proc}(G:Goes k p){fs:List Frm}{f:Frm}{x:Fnc}(Tp:TopOk p.mods f x)(O:StepO p (bZ p) fs f):∃c:Int,(c=0\/c=1)/\af pg 9 [aN p.state,aN (bZ p).state,.str f.mod]=ao (.tup [.int .i64 c,.bool true]):=by
 have P:=G.pbd;have hst:=iv P G.right.st;have two:∀b:List Vars,p.state.length=b.length->TwoSt p.state b:=fun b hb=>⟨hb,hst.1,fun w hw=>⟨(hst.2 w hw).1,fun v hv=>m6 ((hst.2 w hw).2 v hv)⟩⟩;rcases O.state with h|⟨i,v,_,h⟩
 ·rw[h,t9 (two p.state rfl),nB fE mU];exact⟨0,.inl rfl,rfl⟩
 ·rw[h,t9 (two _ ZV)];obtain⟨c,hc,e⟩:=oL fE mU f.mod p.state (cV p.mods f.mod).toNat i v 0 fun w hw=>FU G.right.st (kN Tp.fnc).ge hw;rw[e];exact⟨c,hc,ZV⟩
theorem W2(p:Proc):AV.agg [mods p.mods,aN p.state,iO p.frames,ints p.world,.int .i64 p.out.err,.int .i64 p.out.value.kind,.int .i64 p.out.value.n,strs p.out.value.names,vals p.out.value.values,deeds p.out.deeds,calls p.out.calls,aN p.out.state,.bool p.ended]=p.av:=rfl
def Jj(p:Proc):bD 13 [] p.av=ao (.agg [mods p.mods,aN p.state,iO p.frames,ints p.world,.int .i64 p.out.err,.int .i64 p.out.value.kind,.int .i64 p.out.value.n,strs p.out.value.names,vals p.out.value.values,deeds p.out.deeds,calls p.out.calls,aN p.out.state,.bool p.ended]):=gh rfl
def AK{k:Nat}{p:Proc}(G:Goes k p){fs:List Frm}{f:Frm}(hp:p.frames=fs++[f])(O:StepO p (bZ p) fs f)(V:List AV->M AV)(n e i:AV)(i2:AV)(hi2:cF T .add 3 i (.int .i64 1)=some i2):∀(d m:Nat),fs.length-m=d->m<=fs.length->
  ak (L3_0 (af pg) ak V) [n,.bool true,e,i,.ip (aa (bZ p).av),.int .i64 fs.length,.int .i64 m,mods p.mods,aN p.state,iO p.frames,ints p.world,.int .i64 p.out.err,.int .i64 p.out.value.kind,.int .i64 p.out.value.n,strs p.out.value.names,vals p.out.value.values,deeds p.out.deeds,calls p.out.calls,aN p.out.state,.bool p.ended]=
   V [n,.bool true,e,i2,mods (bZ p).mods,aN (bZ p).state,iO (bZ p).frames,ints (bZ p).world,.int .i64 (bZ p).out.err,.int .i64 (bZ p).out.value.kind,.int .i64 (bZ p).out.value.n,strs (bZ p).out.value.names,vals (bZ p).out.value.values,deeds (bZ p).out.deeds,calls (bZ p).out.calls,aN (bZ p).out.state,.bool (bZ p).ended]:=by
 have hlen:=G.right.len;rw[hp]at hlen;simp only[XL,List.length_singleton]at hlen;have hw0:IntKind.i64.wrap ((fs.length:Int)-1)=(fs.length:Int)-1:=aM ZS ZS;have hfr:=kz G.right G.pbd;intro d
 induction d with
 |zero=>
  intro m hd hm;have hdec:decide ((m:Int)<(fs.length:Int)-1)=false:=XO ZS;rw[FL3_0];simp -implicitDefEqProofs only[L3_0,am,ar,dY,hw0,ae,aB,hdec,EZ,Hw,bi,aE,aj,bg,Yu,ai,Xs,Xy,Fl,Jj,aI,hi2]
 | succ d ih=>
  intro m hd hm;cases hq:(decide ((m:Int)<(fs.length:Int)-1)&&!(bZ p).ended)with
  |false=>
   rw[FL3_0];simp -implicitDefEqProofs only[L3_0,am,ar,dY,hw0,ae,aB,EZ,Hw,bi,aE,aj,bg,hq,ai,Xs,Xy,Fl,Jj,aI,hi2]
  | true=>
   simp only[Xu,Xt,XW]at hq;obtain⟨q1,q2⟩:=hq;obtain⟨_,fl1,fl2,fl3⟩:=O.frames.resolve_left (by rw[q2];simp);have hg:=fl3 m ZS;have hmp:m<p.frames.length:=by rw[hp];simp;omega
   have hms:m<(bZ p).frames.length:=ZS
   have eqm:(bZ p).frames[m]! = p.frames[m]!:=by
    rw[Xx _ m hms,Xx _ m hmp];rw[XE hms,XE hmp]at hg;exact X9 hg
   have i1:=Aw hmp;have i3:=Aw hms;rw[eqm]at i3;have hb:=hfr _ (show p.frames[m]! ∈p.frames by rw[Xx _ m hmp];exact XG hmp);have c1:=SC _ (show vP (p.frames[m]!).stack from⟨by have:=hb.1.1;omega,fun v hv=>m6 (hb.2.1 v hv)⟩);have c2:=SC _ (show vP (p.frames[m]!).locals from⟨by have:=hb.1.2;omega,fun v hv=>m6 (hb.2.2 v hv)⟩);have hwm:IntKind.i64.wrap ((m:Int)+1)=((m+1:Nat):Int):=aZ ZS;have hdec:decide ((m:Int)<(fs.length:Int)-1)=true:=XU q1;generalize p.frames[m]! = g at i1 i3 c1 c2;rw[FL3_0];simp -implicitDefEqProofs only[L3_0,am,ar,dY,hw0,ae,aB,hdec,EZ,Hw,q2,bi,X3,aE,aj,bg,Yn,ai,XF,GZ,Hv,i1,i3,EY,Fi,HM,GY,Ht,c1,dG,XR,eB,Y3,Q7,R5,c2,Xs,Xy,bm,hwm]
   have:=ih (m+1) ZS ZS
   rw[q2]at this;exact this
theorem HI(n:Int)(hn:n<=60):∀(d i:Nat)(p:Proc),(n-i).toNat=d->i<=60->Goes (1+i) p->
  ak (L3_1 (af pg) ak) [.int .i64 n,.bool true,.int .i64 0,.int .i64 i,mods p.mods,aN p.state,iO p.frames,ints p.world,.int .i64 p.out.err,.int .i64 p.out.value.kind,.int .i64 p.out.value.n,strs p.out.value.names,vals p.out.value.values,deeds p.out.deeds,calls p.out.calls,aN p.out.state,.bool p.ended]=ao (.bool true):=by
 have eqErr0:cF T .eql 30 (.int .i64 0) (.int .i64 0)=some (.bool true):=rfl;have neErr0:cF T .neq 30 (.int .i64 0) (.int .i64 0)=some (.bool false):=rfl;intro d
 induction d with
 |zero=>
  intro i p hd hi G;have hdec:decide ((i:Int)<n)=false:=XO ZS;rw[FL3_1];simp -implicitDefEqProofs only[L3_1,am,ar,aB,ae,hdec,eqErr0,aE,aj,bg,Yu,rb,dq,ai,Xs,Xy]
 | succ d ih=>
  intro i p hd hi G;have hdec:decide ((i:Int)<n)=true:=XU ZS;cases hfr:decide ((0:Int)<(p.frames.length:Int))with
  |false=>
   rw[FL3_1];simp -implicitDefEqProofs only[L3_1,am,ar,aB,ae,hdec,eqErr0,aE,aj,bg,Yn,rb,dq,hfr,YG,ai,Xs,Xy]
  | true=>
   rw[Xt]at hfr;have he:p.ended=false:=by
    rw[G.right.ended];cases hpf:p.frames with
    |nil=>rw[hpf]at hfr;simp at hfr
    |cons a l=>rfl
   obtain⟨fs,f,x,hp,hch,Tp⟩:=kD G.right he;have O:=qz G.right he hp hch Tp;have G2:=G.step he;have st:=G.tStep ZS;rw[he]at st;simp -implicitDefEqProofs only[Xs,Xy]at st;obtain⟨c,hc,dif⟩:=Bj G Tp O;have hlen:=G.right.len;have hpl:p.frames.length=fs.length+1:=by rw[hp];simp
   have hix:=Aw (p:=p.frames) (k:=fs.length) ZS;have hlast:p.frames[fs.length]! = f:=by rw[Xx _ _ ZS];simp[hp]
   rw[hlast]at hix;have hwl:IntKind.i64.wrap ((p.frames.length:Int)-1)=(fs.length:Int):=by rw[aM ZS ZS];omega
   have hwi:IntKind.i64.wrap ((i:Int)+1)=((i+1:Nat):Int):=aZ ZS;have S:=G.sz;have s1:=S.deeds;have s2:=S.calls;have s3:=S.world;have hw1:(bZ p).world.length<=p.world.length/\p.world.length<=(bZ p).world.length+1:=by
    rcases O.world with h|h<;>rw[h]<;>simp<;>omega
   have hd1:p.out.deeds.length<=(bZ p).out.deeds.length/\(bZ p).out.deeds.length<=p.out.deeds.length+1:=by
    rcases O.deeds with h|⟨_,h⟩<;>rw[h]<;>simp
   have hc1:p.out.calls.length<=(bZ p).out.calls.length/\(bZ p).out.calls.length<=p.out.calls.length+1:=by
    rcases O.calls with h|⟨_,h,_⟩<;>rw[h]<;>simp
   have w1:IntKind.i64.wrap ((p.world.length:Int)-1)=(p.world.length:Int)-1:=aM ZS ZS;have w2:IntKind.i64.wrap ((p.out.deeds.length:Int)+1)=(p.out.deeds.length:Int)+1:=aM ZS ZS;have w3:IntKind.i64.wrap ((p.out.calls.length:Int)+1)=(p.out.calls.length:Int)+1:=aM ZS ZS;have w4:IntKind.i64.wrap ((fs.length:Int)+2)=(fs.length:Int)+2:=aM ZS ZS;have t0:decide ((1:Int)<c)=false:=XO ZS;have t1:decide ((p.world.length:Int)<((bZ p).world.length:Int))=false:=XO ZS;have t2:decide (((bZ p).world.length:Int)<(p.world.length:Int)-1)=false:=XO ZS;have t3:decide (((bZ p).out.deeds.length:Int)<(p.out.deeds.length:Int))=false:=XO ZS;have t4:decide ((p.out.deeds.length:Int)+1<((bZ p).out.deeds.length:Int))=false:=XO ZS;have t5:decide (((bZ p).out.calls.length:Int)<(p.out.calls.length:Int))=false:=XO ZS;have t6:decide ((p.out.calls.length:Int)+1<((bZ p).out.calls.length:Int))=false:=XO ZS;have gz:decide ((0:Int)<(p.frames.length:Int))=true:=XU hfr;have inner:=AK G hp O (ak (L3_1 (af pg) ak)) (.int .i64 n) (.int .i64 0) (.int .i64 i) (.int .i64 ((i+1:Nat):Int)) (by rw[bm,hwi]) fs.length 0 rfl (XN _);have inner':ak (L3_0 (af pg) ak (ak (L3_1 (af pg) ak))) [.int .i64 n,.bool true,.int .i64 0,.int .i64 i,.ip (aa (bZ p).av),.int .i64 fs.length,.int .i64 0,mods p.mods,aN p.state,iO p.frames,ints p.world,.int .i64 p.out.err,.int .i64 p.out.value.kind,.int .i64 p.out.value.n,strs p.out.value.names,vals p.out.value.values,deeds p.out.deeds,calls p.out.calls,aN p.out.state,.bool p.ended]=_:=inner;have nxt:=ih (i+1) (bZ p) ZS ZS (by rw[show 1+(i+1)=1+i+1 by omega];exact G2);rw[nxt]at inner';have fin:∀e2,(bZ p).ended=e2->(e2=true->(bZ p).frames=[])->(e2=false->fs.length<=(bZ p).frames.length/\(bZ p).frames.length<=fs.length+2)->
     ak (L3_1 (af pg) ak) [.int .i64 n,.bool true,.int .i64 0,.int .i64 i,mods p.mods,aN p.state,iO p.frames,ints p.world,.int .i64 p.out.err,.int .i64 p.out.value.kind,.int .i64 p.out.value.n,strs p.out.value.names,vals p.out.value.values,deeds p.out.deeds,calls p.out.calls,aN p.out.state,.bool p.ended]=ao (.bool true):=by
    intro e2 h2 ht hf;rw[FL3_1];simp -implicitDefEqProofs only[L3_1,am,ar,aB,ae,hdec,eqErr0,aE,aj,bg,Yn,rb,dq,gz,ai,XF,W2,st,vM,vO,KM,dY,hwl,Nj,NB,aI,hix,JF,JS,dif,dG,neErr0,bi,XR,eB,Y3,t0,Rq,R9,DT,t1,w1,t2,Nk,UU,VG,DR,t3,bm,w2,t4,UV,VH,KW,t5,w3,t6,Xs,Xy,EZ,Hw,h2,GZ,Hv];cases e2 with
    |true=>
     have hz:=ht rfl;rw[hz];exact inner'
    |false=>
     obtain⟨f1,f2⟩:=hf rfl;have u1:decide (((bZ p).frames.length:Int)<(fs.length:Int))=false:=XO ZS;have u2:decide ((fs.length:Int)+2<((bZ p).frames.length:Int))=false:=XO ZS;simp -implicitDefEqProofs only[u1,u2,w4,bm,ae,dq];exact inner'
   rcases O.frames with⟨h1,h2⟩|⟨h1,h2,h3,_⟩
   ·exact fin true h1 (fun _=>h2) (fun h=>(by cases h))
   ·exact fin false h1 (fun h=>(by cases h)) (fun _=>⟨h2,h3⟩)
def t3(p:List Ap.Mod)(s t:aW)(args:List Val)(w:List Int)(n:Int)(hp:p.length<=140737488355328)(hL:∀m∈p,m.Lim)(hA:BA args):af pg 3 [mods p,.str s,.str t,vals args,ints w,.int .i64 n]=ao (.bool true):=by
 obtain⟨b1,e1,q1⟩:=t5 p hp hL;obtain⟨b2,e2,q2⟩:=t6 args 8 ZT hA;have e2:af pg 6 [vals args,.int .i64 8]=ao (.bool b2):=e2;rw[C3,show cl aF (mods p)=mods p by simp,show cl aF (.str s)= .str s from rfl,show cl aF (.str t)= .str t from rfl,show cl aF (vals args)=vals args by simp,show cl aF (ints w)=ints w by simp,show cl aF (.int .i64 n)= .int .i64 n from rfl];have fin:S3 (af pg) ak (mods p) (.str s) (.str t) (vals args) (ints w) (.int .i64 n)=ao (.bool true):=by
  simp -implicitDefEqProofs only[S3,FQ,aj,e1,ae,bi,e2,aE,am,eB,DT,dq];cases hg:(!b1||!b2||decide (30<(w.length:Int))||decide (60<n))with
  |true=>simp -implicitDefEqProofs only[ai,XF]
  | false=>
   simp only[YH,X2,Zu]at hg;obtain⟨⟨⟨g1,g2⟩,g3⟩,g4⟩:=hg;obtain⟨_,hc⟩:=q1 g1;obtain⟨hal,hav⟩:=q2 g2;have hw:w.length<=1000000:=ZS
   have e3:=t7 p s t args w hL (fun m hm f hf=>XM (hc m hm f hf 12) ZT) ⟨ZS,fun v hv=>(hav v hv).1⟩ hw;unfold iM at e3;simp -implicitDefEqProofs only[ai,Xs,Xy];cases hs:gB p s t args w with
   | error e=>
    rw[hs]at e3;have e3:af pg 7 [mods p,.str s,.str t,vals args,ints w]=ao (.tup [p0.av,.int .i64 e]):=e3;have hne:(e== 0)=false:=by
     have:=FS hs
     simpa using this
    simp -implicitDefEqProofs only[e3,aj,vM,vO,ae,Jj,aI,am,ar];rw[FL3_1];simp -implicitDefEqProofs only[L3_1,am,ar,aB,ae,QZ,hne,aE,aj,bg,YG,Yu,rb,dq,ai,Xs,Xy]
   |ok q=>
    rw[hs]at e3;have e3:af pg 7 [mods p,.str s,.str t,vals args,ints w]=ao (.tup [q.av,.int .i64 0]):=e3;obtain⟨G,hqe⟩:=vt hs hL hc ZS hw;have h:=HI n ZS _ 0 q rfl (XN _) G;simp -implicitDefEqProofs only[e3,aj,vM,vO,ae,Jj,aI,am,ar];exact h
 rw[fin];exact fA true
end Go.Proofs.YtbndmpiddinalabGreatDoor
namespace Go.Proofs.YtbndmpiddinalabGreatDoor.vmOwn
open Go Go.Av Go.Av.Ap Go.ChangeShapes Go.WideShapes Go.ChangeAt Go.RowKit Go.Joins Go.Deep
set_option maxRecDepth 1000000
def kids:Kids Tryz.prog (· < Tryz.prog.types.size):=kids_rows ZY ZY
def Bf:∀t e,t<Tryz.prog.types.size->Tryz.prog.underlying t=some (.slice e)->0<Tryz.prog.cellsOf e:=slices_full_of Tryz.prog ZY
def GK(H:Type)(enc:TypeId×Value->H)(W:World)(base:Nat)(args:Array Value)(ds gs:List (DataW H))(before:List MemPlace)(hval:∀(j:Nat) t v,Tryz.f3.params[j]? = some t->args[j]? = some v->Value.okWide Tryz.prog W .any base t v)(hW:DataW.Whole enc Tryz.prog Tryz.f3.params.toList Rows.vmOwnSpec.vars false W args.toList ds gs before)(hz:(DataW.weightsEach Tryz.prog (Tryz.f3.params.toList++Rows.vmOwnSpec.plain.varTypes Tryz.prog) (ds++gs)).all (· <=reachBytes)=true)(hL:laidMetH Tryz.prog Rows.vmOwnRow.laid W)(hS:W.ShapedOpen Tryz.prog):
  Calls Tryz.prog 3 args W fun e W'=>∃v,e= .returned v/\Rows.vmOwnSpec.post enc Tryz.prog Tryz.f3 false true false false W args v W':=by
 have hW':=hW;obtain⟨p,q,hA0,hV,rfl,hfz,hnd⟩:=hW;have hA:DataW.TrodAll enc Tryz.prog W 0 (fun _=>true) true Tryz.f3.params.toList args.toList ds p:=hA0;have hA1:=hA;rw[Tryz.params3]at hA hval hz;obtain⟨v0,vs0,d0,ds0,p0,q0,ha0,rfl,rfl,h0,r0⟩:=trodAll_cons hA;obtain⟨v1,vs1,d1,ds1,p1,q1,ha1,rfl,rfl,h1,r1⟩:=trodAll_cons r0;obtain⟨v2,vs2,d2,ds2,p2,q2,ha2,rfl,rfl,h2,r2⟩:=trodAll_cons r1;obtain⟨v3,vs3,d3,ds3,p3,q3,ha3,rfl,rfl,h3,r3⟩:=trodAll_cons r2;obtain⟨v4,vs4,d4,ds4,p4,q4,ha4,rfl,rfl,h4,r4⟩:=trodAll_cons r3;obtain⟨v5,vs5,d5,ds5,p5,q5,ha5,rfl,rfl,h5,r5⟩:=trodAll_cons r4;obtain⟨hnil,rfl,rfl⟩:=trodAll_nil r5;subst hnil;subst ha5;subst ha4;subst ha3;subst ha2;subst ha1;obtain rfl:args= #[v0,v1,v2,v3,v4,v5]:=by cases args;simp_all
 obtain⟨rfl,rfl⟩:=trodVars_none hV;obtain⟨x0,k0,o0⟩:=qJ (fun N=>Kn N) Tryz.underlying22 (hval 0 22 v0 rfl rfl) h0 (i6 hz (j:=0) rfl rfl);obtain⟨x1,k1,o1⟩:=Dg (fun N=>nR Tryz.underlying9) Tryz.underlying9 (hval 1 9 v1 rfl rfl) h1 (i6 hz (j:=1) rfl rfl);obtain⟨x2,k2,o2⟩:=Dg (fun N=>nR Tryz.underlying9) Tryz.underlying9 (hval 2 9 v2 rfl rfl) h2 (i6 hz (j:=2) rfl rfl);obtain⟨x3,k3,o3⟩:=qJ (fun N=>Ko N) Tryz.underlying23 (hval 3 23 v3 rfl rfl) h3 (i6 hz (j:=3) rfl rfl);obtain⟨x4,k4,o4⟩:=qJ (fun N=>Km N) Tryz.underlying24 (hval 4 24 v4 rfl rfl) h4 (i6 hz (j:=4) rfl rfl);obtain⟨x5,k5,o5⟩:=Jh (fun N=>nQ Tryz.underlying3) Tryz.underlying3 (hval 5 3 v5 rfl rfl) h5 (i6 hz (j:=5) rfl rfl);clear hA0;simp only[XS]at hW' hA1;have hlt:=hW'.lt;have hv:bB (nr W) [] [mods x0,.str x1,.str x2,vals x3,ints x4,.int .i64 x5] [v0,v1,v2,v3,v4,v5]:=by
  simp only[bB];exact⟨_,_,rfl,k0,_,_,rfl,k1,_,_,rfl,k2,_,_,rfl,k3,_,_,rfl,k4,_,_,rfl,k5,rfl⟩
 refine (Fp U8 g8 (Nr hL hS) hv (by rw[t3 x0 x1 x2 x3 x4 x5 o0.1 o0.2 o3];rfl)).mono fun e W' ⟨he,hb⟩=>?_;subst he;exact⟨_,rfl,wd (pv:=[]) hW' (fun _ _ _=>trodAll_cons_mk (shut_bool Tryz.underlying4 _) trodAll_mk0) (fun sp hsp=>
   BG kids Bf (by rw[Tryz.params3];decide +kernel) hA1 hlt hb sp hsp) (fun _ _=>rfl) ZV
  hb (ok_one ZY rfl (okWide_bool_mk Tryz.underlying4 _))⟩
def reads(os:Os){H:Type}(enc:TypeId×Value->H):∃ds places,DataW.whole enc Tryz.prog ((q7 os).forCall (fun _ _=>0) ⟨#[],#[.slice none 0 0,.string ⟨#[]⟩,.string ⟨#[]⟩,.slice none 0 0,.slice none 0 0,.int .i64 0],[]⟩).memory Tryz.f3.params.toList Rows.vmOwnSpec.vars false #[.slice none 0 0,.string ⟨#[]⟩,.string ⟨#[]⟩,.slice none 0 0,.slice none 0 0,.int .i64 0].toList 8=some (ds,[],places):=
 ⟨[.nil,.lit (.string []),.lit (.string []),.nil,.nil,.lit (.int .i64 0)],[],ZY⟩
def lifted(os:Os)(started:os.Started)(H:Type)(enc:TypeId×Value->H)(F:Stop.Interp):
  ReturnsInHanded {} Tryz.checked os 3 .any ((OpenSpec.ofChange Rows.vmOwnSpec).preRow enc Tryz.prog Tryz.f3 Rows.vmOwnRow.domain false Rows.vmOwnRow.laid) (((OpenSpec.ofChange Rows.vmOwnSpec).at F).post enc Tryz.prog Tryz.f3 false true false false):=by
 obtain⟨ds,places,hx⟩:=reads os enc;refine returnsInHanded_of_row (C:=Tryz.checked) (s:=OpenSpec.ofChange Rows.vmOwnSpec) VP started ZY Tryz.func3
  (witness_row_atRef (enc:=enc) (C:=Tryz.checked) false (q7 os) #[.slice none 0 0,.string ⟨#[]⟩,.string ⟨#[]⟩,.slice none 0 0,.slice none 0 0,.int .i64 0] rfl ZY ZY ZY
   (OpenSpec.preRow_of_cond 8 hx ZY (fun k hk=>by cases hk) ZY (Hx os _))) ?_
 intro W base args ds gs before hval hW _ _ hz hL hS _;exact GK H enc W base args ds gs before hval hW hz hL hS
end Go.Proofs.YtbndmpiddinalabGreatDoor.vmOwn
