/- What the functions compute, part 7. Conditions: bounds. -/
import Derived.Test.YtbndmpiddinalabGreatDoorTf
set_option linter.defProp false
set_option linter.unusedSimpArgs false
set_option linter.unusedVariables false
namespace Go.Proofs.YtbndmpiddinalabGreatDoor
open Go Go.Av Go.Av.Ap
set_option maxRecDepth 100000
def wF{tag:Nat->Nat}{h:Hp}{k:Nat}{l:List Val}(s:aW){av:AV}(H:dk tag k h l av):cG T false 61 [(0,.str s),(1,av)]=some (.agg [.str s,av]):=by
 rcases dk.shape H with rfl|rfl|⟨r,rfl⟩<;>rfl
theorem tA(s:aW)(av:AV):aQ T 28 1 [(0,.agg [.str s,av])]=some (.sl [.agg [.str s,av]]):=rfl
theorem sq{sv:AV}{st:List Vars}(Q:(Nat->Nat)->Hp->Prop)(hQ:∀ {tag tag':Nat->Nat} {h h':Hp} {ks:Nat->Prop},Kp tag tag' ks h h'->(∀k,ks k->k=9)->Q tag h->Q tag' h')(hS:∀ {tag:Nat->Nat} {h:Hp},Q tag h->gb tag 5 2 st.length (fun cs=>oC tag h 0 st cs) sv h)(hn:st.length<=1000000)(hv:∀w∈st,w.values.length<=1000000):∀(B A:List Vars)(tag:Nat->Nat)(h:Hp)(ov:AV),A++B=st->Q tag h->gb tag 9 2 A.length (fun cs=>vL tag h A cs) ov h->
  ∃h' tag' ov',ak (L105_0 (af pg) ak) [ov,sv,.int .i64 st.length,.int .i64 A.length] h= .ok ov' h'/\Q tag' h'/\gb tag' 9 2 st.length (fun cs=>vL tag' h' st cs) ov' h'
 |[],A,tag,h,ov,e,H,S=>by
  rw[XS]at e;subst e;have h1:¬((A.length:Int)<(A.length:Int)):=ZS
  refine⟨h,tag,ov,?_,H,S⟩;rw[FL105_0];simp -implicitDefEqProofs only[L105_0,am,ar,aB,ae,ai,Xt,Xr h1];rfl
 | w:: B,A,tag,h,ov,e,H,S=>by
  have hlen:A.length+(B.length+1)=st.length:=by rw[<- e];simp
  have h1:(A.length:Int)<(st.length:Int):=ZS
  have hw:st[A.length]? = some w:=by rw[<- e];simp
  have hwm:w∈st:=X8 hw;have hsv:∃r cs rest,sv= .hs r 0 st.length 2 true/\h[r]? = some (cs++rest)/\cs.length=st.length*2/\oC tag h 0 st cs:=by
   rcases hS H with⟨h0,_⟩|⟨r,cs,rest,e1,_,hcs,_,hl,_,HS⟩
   ·omega
   ·grind
  obtain⟨r,cs,rest,rfl,hcs,hl,HS⟩:=hsv;obtain⟨av,a1,a2⟩:=HS.at2 A.length w hw;have hix:aA T 28 (.hs r 0 st.length 2 true) (.int .i64 (A.length:Int))=some (.hp r (0+A.length*2)):=by
   show (if(0:Int)<=(A.length:Int)/\(A.length:Int)<((st.length:Nat):Int)then some (AV.hp r (0+(A.length:Int).toNat*2))else none)=_;rw[Xv ZS];simp
  have hld:bb T 61 (.hp r (0+A.length*2)) h= .ok (.agg [.str w.module,av]) h:=by
   rw[XI,lY (T:=T) (t:=61) rfl rfl hcs ZU];show R.ok (AV.agg (((cs++rest).drop (A.length*2)).take 2)) h=_;rw[YK ZS,Y0 ZX,a1]
  have hav:ay av=true:=a2.okC;have hok2:bR 2 (.agg [.str w.module,av])=true:=by
   show (_&&(ay (.str w.module)&&(ay av&&true)))=true;rw[hav];rfl
  obtain⟨h2,tag2,rv,e2,K2,V2⟩:=tJ (T:=T) (t:=23) (e:=33) rfl rfl rfl rfl rfl ZT (af pg) a2 (XM (XB _ (hv w hwm)) ZT) 8;have H2:=hQ K2 (fun k hk=>hk.elim) H;have S2:gb tag2 9 2 A.length (fun cs=>vL tag2 h2 A cs) ov h2:=S.keep K2 id fun _ h=>h.keep K2 id;obtain⟨cs3,tag3,hP,hl3,happ,K3,_,S3⟩:=gb.push (T:=T) (t:=28) (e:=61) rfl rfl rfl rfl ZT rfl ZT S2 (x:=.agg [.str w.module,rv]) (by
   show (_&&(ay (.str w.module)&&(ay rv&&true)))=true;rw[V2.okC];rfl) (XM (XB _ (show A.length+1<=10000000 by omega)) ZT)
  have H3:=hQ K3 (fun k hk=>hk) H2;have S4:=S3.mono (c':=fun cs=>vL tag3 _ (A++[w]) cs) fun cs' h=>by rw[h];exact (hP.keep K3 ZS).snoc (V2.keep K3 ZS)
  have hw1:IntKind.i64.wrap ((A.length:Int)+1)=((A++[w]).length:Nat):=by rw[aM ZS ZS];simp
  obtain⟨h',tag',ov',k1,k2,k3⟩:=sq Q hQ hS hn hv B (A++[w]) tag3 _ _ ZU H3 (by rw[XL,List.length_singleton];exact S4);refine⟨h',tag',ov',?_,k2,k3⟩;have f0:ah T 61 (.ip [.str w.module,av]) 0=some (.ip [.str w.module,av]):=rfl;have f1:ah T 61 (.ip [.str w.module,av]) 1=some (.ip [av]):=rfl;have l0:ax T 9 (.ip [.str w.module,av])=some (.str w.module):=rfl;have l1:ax T 23 (.ip [av])=some av:=rfl;rw[FL105_0];simp -implicitDefEqProofs only[L105_0,am,ar,aB,ae,ai,Xt,Xv h1,hix];rw[ap hld,bc hok2,aj];simp -implicitDefEqProofs only[aI,f0,f1,l0,l1,ae,bm,hw1];rw[ap ((xP av h).trans e2),wF _ V2,ae,tA,ae,ap happ];exact k1
def ER{sv:AV}{st:List Vars}(Q:(Nat->Nat)->Hp->Prop)(hQ:∀ {tag tag':Nat->Nat} {h h':Hp} {ks:Nat->Prop},Kp tag tag' ks h h'->(∀k,ks k->k=9)->Q tag h->Q tag' h')(hS:∀ {tag:Nat->Nat} {h:Hp},Q tag h->gb tag 5 2 st.length (fun cs=>oC tag h 0 st cs) sv h){tag:Nat->Nat}{h:Hp}(H:Q tag h)(hn:st.length<=1000000)(hv:∀w∈st,w.values.length<=1000000):
  ∃h' tag' ov,af pg 105 [sv] h= .ok ov h'/\Q tag' h'/\gb tag' 9 2 st.length (fun cs=>vL tag' h' st cs) ov h':=by
 obtain⟨h',tag',ov,k1,k2,k3⟩:=sq Q hQ hS hn hv st [] tag h .hn rfl H (.inl ⟨rfl,.inl rfl,rfl⟩);refine⟨h',tag',ov,?_,k2,k3⟩;have hl:bp T 28 sv=some (.int .i64 st.length):=gb.len (T:=T) (t:=28) (e:=61) rfl rfl rfl (fun n'=>rfl) rfl rfl (hS H);simp_all[C105,S105]
def t56{L:MLay}{tag:Nat->Nat}{sv fv dv cv:AV}{vc:List AV}{p:Proc}{h:Hp}(H:MR L tag sv fv dv cv vc p h)(hn:p.state.length<=1000000)(hv:∀w∈p.state,w.values.length<=1000000)(e:Int)(v:Val):
  ∃h',af pg 56 [.hp L.rm 0,.int .i64 e,v.av] h= .ok (.tup []) h'/\IZ L (yp p e v) h':=by
 obtain⟨a,b,c,d,rfl⟩:∃a b c d,vc=[a,b,c,d]:=by
  have:=H.vo.len
  match vc,this with
  |[a,b,c,d],_=>grind
 obtain⟨s1,E1⟩:=H.eq.store (T:=T) (t:=4) rfl (k:=0+0+12) (x:=.bool true) rfl (by show (_:Nat)<=15;decide) ZT (row':=[mods p.mods,sv,fv,ints p.world,.int .i64 p.out.err,a,b,c,d,dv,cv,.hn,.bool true,.mp L.ri,.mp L.rf]) rfl;obtain⟨s2,E2⟩:=E1.store (T:=T) (t:=29) rfl (k:=0+0+2) (x:=.sl []) rfl ZU ZT (row':=[mods p.mods,sv,.sl [],ints p.world,.int .i64 p.out.err,a,b,c,d,dv,cv,.hn,.bool true,.mp L.ri,.mp L.rf]) rfl;have g1:=bN (T:=T) (t:=28) rfl rfl (k:=0+0+1) E2.row (v:=sv) rfl;obtain⟨h3,tag3,ov,c1,E3,S3⟩:=ER (fun tag h=>EQ L tag _ sv dv cv p h) (fun K hk H=>H.keep K hk) (fun H=>H.st) E2 hn hv;obtain⟨s4,E4⟩:=E3.store (T:=T) (t:=30) rfl (k:=0+0+4+0) (x:=.int .i64 e) rfl ZU ZT (row':=[mods p.mods,sv,.sl [],ints p.world,.int .i64 e,a,b,c,d,dv,cv,.hn,.bool true,.mp L.ri,.mp L.rf]) rfl;obtain⟨s5,E5⟩:=E4.store (T:=T) (t:=33) rfl (k:=0+0+4+1) (x:=v.av) (dW v) ZW ZT (row':=[mods p.mods,sv,.sl [],ints p.world,.int .i64 e]++aa v.av++[dv,cv,.hn,.bool true,.mp L.ri,.mp L.rf]) (by rw[bK];rfl);have hov:bR 1 ov=true/\aa ov=[ov]:=by
  rcases S3 with⟨_,rfl|rfl,_⟩|⟨r,_,_,rfl,_⟩<;>exact⟨rfl,rfl⟩
 obtain⟨s6,E6⟩:=E5.store (T:=T) (t:=28) rfl (k:=0+0+4+7) (x:=ov) hov.1 ZW ZT (row':=vV L (yp p e v) sv dv cv ov) (by
  rw[hov.2];unfold vV yp;rw[bK];rfl)
 have K:Kp tag3 tag3 (fun k=>k=0) h3 _:=Xc E3.tm [mods p.mods,sv,.sl [],ints p.world,.int .i64 e,a,b,c,d,dv,cv,.hn,.bool true,.mp L.ri,.mp L.rf];have K5:=Xc (h:=h3.set L.rm [mods p.mods,sv,.sl [],ints p.world,.int .i64 e,a,b,c,d,dv,cv,.hn,.bool true,.mp L.ri,.mp L.rf]) E4.tm ([mods p.mods,sv,.sl [],ints p.world,.int .i64 e]++aa v.av++[dv,cv,.hn,.bool true,.mp L.ri,.mp L.rf]);have K6:=Xc (h:=(h3.set L.rm [mods p.mods,sv,.sl [],ints p.world,.int .i64 e,a,b,c,d,dv,cv,.hn,.bool true,.mp L.ri,.mp L.rf]).set L.rm ([mods p.mods,sv,.sl [],ints p.world,.int .i64 e]++aa v.av++[dv,cv,.hn,.bool true,.mp L.ri,.mp L.rf])) E5.tm (vV L (yp p e v) sv dv cv ov);have S4:=S3.keep (c':=fun cs=>vL tag3 _ p.state cs) K ZS fun _ h=>h.keep K ZS;have S5:=S4.keep (c':=fun cs=>vL tag3 _ p.state cs) K5 ZS fun _ h=>h.keep K5 ZS;have S6:=S5.keep (c':=fun cs=>vL tag3 _ p.state cs) K6 ZS fun _ h=>h.keep K6 ZS;refine⟨_,?_,⟨tag3,sv,dv,cv,ov,⟨E6.row,E6.tm,E6.st,E6.ds,E6.cs⟩,S6,rfl,rfl⟩⟩;have hld:ax T 33 (.ip (aa v.av))=some v.av:=by cases v;rfl
 rw[C56,S56];simp -implicitDefEqProofs only[aJ,ae,FH82_0,FH39_5,FH39_2,FH39_1,FH39_4,FH37_0,FH37_1,FH37_4,hld];rw[ap s1,ap s2,ap g1,ap c1,ap s4,ap s5,ap s6];rfl
def B5(q n:Nat)(hn:0<n):da T 29 (.hs q 0 (n+1) 5 true) none (some (.int .i64 (n:Int))) none=some (.hs q 0 n 5 true):=by
 show (match cw (some (.int .i64 (n:Int))) (n+1) (n+1)with|none=>none|some h=>match cw none 0 h with|none=>none|some l'=>if 5=5 then(if l'<h then some (AV.hs q (0+l'*5) (h-l') 5 true)else some (AV.sl []))else none)=_;simp only[cw]
 grind
theorem t54{L:MLay}{tag:Nat->Nat}{sv fv dv cv:AV}{vc:List AV}{p:Proc}{h:Hp}(H:MR L tag sv fv dv cv vc p h){fs:List Frm}{f:Frm}(hp:p.frames=fs++[f])(hn:p.state.length<=1000000)(hv:∀w∈p.state,w.values.length<=1000000)(hfb:fs.length<1000000)(hsb:∀g∈fs,g.stack.length<1000000000)(v:Val):
  if fs=[]then ∃h',af pg 54 [.hp L.rm 0,v.av] h= .ok (.tup []) h'/\IZ L (yp p 0 v) h'
  else ∃h',af pg 54 [.hp L.rm 0,v.av] h= .ok (.tup []) h'/\vQ L { p with frames:=fs.dropLast++[{ fs[fs.length-1]! with stack:=fs[fs.length-1]!.stack++[v] }] } h':=by
 obtain⟨q,A,B,lv,stv,rfl,hAl,hA,F,hB⟩:=H.focus hp;have g1:bb T 29 (.hp L.rm (0+0+2)) h= .ok (.hs q 0 (fs.length+1) 5 true) h:=H.get (T:=T) (t:=29) rfl rfl rfl;have hl:bp T 29 (.hs q 0 (fs.length+1) 5 true)=some (.int .i64 ((fs.length+1:Nat):Int)):=rfl;have hld:ax T 33 (.ip (aa v.av))=some v.av:=by cases v;rfl
 generalize hc:af pg 54 [.hp L.rm 0,v.av] h=code;rw[C54,S54]at hc;simp -implicitDefEqProofs only[aJ,ae,FH82_0,FH39_2,hld]at hc;rw[ap g1]at hc;simp -implicitDefEqProofs only[hl,ae,aH,ai]at hc;by_cases h0:fs=[]
 ·subst h0;rw[Xv rfl];rw[Xv (by rfl)]at hc;obtain⟨h',e1,e2⟩:=t56 H hn hv 0 v;rw[ap e1]at hc;exact⟨h',hc.symm,e2⟩
 ·rw[Xr h0];have hpos:0<fs.length:=Yp.2 h0;rw[Xr ZU,ap g1,ap g1]at hc;have hs:cF T .sub 3 (.int .i64 ((fs.length+1:Nat):Int)) (.int .i64 1)=some (.int .i64 (fs.length:Int)):=by
   have:=tz (fs.length+1) 1 ZS ZS
   rw[show (((fs.length+1:Nat):Int)-((1:Nat):Int))=(fs.length:Int) by omega]at this;exact this
  simp -implicitDefEqProofs only[hl,hs,B5 q fs.length hpos,ae]at hc;obtain⟨gs,g,hgs⟩:∃gs g,fs=gs++[g]:=⟨fs.dropLast,fs.getLast h0,(Y6 h0).symm⟩;have K0:Kp tag tag (fun _=>False) h h:=fun r cs hr _=>⟨hr,rfl⟩;obtain⟨m1,R1⟩:=H.mk2 (p':={ p with frames:=fs }) (sv':=sv) (fv':=.hs q 0 fs.length 5 true) (dv':=dv) (cv':=cv) (vc':=vc) K0 id id H.st
   (.inr ⟨q,A,iQ f lv stv++B,rfl,F.tq,by rw[<- Ye];exact F.row,by simp[iQ],hAl,by
    rw[YY,YY,hA.ok,hB];simp only[iQ,XP,Zq,F.lo.okC,F.st.okC];rfl,hA⟩) H.ds H.cs H.vo H.so
  have s1:bS T 29 (.hp L.rm (0+0+2)) (.hs q 0 fs.length 5 true) h= .ok (.tup []) (h.set L.rm (fG L p sv (.hs q 0 fs.length 5 true) dv cv vc)):=by
   rw[bT (T:=T) (t:=29) rfl m1 rfl (by rw[l8 H.vo.len];decide) ZT];rfl
  rw[ap s1]at hc;have R1':MR L tag sv (.hs q 0 fs.length 5 true) dv cv vc { p with frames:=fs } (h.set L.rm (fG L p sv (.hs q 0 fs.length 5 true) dv cv vc)):=R1;obtain⟨q2,A2,B2,lv2,stv2,e2,hAl2,hA2,F2,hB2⟩:=R1'.focus (fs:=gs) (f:=g) hgs;have hq:q2=q:=by injection e2 with e;exact e.symm
  subst hq;rw[show fs.length=gs.length+1 by rw[hgs];simp]at R1' hc;have t1:=t53 R1' ZU;rw[ap t1]at hc;rw[show fs.length=gs.length+1 by rw[hgs];simp]at F2 hA2;obtain⟨h3,tag3,sv3,p1,p2,p3⟩:=t109 F2 v (hsb g (by rw[hgs];simp));rw[hAl2]at p1;rw[ap p1]at hc;have R3:=R1'.unfocus hA2 (p3.mono fun k hk=>ZU) p2 hB2;have el:fs[fs.length-1]! = g:=by rw[hgs];simp
  have ed:fs.dropLast=gs:=by rw[hgs];simp
  rw[el,ed];exact⟨h3,hc.symm,⟨tag3,_,_,_,_,_,R3⟩⟩
theorem JI(x:Fnc):pj T 77 x.av 2=some x.cod.av:=rfl
theorem JH(c:Cod):pj T 75 c.av 3=some (nG c.code):=rfl
def JD{p:Proc}{fs:List Frm}{f:Frm}{i:Ins}{e:Int}(h:mW p fs f i= .error e):e≠0:=by
 unfold mW at h;simp only at h;by_cases h0:i.op=0
 ·grind
 rw[Xr h0]at h;by_cases h1:i.op=1
 ·grind
 rw[Xr h1]at h;by_cases h2:i.op=2
 ·grind
 rw[Xr h2]at h;by_cases h3:i.op=3
 ·grind
 rw[Xr h3]at h;by_cases h19:i.op=19
 ·grind
 rw[Xr h19]at h;by_cases h10:i.op=10
 all_goals grind
theorem t27{L:MLay}{tag:Nat->Nat}{sv fv dv cv:AV}{vc:List AV}{p:Proc}{h:Hp}(H:MR L tag sv fv dv cv vc p h)(M:MapOk T 79 80 L p.mods){fs:List Frm}{f:Frm}(hp:p.frames=fs++[f]){x:Fnc}(hx:fj p.mods f.mod f.fn=some x){k:Nat}(hpc:f.pc=(k:Int))(hk:k<x.cod.code.length)(hkb:x.cod.code.length<=1000000)(hn:p.state.length<=1000000)(hv:∀w∈p.state,w.values.length<=1000000)(hfb:fs.length<1000000)(hsb:∀g∈fs,g.stack.length<1000000000)(hb:f.stack.length<1000000000)(hret:x.cod.code[k]!.op=18->1<=f.stack.length)(C:x.cod.code[k]!.op≠18->StepOk { p with frames:=fs++[{ f with pc:=f.pc+1 }] } { f with pc:=f.pc+1 } x.cod.code[k]!):
  ∃h',af pg 27 [.hp L.rm 0] h= .ok (.tup []) h'/\(vQ L (vw p fs f) h'\/IZ L (vw p fs f) h'):=by
 obtain⟨q,A,B,lv,stv,rfl,hAl,hA,F,hB⟩:=H.focus hp;have e1:=t53 H hfb;rw[<- hAl]at e1;have g1:bb T 80 (.hp L.rm (0+14)) h= .ok (.mp L.rf) h:=H.get (T:=T) (t:=80) rfl rfl (ol H.vo.len 5);have g2:bb T 9 (.hp q (A.length+0)) h= .ok (.str f.mod) h:=F.get (T:=T) (t:=9) rfl rfl (k:=0) rfl;have g3:bb T 9 (.hp q (A.length+1)) h= .ok (.str f.fn) h:=F.get (T:=T) (t:=9) rfl rfl (k:=1) rfl;have g4:bb T 3 (.hp q (A.length+2)) h= .ok (.int .i64 (k:Int)) h:=by rw[<- hpc];exact F.get (T:=T) (t:=3) rfl rfl (k:=2) rfl
 have g5:=M.fn1 h H.rf f.mod f.fn x hx;have hw:IntKind.i64.wrap ((k:Int)+1)=f.pc+1:=by rw[hpc,aM ZS ZS]
 obtain⟨h2,s1,F2,K2⟩:=CK F (f.pc+1);have hA2:=hA.keep K2 fun j _ _=>ZU
 have R2:=H.unfocus hA (K2.mono fun k hk=>.inl hk) F2 hB;have hi:((fj p.mods f.mod f.fn).map fun x=>x.cod.code[f.pc.toNat]!).getD default=x.cod.code[k]!:=by
  rw[hx,hpc];rfl
 have hix:=RH hk;unfold vw;simp only[hi];generalize x.cod.code[k]! = i at hix C hret |-;generalize hc:af pg 27 [.hp L.rm 0] h=code;rw[C27,S27,ap e1]at hc;simp -implicitDefEqProofs only[aJ,ae,FH82_2,FH46_0,FH46_1,FH46_2]at hc;rw[ap g1,ap g2,ap g3,wE,ae,ap g5,JI,ae,JH,ae,ap g4,hix,ae,Ga,ae,Tb,aj,ap g4,bm,hw,ae,ap s1,fJ0,ae,vZ,ae,aH,ae,ai]at hc;by_cases h18:i.op=18
 ·rw[Xv h18];rw[Xv (by simp[h18])]at hc;have h1:=hret h18;obtain⟨r,rest,rfl,hr,hcs,_⟩:=oi F2.st (show 0<f.stack.length by omega);have gs:bb T 23 (.hp q (A.length+4)) h2= .ok (.hs r 0 f.stack.length 4 true) h2:=F2.get (T:=T) (t:=23) rfl rfl (k:=4) rfl;have hls:bp T 23 (.hs r 0 f.stack.length 4 true)=some (.int .i64 f.stack.length):=rfl;have hsub:cF T .sub 3 (.int .i64 (f.stack.length:Int)) (.int .i64 1)=some (.int .i64 ((f.stack.length-1:Nat):Int)):=by
   have:=tz f.stack.length 1 ZS ZS
   rw[show ((f.stack.length:Int)-((1:Nat):Int))=((f.stack.length-1:Nat):Int) by omega]at this;exact this
  have ix2:=RJ r f.stack.length ((f.stack.length-1:Nat):Int) ZS ZS;have lv2:bb T 33 (.hp r (0+(((f.stack.length-1:Nat):Int)).toNat*4)) h2= .ok (f.stack[f.stack.length-1]!).av h2:=by
   rw[XI,XC,nJ (T:=T) (t:=33) rfl rfl rfl hcs (show f.stack.length-1<f.stack.length by omega),Xx f.stack _ ZS]
  simp -implicitDefEqProofs only[aJ,ae,FH46_4]at hc;rw[ap gs,ap gs,hls,ae,hsub,ae,ix2,ae,ap lv2]at hc;have k:=t54 R2 (fs:=fs) (f:={ f with pc:=f.pc+1 }) rfl hn hv hfb hsb f.stack[f.stack.length-1]!;by_cases h0:fs=[]
  ·rw[Xv h0]at k |-;obtain⟨h',k1,k2⟩:=k;rw[ap k1]at hc;exact⟨h',hc.symm,.inr k2⟩
  ·rw[Xr h0]at k |-;obtain⟨h',k1,k2⟩:=k;rw[ap k1]at hc;exact⟨h',hc.symm,.inl k2⟩
 ·rw[Xr h18];rw[Xr (by simp[h18]),Ga,ae]at hc;have k:=t55 R2 M (f:={ f with pc:=f.pc+1 }) rfl hA2 F2 hB i (C h18);rw[show mW { p with frames:=fs++[{ f with pc:=f.pc+1 }] } fs { f with pc:=f.pc+1 } i=mW p fs { f with pc:=f.pc+1 } i from rfl]at k;cases hd:mW p fs { f with pc:=f.pc+1 } i with
  |ok p'=>
   rw[hd]at k;obtain⟨h',k1,k2⟩:=k;rw[ap k1,fY,ae,ai,Xr ZT]at hc;exact⟨h',hc.symm,.inl k2⟩
  |error e=>
   rw[hd]at k;obtain⟨h',k1,tag',sv',fv',dv',cv',vc',R'⟩:=k;have hne:=JD hd;have hz:cG T false 33 []=some (default:Val).av:=rfl;rw[ap k1,fY,ae,ai,Xv (by simp[hne]),hz,ae]at hc;obtain⟨h'',m1,m2⟩:=t56 R' hn hv e default;rw[ap m1]at hc;exact⟨h'',hc.symm,.inr m2⟩
theorem qD:∀l:List Val,(∀v∈l,Rv v)->db l<=l.length*200000
 |[],_=>by simp[db]
 |v:: l,h=>by
  have h1:=nS (h v List.mem_cons_self);have h2:=qD l fun w hw=>h w (YS _ hw)
  grind [db]
theorem sD{v:Val}(h:Rv v):v.names.length=v.values.length:=by
 unfold Rv cP at h
 grind
def FV{p:Proc}(H:RightP p)(P:PBd p.mods){k:Nat}(S:SzP k p)(hk:k<1000000){fs:List Frm}{f:Frm}{x:Fnc}(T:TopOk p.mods f x)(h18:x.cod.code[f.pc.toNat]!.op≠18):
  StepOk { p with frames:=fs++[{ f with pc:=f.pc+1 }] } { f with pc:=f.pc+1 } x.cod.code[f.pc.toNat]!:=by
 have I:=T.ins;have hst:=xH P T;have hl:=T.loc.1;obtain⟨i,hi⟩:∃i,x.cod.code[f.pc.toNat]! = i:=⟨_,rfl⟩;rw[hi]at I h18 |-;have hform:=I.form;have hneed:=I.need;refine⟨hst,Zc S.deeds hk,Zc S.calls hk,?_,?_,?_,?_,?_,?_,?_,?_⟩
 ·grind [bH]
 ·grind [aG]
 ·grind [aG]
 ·intro h;show i.names.length<=f.stack.length/\(Val.mk 2 0 i.names (f.stack.drop (f.stack.length-i.names.length))).sz<=1099511627776;have hn:(aG i).1=i.names.length:=by simp[aG,h]
  have h8:=(gt hform).2.1;have hv:=qD (f.stack.drop (f.stack.length-i.names.length)) fun v hv=>T.stk.2 v (YT hv);rw[ZL]at hv;refine⟨ZS,?_⟩;show 1+i.names.length+db _<=_
  grind
 ·intro h;have hn:(aG i).1=i.a:=by simp[aG,h]
  have:=(gt hform).1
  refine⟨⟨ZS,?_⟩,fun s x hx=>(P.code s i.s x hx).2⟩
  grind
 ·intro h;have F:=kN T.fnc;obtain⟨b1,b2,b3⟩:=jp H.st;have hlt:(cV p.mods f.mod).toNat<p.state.length:=by rw[b1];exact F.lt
  refine⟨by have:=F.ge;grind,?_,p.state[(cV p.mods f.mod).toNat],XE hlt,?_⟩
  ·grind [bH]
  ·have:=(iv P H.st).2 _ (XG hlt)
   omega
 ·show f.stack[f.stack.length-1]!.names.length=f.stack[f.stack.length-1]!.values.length/\_;have hr:Rv f.stack[f.stack.length-1]!:=by
   by_cases h0:0<f.stack.length
   ·exact T.stk.2 _ (mI ZS)
   ·grind [pC]
  grind [sD,pB]
 grind [bH,wz]
def IG{L:MLay}{p:Proc}{h:Hp}(R:vQ L p h)(M:MapOk T 79 80 L p.mods)(H:RightP p)(he:p.ended=false)(P:PBd p.mods){k:Nat}(S:SzP k p)(hk:k<1000000):
  ∃h',af pg 27 [.hp L.rm 0] h= .ok (.tup []) h'/\(vQ L (bZ p) h'\/IZ L (bZ p) h'):=by
 obtain⟨fs,f,x,hp,hc,T⟩:=kD H he;obtain⟨tag,sv,fv,dv,cv,vc,R⟩:=R;have hst:=iv P H.st;have hpc:f.pc=(f.pc.toNat:Int):=by have:=T.pc;omega
 have hfr:=kz H P;have hlen:=H.len;rw[hp]at hfr hlen;simp only[XL,List.length_singleton]at hlen
 have:=t27 R M hp T.fnc hpc (by have:=T.pc;omega) (P.code _ _ _ T.fnc).1 hst.1 (fun w hw=>(hst.2 w hw).1) ZS (fun g hg=>ZU) ZU (fun h18=>by rw[T.ins.ret h18];grind) (fun h18=>FV H P S hk T h18)
 rw[vu hp];exact this
theorem qd{st:List Vars}(g:Nat->Nat)(kO:Nat)(hg:∀j,g j≠kO)(Q:(Nat->Nat)->Hp->Prop)(hQ:∀ {tag tag':Nat->Nat} {h h':Hp} {ks:Nat->Prop},Kp tag tag' ks h h'->(∀k,ks k->k=kO)->Q tag h->Q tag' h')(hn:st.length<=1000000)(hv:∀w∈st,w.values.length<=1000000):∀(B A:List Vars)(tag:Nat->Nat)(h:Hp)(ov:AV),A++B=st->Q tag h->gb tag kO 2 A.length (fun cs=>GR g tag h 0 A cs) ov h->(A=[]->ov= .hn)->
  ∃h' tag' ov',ak (L105_0 (af pg) ak) [ov,aN st,.int .i64 st.length,.int .i64 A.length] h= .ok ov' h'/\Q tag' h'/\gb tag' kO 2 st.length (fun cs=>GR g tag' h' 0 st cs) ov' h'/\(st=[]->ov'= .hn)
 |[],A,tag,h,ov,e,H,S,hz=>by
  rw[XS]at e;subst e;have h1:¬((A.length:Int)<(A.length:Int)):=ZS
  refine⟨h,tag,ov,?_,H,S,hz⟩;rw[FL105_0];simp -implicitDefEqProofs only[L105_0,am,ar,aB,ae,ai,Xt,Xr h1];rfl
 | w:: B,A,tag,h,ov,e,H,S,_=>by
  have hlen:A.length+(B.length+1)=st.length:=by rw[<- e];simp
  have h1:(A.length:Int)<(st.length:Int):=ZS
  have hw:st[A.length]? = some w:=by rw[<- e];simp
  have hwm:w∈st:=X8 hw;have hix:aA T 28 (aN st) (.int .i64 (A.length:Int))=some (.ip (aa w.av)):=by
   have:=br (T:=T) (t:=28) (e:=61) (f:=Vars.av) (l:=st) (n:=(A.length:Int)) rfl rfl rfl (fun _=>rfl) ZS h1
   rw[XC,Xx st A.length ZS]at this;rw[(XA.1 hw).2]at this;exact this
  have hld:bb T 61 (.ip (aa w.av)) h= .ok w.av h:=rfl;have hok2:bR 2 w.av=true:=rfl;obtain⟨h2,tag2,rv,e2,K2,V2⟩:=my (T:=T) (t:=23) (e:=33) rfl rfl rfl rfl rfl ZT (af pg) tag h w.values (XM (XB _ (hv w hwm)) ZT) (g A.length);have H2:=hQ K2 (fun k hk=>hk.elim) H;have S2:gb tag2 kO 2 A.length (fun cs=>GR g tag2 h2 0 A cs) ov h2:=S.keep K2 id fun _ h=>h.keep K2 fun _=>id;obtain⟨cs3,tag3,hP,hl3,happ,K3,_,S3⟩:=gb.push (T:=T) (t:=28) (e:=61) rfl rfl rfl rfl ZT rfl ZT S2 (x:=.agg [.str w.module,rv]) (by
   show (_&&(ay (.str w.module)&&(ay rv&&true)))=true;rw[V2.okC];rfl) (XM (XB _ (show A.length+1<=10000000 by omega)) ZT)
  have H3:=hQ K3 (fun k hk=>hk) H2;have S4:=S3.mono (c':=fun cs=>GR g tag3 _ 0 (A++[w]) cs) fun cs' h=>by rw[h];exact (hP.keep K3 hg).snoc (by rw[XI];exact V2.keep K3 (hg _))
  have hw1:IntKind.i64.wrap ((A.length:Int)+1)=((A++[w]).length:Nat):=by rw[aM ZS ZS];simp
  obtain⟨h',tag',ov',k1,k2,k3,k4⟩:=qd g kO hg Q hQ hn hv B (A++[w]) tag3 _ _ ZU H3 (by rw[XL,List.length_singleton];exact S4) ZV;refine⟨h',tag',ov',?_,k2,k3,k4⟩;have f0:ah T 61 (.ip [.str w.module,vals w.values]) 0=some (.ip [.str w.module,vals w.values]):=rfl;have f1:ah T 61 (.ip [.str w.module,vals w.values]) 1=some (.ip [vals w.values]):=rfl;have l0:ax T 9 (.ip [.str w.module,vals w.values])=some (.str w.module):=rfl;have l1:ax T 23 (.ip [vals w.values])=some (vals w.values):=rfl;have ea:aa w.av=[.str w.module,vals w.values]:=rfl;rw[FL105_0];simp -implicitDefEqProofs only[L105_0,am,ar,aB,ae,ai,Xt,Xv h1,hix];rw[ap hld,bc hok2,aj];simp -implicitDefEqProofs only[aI,ea,f0,f1,l0,l1,ae,bm,hw1];rw[ap ((xP (vals w.values) h).trans e2),wF _ V2,ae,tA,ae,ap happ];exact k1
theorem Dq{st:List Vars}(g:Nat->Nat)(kO:Nat)(hg:∀j,g j≠kO)(Q:(Nat->Nat)->Hp->Prop)(hQ:∀ {tag tag':Nat->Nat} {h h':Hp} {ks:Nat->Prop},Kp tag tag' ks h h'->(∀k,ks k->k=kO)->Q tag h->Q tag' h'){tag:Nat->Nat}{h:Hp}(H:Q tag h)(hn:st.length<=1000000)(hv:∀w∈st,w.values.length<=1000000):
  ∃h' tag' ov,af pg 105 [aN st] h= .ok ov h'/\Q tag' h'/\gb tag' kO 2 st.length (fun cs=>GR g tag' h' 0 st cs) ov h'/\(st=[]->ov= .hn):=by
 obtain⟨h',tag',ov,k1,k2,k3,k4⟩:=qd g kO hg Q hQ hn hv st [] tag h .hn rfl H (.inl ⟨rfl,.inl rfl,rfl⟩) (fun _=>rfl);refine⟨h',tag',ov,?_,k2,k3,k4⟩;have hl:bp T 28 (aN st)=some (.int .i64 st.length):=by
  have h:bp T 28 (aN st)=some (.int .i64 (st.map Vars.av).length):=rfl;rw[h,Yy]
 simp_all[C105,S105]
def bh:List Mod->Nat->List AV
 |[],_=>[]
 |m:: l,i=>.tup [.str m.name,.int .i64 (i:Int)]:: bh l (i+1)
theorem uo:∀(A B:List Mod)(i:Nat),bh (A++B) i=bh A i++bh B (i+A.length)
 |[],B,i=>rfl
 |m:: A,B,i=>by
  show _:: bh (A++B) (i+1)=_;rw[uo A B (i+1),show i+1+A.length=i+(m:: A).length by simp;omega];rfl
theorem M9(a b:aW):qR T 20 9 (.str a) (.str b)=some (a== b):=rfl
theorem pT(s:aW):∀(l:List Mod)(i j:Nat),((l.any fun m=>m.name== s)=false/\eO T 9 (.str s) (bh l i) j=some none)\/((l.any fun m=>m.name== s)=true/\∃(a:Nat)(k:AV),eO T 9 (.str s) (bh l i) j=some (some (a,k,.int .i64 (aY (fun m:Mod=>m.name== s) l (i:Int)))))
 |[],i,j=>.inl ⟨rfl,rfl⟩
 | m:: l,i,j=>by
  show (_/\eO T 9 (.str s) (.tup [.str m.name,.int .i64 (i:Int)]:: bh l (i+1)) j=_)\/(_/\∃(a:Nat)(k:AV),eO T 9 (.str s) (.tup [.str m.name,.int .i64 (i:Int)]:: bh l (i+1)) j=_);unfold eO;rw[M9,List.any_cons];have hc:(s== m.name)=(m.name== s):=YD.2 ⟨fun h=>Yd.2 (Yd.1 h).symm,fun h=>Yd.2 (Yd.1 h).symm⟩;rw[hc];cases hx:m.name== s with
  |true=>exact .inr ⟨rfl,j,.str m.name,by simp[aY,hx]⟩
  |false=>
   have e:aY (fun m:Mod=>m.name== s) (m:: l) (i:Int)=aY (fun m:Mod=>m.name== s) l ((i+1:Nat):Int):=by simp[aY,hx]
   rw[e];exact pT s l (i+1) (j+1)
theorem HH{h:Hp}{r:Nat}{p:List Mod}(hr:h[r]? = some [.tup (bh p 0)])(s:aW)(h0:0<=cV p s):ec T 79 (.mp r) (.str s) false h= .ok (.int .i64 (cV p s)) h:=by
 have e:oP T 79 (bh p 0) (.str s) false=(match eO T 9 (.str s) (bh p 0) 0 with
   |some (some (_,_,v))=>some v
   |some none=>some (.int .i64 0)
   |none=>none):=rfl
 unfold ec mX;simp only[hr];rw[e];rcases pT s p 0 0 with⟨h1,h2⟩|⟨h1,j,k,h2⟩
 ·have:=(ul (fun m:Mod=>m.name== s) p 0 ZS).1 h0
  grind
 ·rw[h2];rfl
theorem Ft{h:Hp}{r:Nat}{p:List Mod}(hr:h[r]? = some [.tup (bh p 0)])(s:aW):∃v,ec T 79 (.mp r) (.str s) true h= .ok (.tup [v,.bool (p.any fun m=>m.name== s)]) h:=by
 have e:oP T 79 (bh p 0) (.str s) true=(match eO T 9 (.str s) (bh p 0) 0 with
   |some (some (_,_,v))=>some (.tup [v,.bool true])
   |some none=>some (.tup [.int .i64 0,.bool false])
   |none=>none):=rfl
 grind [ec,mX,pT]
theorem Ki{h:Hp}{r:Nat}{p:List Mod}(hr:h[r]? = some [.tup (bh p 0)])(m:Mod)(hn:(p.any fun x=>x.name== m.name)=false):oG T 79 (.mp r) (.str m.name) (.int .i64 (p.length:Int)) h= .ok (.tup []) (h.set r [.tup (bh (p++[m]) 0)]):=by
 have e:oG T 79 (.mp r) (.str m.name) (.int .i64 (p.length:Int)) h=(match h[r]? with
   |some [.tup es]=>(match we T 9 es (.str m.name) (.int .i64 (p.length:Int))with
    |some es'=>.ok (.tup []) (h.set r [.tup es'])
    |none=>.fail)
   |_=>.fail):=rfl
 grind [we,pT,uo,bh]
def cd(l:List Gd):List AV:=l.map fun e=>.tup [.agg [.str e.1,.str e.2.1],e.2.2.av]
theorem Dv(a b c d:aW):qR T 20 84 (.agg [.str a,.str b]) (.agg [.str c,.str d])=some (a== c&&b== d):=by
 have e2:qR T 17 9 (.str b) (.str d)=some (b== d):=rfl;have e1:qR T 18 9 (.str a) (.str c)=some (a== c):=rfl;have e:qR T 20 84 (.agg [.str a,.str b]) (.agg [.str c,.str d])=(match qR T 18 9 (.str a) (.str c)with
   |some true=>(match qR T 17 9 (.str b) (.str d)with
    |some true=>some true
    |some false=>some false
    |none=>none)
   |some false=>some false
   |none=>none):=rfl
 grind
theorem sY(s t:aW):∀(l:List Gd)(j:Nat),(l.find? (lg s t)=none/\eO T 84 (.agg [.str s,.str t]) (cd l) j=some none)\/∃(e:Gd)(a:Nat)(k:AV),l.find? (lg s t)=some e/\eO T 84 (.agg [.str s,.str t]) (cd l) j=some (some (a,k,e.2.2.av))
 |[],j=>.inl ⟨rfl,rfl⟩
 | e:: l,j=>by
  show (_/\eO T 84 (.agg [.str s,.str t]) (.tup [.agg [.str e.1,.str e.2.1],e.2.2.av]:: cd l) j=_)\/∃(e':Gd)(a:Nat)(k:AV),_/\eO T 84 (.agg [.str s,.str t]) (.tup [.agg [.str e.1,.str e.2.1],e.2.2.av]:: cd l) j=_;unfold eO;rw[Dv,ZQ];have hc:(s== e.1&&t== e.2.1)=lg s t e:=by
   unfold lg;rw[YD];simp only[Xu,Yd];exact⟨fun h=>⟨h.1.symm,h.2.symm⟩,fun h=>⟨h.1.symm,h.2.symm⟩⟩
  rw[hc];cases hx:lg s t e with
  |true=>grind
  |false=>exact sY s t l (j+1)
theorem JY{h:Hp}{r:Nat}{l:List Gd}(hr:h[r]? = some [.tup (cd l)])(s t:aW){o:Option Fnc}(ho:l.find? (lg s t)=o.map fun x=>(s,t,x)):ec T 80 (.mp r) (.agg [.str s,.str t]) true h= .ok (.tup [kM o,.bool o.isSome]) h:=by
 have e:oP T 80 (cd l) (.agg [.str s,.str t]) true=(match eO T 84 (.agg [.str s,.str t]) (cd l) 0 with
   |some (some (_,_,v))=>some (.tup [v,.bool true])
   |some none=>some (.tup [kM none,.bool false])
   |none=>none):=rfl
 unfold ec mX;simp only[hr];rw[e];rcases sY s t l 0 with⟨h1,h2⟩|⟨x,j,k,h1,h2⟩
 ·rw[h2];cases o with
  |none=>rfl
  |some y=>grind
 ·rw[h2];cases o with
  |none=>grind
  |some y=>
   rw[h1]at ho
   have:=X9 ho
   rw[this];rfl
theorem HG{h:Hp}{r:Nat}{l:List Gd}(hr:h[r]? = some [.tup (cd l)])(s t:aW){x:Fnc}(ho:l.find? (lg s t)=some (s,t,x)):ec T 80 (.mp r) (.agg [.str s,.str t]) false h= .ok x.av h:=by
 have e:oP T 80 (cd l) (.agg [.str s,.str t]) false=(match eO T 84 (.agg [.str s,.str t]) (cd l) 0 with
   |some (some (_,_,v))=>some v
   |some none=>some (kM none)
   |none=>none):=rfl
 grind [ec,mX,sY]
theorem N0{h:Hp}{r:Nat}{l:List Gd}(hr:h[r]? = some [.tup (cd l)])(s t:aW)(x:Fnc)(hn:l.find? (lg s t)=none):oG T 80 (.mp r) (.agg [.str s,.str t]) x.av h= .ok (.tup []) (h.set r [.tup (cd (l++[(s,t,x)]))]):=by
 have e:oG T 80 (.mp r) (.agg [.str s,.str t]) x.av h=(match h[r]? with
   |some [.tup es]=>(match we T 84 es (.agg [.str s,.str t]) x.av with
    |some es'=>.ok (.tup []) (h.set r [.tup es'])
    |none=>.fail)
   |_=>.fail):=rfl
 grind [we,sY,cd]
def map_ok{L:MLay}{p:List Mod}(hi:L.ci=[.tup (bh p 0)])(hf:L.cf=[.tup (cd (aV 0 p))])(hn:(p.map (·.name)).Nodup)(hh:DJ p):MapOk T 79 80 L p where
 idx h hr s h0:=HH (by rw[hr,hi]) s h0
 fn h hr s t:=JY (by rw[hr,hf]) s t (wW s t hn hh)
 fn1 h hr s t x hx:=HG (by rw[hr,hf]) s t (by rw[wW s t hn hh,hx];rfl)
theorem Gp(l:List aW)(i k:Nat)(hk:k=i+1)(h:k<l.length):asc (l.drop i)=(bU (l[i]'(ZS)) l[k]&&asc (l.drop k)):=by
 subst hk;have e1:l.drop i=l[i]:: l.drop (i+1):=List.drop_eq_getElem_cons ZS;have e2:l.drop (i+1)=l[i+1]:: l.drop (i+2):=List.drop_eq_getElem_cons h;rw[e1,e2];rfl
def J2(call)(l:List aW)(hb:l.length<=4611686018427387904):∀(n:Nat)(i:Int),l.length-i.toNat=n->1<=i->ak (L162_0 call ak) [strs l,.int .i64 i]=ao (.bool (asc (l.drop (i.toNat-1)))):=by
 intro n
 induction n with
 | zero=>
  intro i hn hi;rw[FL162_0];simp only[L162_0];have h1:¬(i<(l.length:Int)):=ZS
  have h2:asc (l.drop (i.toNat-1))=true:=by
   have:(l.drop (i.toNat-1)).length<=1:=by simp;omega
   match hq:l.drop (i.toNat-1),this with
   |[],_=>rfl
   |[x],_=>rfl
   |x:: y:: r,h=>simp at h
  simp[h1,h2]
 |succ n ih=>
  intro i hn hi;have h1:i<(l.length:Int):=ZS
  rw[FL162_0];simp only[L162_0];simp (disch:=omega) [h1,aM,pI]
  grind [Gp]
def t162(l:List aW)(hb:l.length<=4611686018427387904):af pg 162 [strs l]=ao (.bool (asc l)):=by
 rw[C162];simp[S162,J2 (af pg) l hb (l.length-1) 1 rfl ZS]
def JZ(f:AV)(F:Val->Bool)(l:List Val)(hb:l.length<=4611686018427387904)(hf:∀x∈l,cU (af pg) f [Val.av x]=ao (.bool (F x))):∀(n:Nat)(i:Int),l.length-i.toNat=n->0<=i->i<=l.length->
  ak (L103_0 (af pg) ak) [vals l,f,.int .i64 l.length,.int .i64 i]=ao (.int .i64 (aY F (l.drop i.toNat) i)):=by
 intro n
 induction n with
 |zero=>
  intro i hn hi hl;rw[FL103_0];simp only[L103_0];have h1:¬(i<(l.length:Int)):=ZS
  have h2:l.drop i.toNat=[]:=List.drop_eq_nil_of_le ZS;simp[h1,h2,aY]
 |succ n ih=>
  intro i hn hi hl;have h1:i<(l.length:Int):=ZS
  have hlt:i.toNat<l.length:=ZS
  have h2:aY F (l.drop i.toNat) i=if F l[i.toNat]=true then i else aY F (l.drop (i.toNat+1)) (i+1):=by rw[List.drop_eq_getElem_cons hlt];rfl
  have h3:=hf l[i.toNat] (XG hlt);have h4:=ih (i+1) ZS ZS ZS;rw[show (i+1).toNat=i.toNat+1 by omega]at h4;rw[FL103_0];simp only[L103_0];simp (disch:=omega) [h1,aM,qG,h3,h2];simp_all
def t103(f:AV)(F:Val->Bool)(l:List Val)(hb:l.length<=4611686018427387904)(hc:∀g,cl g f=f)(hf:∀x∈l,cU (af pg) f [Val.av x]=ao (.bool (F x))):af pg 103 [vals l,f]=ao (.int .i64 (aY F l 0)):=by
 rw[C103];simp[S103,hc,JZ f F l hb hf l.length 0 rfl ZS ZS]
def t46(f:AV)(F:Val->Bool)(l:List Val)(hb:l.length<=4611686018427387904)(hc:∀g,cl g f=f)(hf:∀x∈l,cU (af pg) f [Val.av x]=ao (.bool (F x))):af pg 46 [vals l,f]=ao (.bool (l.any F)):=by
 rw[C46];simp[S46,hc,t103 f F l hb hc hf,xa]
theorem t104:∀(d:Nat),d<=4->∀(v:Val),v.sz<=4611686018427387904->af pg 104 [v.av,.int .i64 d]=ao (.bool (cP d v))
 |0,_,v,_=>by
  rw[C104];simp[S104,cP]
 | d+1,hd,v,hv=>by
  have ih:=t104 d ZS;have h1:=t162 v.names (XM v.sz_names hv);have hf:∀x∈v.values,cU (af pg) (.fn (.func 163) [] [.ip [.int .i64 ((d:Int)+1)]]) [x.av]=ao (.bool !(cP d x)):=by
   intro x hx;have hsz:=Xd hx
   have:=ih x ZS
   show af pg 163 [x.av,.ip [.int .i64 ((d:Int)+1)]]=_;rw[C163];simp (disch:=omega) [S163,cl,fp,aM,this,show (d:Int)+1-1=d by omega]
  have h2:=t46 (.fn (.func 163) [] [.ip [.int .i64 ((d:Int)+1)]]) (fun x=>!(cP d x)) v.values (by have:=v.sz_len;omega) (fun g=>rfl) hf;have h0:¬((d:Int)+1=0):=ZS
  rw[C104];simp[S104,cP,h0,h1,h2];have hall:(!v.values.any fun x=>!cP d x)=v.values.all (cP d):=by simp[List.not_any_eq_all_not]
  rw[hall];split
  ·rfl
  ·congr 2
   grind
mutual
def fE:Val->Val->Bool
 |.mk k n ns vs,.mk k' n' ns' vs'=>k== k'&&n== n'&&ns== ns'&&rC vs vs'
def rC:List Val->List Val->Bool
 |[],[]=>true
 |v:: vs,w:: ws=>fE v w&&rC vs ws
 |_,_=>false
end
theorem nT:(a b:List Val)->rC a b=iV fE a b
 |[],[]=>rfl
 |[],_:: _=>rfl
 |_:: _,[]=>rfl
 |v:: a,w:: b=>by simp only[rC,iV,nT a b]
def Is(v w:Val):fE v w=(v.kind== w.kind&&v.n== w.n&&v.names== w.names&&iV fE v.values w.values):=by
 cases v;cases w;grind [fE,nT,Val.kind,Val.n,Val.names,Val.values]
def t48(v:Val)(hv:v.sz<=4611686018427387904):af pg 48 [v.av]=ao (.bool (cP 4 v)):=by
 rw[C48]
 have:=t104 4 ZS v hv
 simp at this;simp[S48,this]
def t47(v:Val)(hv:v.sz<=4611686018427387904):af pg 47 [v.av]=ao (.bool (!cP 4 v)):=by
 have hld:ax T 33 (.ip (aa v.av))=some v.av:=by cases v;rfl
 simp_all[C47,S47,t48]
def t22(l:List Val)(n:Int)(hb:l.length<=4611686018427387904)(hv:∀v∈l,v.sz<=4611686018427387904):af pg 22 [vals l,.int .i64 n]=ao (.bool (fu l n)):=by
 have ha:=t46 (.fn (.func 47) [] []) (fun v=>!cP 4 v) l hb (fun g=>rfl) (fun v hm=>by
  show af pg 47 ([]++[v.av]++[])=_;exact t47 v (hv v hm))
 have hl:bp T 23 (vals l)=some (.int .i64 l.length):=nf _;rw[C22,show cl aF (vals l)=vals l by simp,show cl aF (.int .i64 n)= .int .i64 n from rfl];simp -implicitDefEqProofs only[S22,hl,ae,aH,ha,aj,bi,aE,am,bg];rw[show fu l n=(((l.length:Int)== n)&&!(l.any fun v=>!cP 4 v)) by
  grind [fu]]
 simp_all
def DN{p:List Mod}{k:Nat}(h:k<p.length):aA T 22 (mods p) (.int .i64 (k:Int))=some (.ip (aa (p[k]!).av)):=by
 have:=br (T:=T) (t:=22) (e:=55) (f:=Mod.av) (l:=p) (n:=(k:Int)) rfl rfl rfl (fun _=>rfl) ZS ZS
 rw[XC]at this;exact this
def qZ{p:List Vars}{k:Nat}(h:k<p.length):aA T 28 (aN p) (.int .i64 (k:Int))=some (.ip (aa (p[k]!).av)):=by
 have:=br (T:=T) (t:=28) (e:=61) (f:=Vars.av) (l:=p) (n:=(k:Int)) rfl rfl rfl (fun _=>rfl) ZS ZS
 rw[XC]at this;exact this
def Aw{p:List Frm}{k:Nat}(h:k<p.length):aA T 29 (iO p) (.int .i64 (k:Int))=some (.ip (aa (p[k]!).av)):=by
 have:=br (T:=T) (t:=29) (e:=46) (f:=Frm.av) (l:=p) (n:=(k:Int)) rfl rfl rfl (fun _=>rfl) ZS ZS
 rw[XC]at this;exact this
def DU(p:List Mod):bp T 22 (mods p)=some (.int .i64 p.length):=by
 simp_all
def rc(p:List Vars):bp T 28 (aN p)=some (.int .i64 p.length):=by
 simp_all
theorem rb(p:List Frm):bp T 29 (iO p)=some (.int .i64 p.length):=by
 have h:bp T 29 (iO p)=some (.int .i64 (p.map Frm.av).length):=rfl
 grind
theorem K9(a b:aW):cF T .neq 9 (.str a) (.str b)=some (.bool (a != b)):=rfl
theorem Q0(a b:aW):cF T .eql 9 (.str a) (.str b)=some (.bool (a== b)):=rfl
section
variable (m:Ap.Mod) (w:Vars)
theorem Nh:ah T 55 (.ip (aa m.av)) 0=some (.ip ((aa m.av).drop 0)):=rfl
theorem UM:ah T 55 (.ip (aa m.av)) 2=some (.ip ((aa m.av).drop 2)):=rfl
theorem Nz:ax T 9 (.ip ((aa m.av).drop 0))=some (.str m.name):=rfl
theorem Vx:ax T 49 (.ip ((aa m.av).drop 2))=some (ck m.vars):=rfl
theorem Vw:ax T 55 (.ip (aa m.av))=some m.av:=rfl
theorem JG:ah T 61 (.ip (aa w.av)) 0=some (.ip ((aa w.av).drop 0)):=rfl
theorem E0:ah T 61 (.ip (aa w.av)) 1=some (.ip ((aa w.av).drop 1)):=rfl
theorem JU:ax T 9 (.ip ((aa w.av).drop 0))=some (.str w.module):=rfl
theorem Fo:ax T 23 (.ip ((aa w.av).drop 1))=some (vals w.values):=rfl
theorem WX:ax T 61 (.ip (aa w.av))=some w.av:=rfl
end
def Gr(m:Ap.Mod)(w:Vars):Bool:=w.module== m.name&&(w.values.length== m.vars.length&&w.values.all (cP 4))
theorem BI(p:List Ap.Mod)(st:List Vars):dX p st=iV Gr p st:=rfl
def t50(p:List Ap.Mod)(st:List Vars)(hp:p.length<=4611686018427387904)(hs:st.length<=4611686018427387904)(hm:∀m∈p,m.vars.length<=4611686018427387904)(hv:∀w∈st,w.values.length<=4611686018427387904/\∀v∈w.values,v.sz<=4611686018427387904):
  af pg 50 [mods p,aN st]=ao (.bool (dX p st)):=by
 rw[C50,show cl aF (mods p)=mods p by simp,show cl aF (aN st)=aN st by simp,BI];by_cases hl:p.length=st.length
 ·have hl':((p.length:Int) != (st.length:Int))=false:=by simp[hl]
  have h:=pW (FL50_0 (af pg)) (fun k=>[mods p,aN st,.int .i64 st.length,.int .i64 (k:Int)]) p.length (fun k=>Gr p[k]! st[k]!) (by
   simp_all[L50_0]) (fun k hk=>by
   have h1:(k:Int)<(st.length:Int):=ZS
   have hk':k<st.length:=ZS
   have i1:=qZ hk';have i2:=DN hk;have hw:IntKind.i64.wrap ((k:Int)+1)=((k+1:Nat):Int):=aZ ZS;have m1:p[k]! ∈p:=by rw[Xx p k hk];exact XG hk
   have m2:st[k]! ∈st:=by rw[Xx st k hk'];exact XG hk'
   have b1:=hm _ m1;have b2:=hv _ m2;generalize p[k]! = m at i2 b1;generalize st[k]! = w at i1 b2;have r1:=t22 w.values m.vars.length b2.1 b2.2;have c1:cg 2 w.av=ao (.agg (aa w.av)):=bc rfl;have lv:bp T 49 (ck m.vars)=some (.int .i64 m.vars.length):=ni _;have er:fu w.values m.vars.length=(w.values.length== m.vars.length&&w.values.all (cP 4)):=by
    unfold fu;congr 1;rw[YD];simp;omega
   rw[er]at r1;have eb:Gr m w= !((w.module != m.name)||!(w.values.length== m.vars.length&&w.values.all (cP 4))):=by
    unfold Gr;cases hq:w.module== m.name<;>simp[bne,hq]
   rw[eb];simp -implicitDefEqProofs only[L50_0,am,ar,aB,ae,ai,Xt,Xv h1,i1,WX,c1,aj,aI,JG,JU,i2,Nh,Nz,K9,E0,Fo,UM,Vx,lv,r1,dG,bi,aE,eB,bm,hw]
   grind) 0 (XN _)
  have h':ak (L50_0 (af pg) ak) [mods p,aN st,.int .i64 st.length,.int .i64 0]=_:=h;rw[Y5,ml Gr p st hl]at h';simp_all[S50]
 simp_all[nq,S50]
section
variable (f:Frm)
theorem JF:ah T 46 (.ip (aa f.av)) 0=some (.ip ((aa f.av).drop 0)):=rfl
theorem Q6:ah T 46 (.ip (aa f.av)) 1=some (.ip ((aa f.av).drop 1)):=rfl
theorem EY:ah T 46 (.ip (aa f.av)) 2=some (.ip ((aa f.av).drop 2)):=rfl
theorem Q7:ah T 46 (.ip (aa f.av)) 3=some (.ip ((aa f.av).drop 3)):=rfl
theorem GY:ah T 46 (.ip (aa f.av)) 4=some (.ip ((aa f.av).drop 4)):=rfl
theorem JS:ax T 9 (.ip ((aa f.av).drop 0))=some (.str f.mod):=rfl
theorem RZ:ax T 9 (.ip ((aa f.av).drop 1))=some (.str f.fn):=rfl
theorem Fi:ax T 3 (.ip ((aa f.av).drop 2))=some (.int .i64 f.pc):=rfl
theorem R5:ax T 23 (.ip ((aa f.av).drop 3))=some (vals f.locals):=rfl
theorem Ht:ax T 23 (.ip ((aa f.av).drop 4))=some (vals f.stack):=rfl
theorem Wp:ax T 46 (.ip (aa f.av))=some f.av:=rfl
variable (x:Fnc)
theorem fX3:ah T 77 (.ip (aa x.av)) 3=some (.ip ((aa x.av).drop 6)):=rfl
theorem WY:ax T 24 (.ip ((aa x.av).drop 6))=some (ints x.hts):=rfl
theorem Rh:ah T 75 (.ip ((aa x.av).drop 2)) 3=some (.ip (((aa x.av).drop 2).drop 3)):=rfl
theorem Si:ax T 73 (.ip (((aa x.av).drop 2).drop 3))=some (nG x.cod.code):=rfl
theorem cX:cg 7 x.av=ao (.agg (aa x.av)):=bc rfl
end
def Hn{l:List Int}{k:Nat}(h:k<l.length):aA T 24 (ints l) (.int .i64 (k:Int))=some (.ip (aa (.int .i64 l[k]!))):=by
 have:=br (T:=T) (t:=24) (e:=3) (f:=fun n:Int=>AV.int .i64 n) (l:=l) (n:=(k:Int)) rfl rfl rfl (fun _=>rfl) ZS ZS
 rw[XC]at this;exact this
theorem Vt(n:Int):ax T 3 (.ip (aa (.int .i64 n)))=some (.int .i64 n):=rfl
theorem wy(a b:aW):cG T false 84 [(0,.str a),(1,.str b)]=some (.agg [.str a,.str b]):=rfl
theorem M7(a b c d:aW):cF T .eql 84 (.agg [.str a,.str b]) (.agg [.str c,.str d])=some (.bool (a== c&&b== d)):=by
 have e:cF T .eql 84 (.agg [.str a,.str b]) (.agg [.str c,.str d])=(qR T 20 84 (.agg [.str a,.str b]) (.agg [.str c,.str d])).map .bool:=rfl;rw[e,Dv];rfl
def nK:Option Frm->AV
 |none=>.nilp
 |some g=>.ip (aa g.av)
theorem t51{L:MLay}{p:List Ap.Mod}{h:Hp}{row:List AV}(hr:h[L.rm]? = some row)(h14:row[14]? = some (.mp L.rf))(hf:h[L.rf]? = some L.cf)(MO:MapOk T 79 80 L p)(P:PBd p)(f:Frm)(next:Option Frm)(bl:f.locals.length<=4611686018427387904/\∀v∈f.locals,v.sz<=4611686018427387904)(bs:f.stack.length<=4611686018427387904/\∀v∈f.stack,v.sz<=4611686018427387904):
  af pg 51 [.hp L.rm 0,f.av,nK next] h= .ok (.bool (i9 p f next)) h:=by
 have g1:bb T 80 (.hp L.rm (0+14)) h= .ok (.mp L.rf) h:=bN rfl rfl hr h14;have g2:=MO.fn h hf f.mod f.fn;generalize hc:af pg 51 [.hp L.rm 0,f.av,nK next] h=code;rw[C51]at hc;simp -implicitDefEqProofs only[S51,aJ,ae,FH82_2,JF,JS,Q6,RZ,wy]at hc;rw[ap g1,ap g2]at hc;subst hc;unfold i9;cases hx:fj p f.mod f.fn with
 |none=>
  have e0:dy (.tup [kM none,.bool false]) 0=some (kM none):=rfl;have e1:dy (.tup [kM none,.bool false]) 1=some (.bool false):=rfl;have c1:cg 7 (kM none)=ao (.agg (aa (kM none))):=bc rfl;simp -implicitDefEqProofs only[Zb,e0,e1,c1,ae,aj,bi,X3,gE,am,List.replicate,cz,ai,XF];rfl
 | some x=>
  have F:=kN hx;obtain⟨H,_,_⟩:=iF F.hgt;have hcl:=(P.code _ _ _ hx).1;have e0:dy (.tup [kM (some x),.bool true]) 0=some x.av:=rfl;have e1:dy (.tup [kM (some x),.bool true]) 1=some (.bool true):=rfl;have lc:bp T 73 (nG x.cod.code)=some (.int .i64 x.cod.code.length):=AE _;have r1:=t22 f.locals x.cod.locals bl.1 bl.2;simp -implicitDefEqProofs only[Zx,e0,e1,cX,ae,aj,bi,XR,bv,am,cr,aI,EY,Fi,aB,fX2,Rh,Si,lc,jq,Q7,R5,Nm,ND,r1];by_cases hneg:f.pc<0
  ·have n1:decide (f.pc<0)=true:=XU hneg;have n2:decide (0<=f.pc)=false:=XO ZS;simp -implicitDefEqProofs only[n1,n2,gE,aj,am,List.replicate,cz,ae,ai,XF,Yu];rfl
  have n1:decide (f.pc<0)=false:=XO hneg;have n2:decide (0<=f.pc)=true:=XU ZS;by_cases hlt:(x.cod.code.length:Int)<=f.pc
  ·have n3:decide ((x.cod.code.length:Int)<=f.pc)=true:=XU hlt;have n4:decide (f.pc<(x.cod.code.length:Int))=false:=XO ZS;simp -implicitDefEqProofs only[n1,n2,n3,n4,bv,gE,aj,am,List.replicate,cz,cr,ae,ai,XF,Yu,YG];rfl
  have n3:decide ((x.cod.code.length:Int)<=f.pc)=false:=XO hlt;have n4:decide (f.pc<(x.cod.code.length:Int))=true:=XU ZS;cases hrl:fu f.locals x.cod.locals with
  |false=>
   simp -implicitDefEqProofs only[n1,n2,n3,n4,hrl,bv,gE,aj,am,List.replicate,cz,cr,ae,ai,XF,X3,Yu,YG];rfl
  | true=>
   obtain⟨k,hk⟩:∃k:Nat,f.pc=(k:Int):=⟨f.pc.toNat,ZS⟩;have hkc:k<x.cod.code.length:=ZS
   have hkh:k<x.hts.length:=by rw[H.len];exact hkc
   have i1:=Hn hkh;have ge:=H.ge k hkc;have lo:=H.lo k hkc;rw[hk]at n1 n2 n3 n4 |-;rw[XC];simp -implicitDefEqProofs only[n1,n2,n3,n4,hrl,bv,aj,am,cr,ae,ai,XR,Xs,Xy,Yw,fX3,WY,EY,Fi,hk,i1,Vt];generalize x.hts[k]! = ht at ge lo;cases next with
   |none=>
    have en:cF T .eql 128 (nK none) .nilp=some (.bool true):=rfl;have r2:=t22 f.stack ht bs.1 bs.2;simp -implicitDefEqProofs only[en,ae,ai,XF,jq,GY,Ht,r2,aj,aE,am,bg];rfl
   | some g=>
    have en:cF T .eql 128 (nK (some g)) .nilp=some (.bool false):=rfl;have hw:IntKind.i64.wrap (ht-1)=ht-1:=aM ZS ZS;have r2:=t22 f.stack (ht-1) bs.1 bs.2;simp -implicitDefEqProofs only[en,ae,ai,Xs,Xy,EY,Fi,hk,aH];by_cases h0:k=0
    ·have z1:((k:Int)== 0)=true:=by simp[h0]
     have z2:decide ((k:Int)≠0)=false:=XO (by simp[h0]);simp -implicitDefEqProofs only[z1,z2,gE,aj,am,List.replicate,cz,ae,ai,XF,Yu];rfl
    have z1:((k:Int)== 0)=false:=by simp[h0]
    have z2:decide ((k:Int)≠0)=true:=XU ZS;cases hrs:fu f.stack (ht-1)with
    |false=>
     simp -implicitDefEqProofs only[z1,z2,bv,aj,am,cr,ae,ai,GY,Ht,dY,hw,r2,hrs,bi,X3,XF,Yu,YG];rfl
    | true=>
     have hw2:IntKind.i64.wrap ((k:Int)-1)=((k-1:Nat):Int):=by rw[aM ZS ZS];omega
     have i2:=RH (l:=x.cod.code) (n:=k-1) ZS;have ek:((k:Int)-1).toNat=k-1:=ZS
     have cj:∀i:Ins,cg 5 i.av=ao (.agg (aa i.av)):=fun i=>bc rfl;have ng:kq (nK (some g))=some (.ip (aa g.av)):=rfl;simp -implicitDefEqProofs only[z1,z2,bv,aj,am,cr,ae,ai,GY,Ht,dY,hw,r2,hrs,bi,XR,Xs,Xy,fX2,Rh,Si,EY,Fi,hk,hw2,i2,Ga,cj,aI,fJ3,R6,Q0,jn,ek,Yw,JF,JS];generalize x.cod.code[k-1]! = i;have key:∀s:aW,K51_0 (af pg) ak [nK (some g),.ip (aa i.av),.str s] h= .ok (.bool (decide (i.op=14)&&decide (s=g.mod)&&decide (i.s=g.fn))) h:=by
      intro s;simp -implicitDefEqProofs only[K51_0,am,ar,fJ0,vZ,ae,aH,fJ2,Td,wy,ng,JF,JS,Q6,RZ,M7,aE,aj,bg];have q:(i.op== 14&&(s== g.mod&&i.s== g.fn))=(decide (i.op=14)&&decide (s=g.mod)&&decide (i.s=g.fn)):=by
       rw[YD];simp[and_assoc]
      rw[q];rfl
     unfold wb
     grind
theorem rZ:∀(A B:List Ap.Mod)(i:Nat),aV i (A++B)=aV i A++aV (i+A.length) B
 |[],B,i=>rfl
 |m:: A,B,i=>by
  show kl i m m.funcs++aV (i+1) (A++B)=_;rw[rZ A B (i+1),show i+1+A.length=i+(m:: A).length by simp;omega,<- Ye];rfl
def G8(i:Nat)(m:Ap.Mod)(C D:List Fun):kl i m (C++D)=kl i m C++kl i m D:=Y8 ..
def iA(n:Nat):List AV:=[.hn,.hn,.hn,.hn,.int .i64 0,.int .i64 0,.int .i64 0,.hn,.hn,.hn,.hn,.hn,.bool false,.mp n,.mp (n+1)]
def lI(p:List Ap.Mod)(n:Nat):List AV:=[mods p,.hn,.hn,.hn,.int .i64 0,.int .i64 0,.int .i64 0,.hn,.hn,.hn,.hn,.hn,.bool false,.mp n,.mp (n+1)]
def g9(h:Hp)(a b c:List AV):Hp:=h++[a,b,c]
section
variable (h:Hp) (a b c:List AV)
theorem KT:(g9 h a b c)[h.length]? = some a:=by simp[g9]
theorem Rt:(g9 h a b c)[h.length+1]? = some b:=by simp[g9]
theorem Hj:(g9 h a b c)[h.length+2]? = some c:=by simp[g9]
theorem Nu(x:List AV):(g9 h a b c).set h.length x=g9 h x b c:=by simp[g9]
theorem Nv(x:List AV):(g9 h a b c).set (h.length+1) x=g9 h a x c:=by simp[g9]
theorem Nw(x:List AV):(g9 h a b c).set (h.length+2) x=g9 h a b x:=by simp[g9]
end
def MQ(m:Ap.Mod):cg 9 m.av=ao (.agg (aa m.av)):=bc rfl
def Ui(c:Cod):cg 4 c.av=ao (.agg (aa c.av)):=bc rfl
theorem vM(a b:AV):dy (.tup [a,b]) 0=some a:=rfl
theorem vO(a b:AV):dy (.tup [a,b]) 1=some b:=rfl
theorem uI(h:Hp){p:List Ap.Mod}(hp:p.length<=20):∀B A:List Ap.Mod,A++B=p->
  (I6 A B=true->∃h',ak (L20_3 (af pg) ak) [mods p,.hp (h.length+2) 0,mods p,.int .i64 p.length,.int .i64 A.length] (g9 h [.tup (bh A 0)] [.tup []] (iA h.length))= .ok (.tup [.nilp,.int .i64 5]) h')/\
  (I6 A B=false->ak (L20_3 (af pg) ak) [mods p,.hp (h.length+2) 0,mods p,.int .i64 p.length,.int .i64 A.length] (g9 h [.tup (bh A 0)] [.tup []] (iA h.length))=
   ak (L20_2 (af pg) ak) [mods p,.hp (h.length+2) 0,mods p,.int .i64 p.length,.int .i64 0] (g9 h [.tup (bh p 0)] [.tup []] (iA h.length)))
 |[],A,e=>by
  rw[XS]at e;subst e;refine⟨fun h=>(by cases h),fun _=>?_⟩;have h1:¬((A.length:Int)<(A.length:Int)):=ZS
  rw[FL20_3];simp_all[L20_3]
 | m:: B,A,e=>by
  have hlen:A.length+(B.length+1)=p.length:=by rw[<- e];simp
  have h1:(A.length:Int)<(p.length:Int):=ZS
  have hx:p[A.length]! = m:=by rw[Xx p A.length ZS];simp[<- e]
  have hix:=DN (p:=p) (k:=A.length) ZS;rw[hx]at hix;have hw:IntKind.i64.wrap ((A.length:Int)+1)=((A++[m]).length:Nat):=by rw[aM ZS ZS];simp
  have g1:bb T 79 (.hp (h.length+2) (0+13)) (g9 h [.tup (bh A 0)] [.tup []] (iA h.length))= .ok (.mp h.length) (g9 h [.tup (bh A 0)] [.tup []] (iA h.length)):=bN rfl rfl (Hj ..) rfl;obtain⟨v,g2⟩:=Ft (KT h [.tup (bh A 0)] [.tup []] (iA h.length)) m.name;have ih:=uI h hp B (A++[m]) ZU;have key:ak (L20_3 (af pg) ak) [mods p,.hp (h.length+2) 0,mods p,.int .i64 p.length,.int .i64 A.length] (g9 h [.tup (bh A 0)] [.tup []] (iA h.length))=
    if(A.any fun x=>x.name== m.name)=true then .ok (.tup [.nilp,.int .i64 5]) (g9 h [.tup (bh A 0)] [.tup []] (iA h.length))
    else ak (L20_3 (af pg) ak) [mods p,.hp (h.length+2) 0,mods p,.int .i64 p.length,.int .i64 (A++[m]).length] (g9 h [.tup (bh (A++[m]) 0)] [.tup []] (iA h.length)):=by
   rw[FL20_3];simp -implicitDefEqProofs only[L20_3,am,ar,aB,ae,ai,Xt,Xv h1,hix,Vw,MQ,aj,aI,aJ,FH82_1,Nh,Nz];rw[ap g1,ap g2];simp -implicitDefEqProofs only[vM,vO,ae,ai];cases ha:A.any fun x=>x.name== m.name with
   |true=>
    rw[Xv rfl,Xv rfl];rfl
   |false=>
    have g3:=Ki (KT h [.tup (bh A 0)] [.tup []] (iA h.length)) m ha;rw[Nu]at g3;rw[Xr ZT,Xr ZT,ap g1,ap g3];simp_all
  rw[key,I6]
  grind
theorem uJ(H:Hp){p:List Ap.Mod}(hp:p.length<=20)(hL:∀m∈p,m.Lim)(a1:AV):∀B A:List Ap.Mod,A++B=p->
  ak (L20_2 (af pg) ak) [mods p,a1,mods p,.int .i64 p.length,.int .i64 A.length] H=
   if B.all ie=true then ak (L20_1 (af pg) ak) [mods p,a1,mods p,.int .i64 p.length,.int .i64 0] H else .ok (.tup [.nilp,.int .i64 1]) H
 |[],A,e=>by
  rw[XS]at e;subst e;have h1:¬((A.length:Int)<(A.length:Int)):=ZS
  rw[FL20_2];simp_all[L20_2]
 | m:: B,A,e=>by
  have hlen:A.length+(B.length+1)=p.length:=by rw[<- e];simp
  have h1:(A.length:Int)<(p.length:Int):=ZS
  have hx:p[A.length]! = m:=by rw[Xx p A.length ZS];simp[<- e]
  have hm:m∈p:=by rw[<- e];simp
  have hix:=DN (p:=p) (k:=A.length) ZS;rw[hx]at hix;have hw:IntKind.i64.wrap ((A.length:Int)+1)=((A++[m]).length:Nat):=by rw[aM ZS ZS];simp
  have ih:=uJ H hp hL a1 B (A++[m]) ZU;have r:=t40 m (hL m hm);rw[FL20_2];simp -implicitDefEqProofs only[L20_2,am,ar,aB,ae,ai,Xt,Xv h1,hix,Vw,MQ,aj,aI,r,bi,XP];cases hr:ie m with
  |false=>rfl
  |true=>
   simp_all
section
variable (f:Fun)
theorem UL:ah T 110 (.ip (aa f.av)) 1=some (.ip ((aa f.av).drop 1)):=rfl
theorem Vs:ax T 4 (.ip ((aa f.av).drop 1))=some (.bool f.pub):=rfl
variable (m:Ap.Mod)
theorem UN:ah T 55 (.ip (aa m.av)) 4=some (.ip ((aa m.av).drop 4)):=rfl
theorem Vy:ax T 51 (.ip ((aa m.av).drop 4))=some (iP m.funcs):=rfl
end
def RG{l:List Fun}{k:Nat}(h:k<l.length):aA T 51 (iP l) (.int .i64 (k:Int))=some (.ip (aa (l[k]!).av)):=by
 grind [Eu]
theorem RX(c:Cod):ax T 75 (.ip (aa c.av))=some c.av:=rfl
theorem Ug(a:Int)(b:Bool)(c:Cod)(l:List Int):cG T false 77 [(0,.int .i64 a),(1,.bool b),(2,c.av),(3,ints l)]=some (Fnc.av ⟨a,b,c,l⟩):=rfl
theorem AJ(h:Hp)(p:List Ap.Mod)(I:List AV)(V:List AV->M AV){m:Ap.Mod}(K:ModOk m)(hc:∀f∈m.funcs,dR 12 f.body<=1000){i:Nat}(hi:i<=20)(F:List Gd)(hF:F.find? (fun e=>e.1== m.name)=none)(x4:Int):∀D C:List Fun,C++D=m.funcs->
  ((D.all fun f=>(dm (dw m.vars f)).isSome)=true->ak (L20_0 (af pg) ak V) [mods p,.hp (h.length+2) 0,.int .i64 i,.ip (aa m.av),mods p,.int .i64 x4,.int .i64 i,yl (m.funcs.map (dw m.vars)),.int .i64 m.funcs.length,.int .i64 C.length] (g9 h I [.tup (cd (F++kl i m C))] (iA h.length))=
   V [mods p,.hp (h.length+2) 0,mods p,.int .i64 x4,.int .i64 ((i+1:Nat):Int)] (g9 h I [.tup (cd (F++kl i m m.funcs))] (iA h.length)))/\
  ((D.all fun f=>(dm (dw m.vars f)).isSome)=false->∃h',ak (L20_0 (af pg) ak V) [mods p,.hp (h.length+2) 0,.int .i64 i,.ip (aa m.av),mods p,.int .i64 x4,.int .i64 i,yl (m.funcs.map (dw m.vars)),.int .i64 m.funcs.length,.int .i64 C.length] (g9 h I [.tup (cd (F++kl i m C))] (iA h.length))=
   .ok (.tup [.nilp,.int .i64 13]) h')
 |[],C,e=>by
  rw[XS]at e;subst e;refine⟨fun _=>?_,fun h=>(by cases h)⟩;have h1:¬((m.funcs.length:Int)<(m.funcs.length:Int)):=ZS
  have hw:IntKind.i64.wrap ((i:Int)+1)=((i+1:Nat):Int):=by rw[aM ZS ZS];omega
  rw[FL20_0];simp_all[L20_0]
 | f :: D,C,e=>by
  have hfl:=K.flen;have hlen:C.length+(D.length+1)=m.funcs.length:=by rw[<- e];simp
  have h1:(C.length:Int)<(m.funcs.length:Int):=ZS
  have hx:m.funcs[C.length]! = f:=by rw[Xx m.funcs C.length ZS];simp[<- e]
  have hf:f∈m.funcs:=by rw[<- e];simp
  have hy:(m.funcs.map (dw m.vars))[C.length]! = dw m.vars f:=by
   rw[Xx _ C.length ZX,ZJ];congr 1;rw[<- hx,Xx m.funcs C.length ZS]
  have ik:=WK (l:=m.funcs.map (dw m.vars)) (n:=C.length) ZX;rw[hy]at ik;have hix:=RG (l:=m.funcs) (k:=C.length) ZS;rw[hx]at hix;have hw:IntKind.i64.wrap ((C.length:Int)+1)=((C++[f]).length:Nat):=by rw[aM ZS ZS];simp
  have FO:=K.fns f hf;have cb:=Dp (vars:=m.vars) FO (hc f hf);have r:=t42 (dw m.vars f) cb.1 (GJ FO).2;have ih:=AJ h p I V K hc hi F hF x4 D (C++[f]) ZU;have g1:bb T 80 (.hp (h.length+2) (0+14)) (g9 h I [.tup (cd (F++kl i m C))] (iA h.length))= .ok (.mp (h.length+1)) (g9 h I [.tup (cd (F++kl i m C))] (iA h.length)):=bN rfl rfl (Hj ..) rfl;have hnf:(F++kl i m C).find? (lg m.name f.name)=none:=by
   rw[Y1];have e1:F.find? (lg m.name f.name)=none:=by
    rw[Zy]at hF |-;intro x hx
    have:=hF x hx
    unfold lg;simp only[Xu,not_and];intro h;exact absurd h this
   have e2:(kl i m C).find? (lg m.name f.name)=none:=by
    rw[lQ,Xv rfl];have:C.find? (fun g=>g.name== f.name)=none:=by
     rw[Zy];intro g hg;have hn:=K.fnames;rw[<- e,Y8,Yf]at hn
     have:=(ZA.1 hn).2.2 g.name (YP.2 ⟨g,hg,rfl⟩) f.name ZV
     simpa using this
    rw[this];rfl
   rw[e1,e2];rfl
  have g3:=N0 (Rt h I [.tup (cd (F++kl i m C))] (iA h.length)) m.name f.name (yx i m f) hnf;rw[Nv,Ye,show kl i m C++[(m.name,f.name,yx i m f)]=kl i m (C++[f]) by rw[G8];rfl]at g3;rw[FL20_0,XP];simp -implicitDefEqProofs only[L20_0,am,ar,aB,ae,ai,Xt,Xv h1,ik,RX,Ui,aj,aI,r];cases hh:dm (dw m.vars f)with
  |none=>
   refine⟨fun h=>(by cases h),fun _=>⟨g9 h I [.tup (cd (F++kl i m C))] (iA h.length),?_⟩⟩;have en:dy (Oq none) 1=some (.bool false):=rfl;have en0:∃v,dy (Oq none) 0=some v:=⟨_,rfl⟩;obtain⟨v,en0⟩:=en0;simp -implicitDefEqProofs only[en,en0,ae,bi,X3,ai,XF];rfl
  |some hl=>
   have en:dy (Oq (some hl)) 1=some (.bool true):=rfl;have en0:dy (Oq (some hl)) 0=some (ints hl):=rfl;have ef:yx i m f=⟨i,f.pub,dw m.vars f,hl⟩:=by unfold yx;rw[hh];rfl
   rw[ef]at g3;have ef2:(dw m.vars f).func=f.name:=rfl;simp -implicitDefEqProofs only[en,en0,ae,bi,XR,Xs,Xy,aJ,FH82_2,Zx,Yw,ai];rw[ap g1];simp -implicitDefEqProofs only[Nh,Nz,fK0,Vu,ef2,wy,UN,Vy,hix,UL,Vs,Ug,ae];rw[ap g3];simp -implicitDefEqProofs only[bm,hw,ae];exact ih
def Wd(p:List Ap.Mod)(hp:p.length<=1000000):af pg 43 [mods p]=ao (mods p):=by
 have e:af pg 43 [mods p]=ep T 22 (af pg) [mods p]:=d9 g8 rfl _;rw[e]
 have:=lL (T:=T) (t:=22) (e:=55) rfl rfl rfl (f:=Mod.av) (fun m=>qk m) (a:=[]) (b:=p) ZU ZT
 simp only[X1]at this;show bP (dJ T 22 (.sl (([]:List Ap.Mod).map Mod.av)) (.sl (p.map Mod.av)))=_;rw[this];rfl
theorem xj(h:Hp){p:List Ap.Mod}(hp:p.length<=20)(hL:∀m∈p,m.Lim)(hr:∀m∈p,ie m=true)(hc:∀m∈p,∀f∈m.funcs,dR 12 f.body<=1000)(hn:(p.map (·.name)).Nodup)(I:List AV):∀B A:List Ap.Mod,A++B=p->
  ((B.all fun m=>m.funcs.all fun f=>(dm (dw m.vars f)).isSome)=true->ak (L20_1 (af pg) ak) [mods p,.hp (h.length+2) 0,mods p,.int .i64 p.length,.int .i64 A.length] (g9 h I [.tup (cd (aV 0 A))] (iA h.length))=
   .ok (.tup [.hp (h.length+2) 0,.int .i64 0]) (g9 h I [.tup (cd (aV 0 p))] (lI p h.length)))/\
  ((B.all fun m=>m.funcs.all fun f=>(dm (dw m.vars f)).isSome)=false->∃h',ak (L20_1 (af pg) ak) [mods p,.hp (h.length+2) 0,mods p,.int .i64 p.length,.int .i64 A.length] (g9 h I [.tup (cd (aV 0 A))] (iA h.length))=
   .ok (.tup [.nilp,.int .i64 13]) h')
 | [],A,e=>by
  rw[XS]at e;subst e;refine⟨fun _=>?_,fun h=>(by cases h)⟩;have h1:¬((A.length:Int)<(A.length:Int)):=ZS
  have s1:bS T 22 (.hp (h.length+2) (0+0+0)) (mods A) (g9 h I [.tup (cd (aV 0 A))] (iA h.length))= .ok (.tup []) (g9 h I [.tup (cd (aV 0 A))] (lI A h.length)):=by
   rw[bT (T:=T) (t:=22) rfl (Hj ..) rfl (by show (_:Nat)<=15;decide) ZT,Nw];rfl
  rw[FL20_1];simp -implicitDefEqProofs only[L20_1,am,ar,aB,ae,ai,Xt,Xr h1,Wd A ZS,aj,aJ,FH82_0,FH39_0];rw[ap s1];rfl
 | m :: B,A,e=>by
  have hlen:A.length+(B.length+1)=p.length:=by rw[<- e];simp
  have h1:(A.length:Int)<(p.length:Int):=ZS
  have hx:p[A.length]! = m:=by rw[Xx p A.length ZS];simp[<- e]
  have hm:m∈p:=by rw[<- e];simp
  have hix:=DN (p:=p) (k:=A.length) ZS;rw[hx]at hix;have r:=t41 m (hL m hm);rw[Xv (hr m hm)]at r;have lk:=VL (m.funcs.map (dw m.vars));rw[Yy]at lk;have hF:(aV 0 A).find? (fun e=>e.1== m.name)=none:=by
   have key:∀(l:List Ap.Mod)(i:Nat),(∀x∈l,x.name≠m.name)->(aV i l).find? (fun e=>e.1== m.name)=none:=by
    intro l
    induction l with
    |nil=>intro i _;rfl
    | cons x l ih=>
     intro i hh;rw[aV,Y1,ih (i+1) fun y hy=>hh y (by simp[hy])];have:(kl i x x.funcs).find? (fun e=>e.1== m.name)=none:=by
      rw[Zy];intro e he;unfold kl at he;obtain⟨f,_,rfl⟩:=YP.1 he;simpa using hh x ZV
     grind
   refine key A 0 fun x hx=>?_;rw[<- e,Y8,Yf]at hn;exact (ZA.1 hn).2.2 x.name (YP.2 ⟨x,hx,rfl⟩) m.name ZV
  have L0:=AJ h p I (ak (L20_1 (af pg) ak)) (uM (hr m hm)) (hc m hm) (i:=A.length) ZS (aV 0 A) hF p.length m.funcs [] rfl;have ih:=xj h hp hL hr hc hn I B (A++[m]) ZU;have ea:aV 0 A++kl A.length m m.funcs=aV 0 (A++[m]):=by
   rw[rZ,XI];simp[aV]
  have e0:aV 0 A++kl A.length m []=aV 0 A:=by simp[kl]
  rw[ea,e0,show ((A.length+1:Nat):Int)=((A++[m]).length:Nat) by simp]at L0;have key:ak (L20_1 (af pg) ak) [mods p,.hp (h.length+2) 0,mods p,.int .i64 p.length,.int .i64 A.length] (g9 h I [.tup (cd (aV 0 A))] (iA h.length))=
    ak (L20_0 (af pg) ak (ak (L20_1 (af pg) ak))) [mods p,.hp (h.length+2) 0,.int .i64 A.length,.ip (aa m.av),mods p,.int .i64 p.length,.int .i64 A.length,yl (m.funcs.map (dw m.vars)),.int .i64 m.funcs.length,.int .i64 0] (g9 h I [.tup (cd (aV 0 A))] (iA h.length)):=by
   rw[FL20_1];simp -implicitDefEqProofs only[L20_1,am,ar,aB,ae,ai,Xt,Xv h1,hix,Vw,MQ,aj,aI,r,lk]
  grind
theorem t20(h:Hp){p:List Ap.Mod}(hL:∀m∈p,m.Lim)(hc:∀m∈p,∀f∈m.funcs,dR 12 f.body<=1000):
  (jE p=0->af pg 20 [mods p] h= .ok (.tup [.hp (h.length+2) 0,.int .i64 0]) (g9 h [.tup (bh p 0)] [.tup (cd (aV 0 p))] (lI p h.length)))/\
  (jE p≠0->∃h',af pg 20 [mods p] h= .ok (.tup [.nilp,.int .i64 (jE p)]) h'):=by
 unfold jE jT;by_cases h20:20<p.length
 ·rw[Xv h20,Xv ZT];refine⟨fun h=>(by cases h),fun _=>⟨h,?_⟩⟩;have h1:(20:Int)<(p.length:Int):=ZS
  rw[C20];simp -implicitDefEqProofs only[S20,DU,ae,dq,ai,Xt,Xv h1];rfl
 ·rw [Xr h20];have hp:p.length<=20:=ZS
  have h1:¬((20:Int)<(p.length:Int)):=ZS
  have n1:ga h= .ok (.mp h.length) (h++[[.tup []]]):=rfl;have n2:ga (h++[[.tup []]])= .ok (.mp (h.length+1)) (h++[[.tup []]]++[[.tup []]]):=by
   show R.ok (AV.mp (h++[[AV.tup []]]).length) _=_;rw[XL];rfl
  have b1:cG T true 82 [(1,.mp h.length),(2,.mp (h.length+1))]=some (.agg (iA h.length)):=rfl;have n3:newH (iA h.length) (h++[[.tup []]]++[[.tup []]])= .ok (.hp (h.length+2) 0) (g9 h [.tup []] [.tup []] (iA h.length)):=by
   have:newH (iA h.length) (h++[[.tup []]]++[[.tup []]])= .ok (.hp (h++[[AV.tup []]]++[[AV.tup []]]).length 0) ((h++[[.tup []]]++[[.tup []]])++[iA h.length]):=rfl;rw[this];simp[g9]
  have start:af pg 20 [mods p] h=ak (L20_3 (af pg) ak) [mods p,.hp (h.length+2) 0,mods p,.int .i64 p.length,.int .i64 0] (g9 h [.tup []] [.tup []] (iA h.length)):=by
   rw[C20];simp -implicitDefEqProofs only[S20,DU,ae,dq,ai,Xt,Xr h1];rw[ap n1,ap n2,b1,ae,aI,ap n3]
  have Ln:=uI h hp p [] rfl;have e0:bh ([]:List Ap.Mod) 0=[]:=rfl;rw[e0]at Ln;rw[start,vE];cases ht:I6 [] p with
  |true=>
   grind
  | false=>
   rw[Xr (show ¬(false:Bool)=true by decide),Xr (show ¬(0:Int)≠0 by decide)];have L2:=Ln.2 ht;have L1:=uJ (g9 h [.tup (bh p 0)] [.tup []] (iA h.length)) hp hL (.hp (h.length+2) 0) p [] rfl;have L2':ak (L20_3 (af pg) ak) [mods p,.hp (h.length+2) 0,mods p,.int .i64 p.length,.int .i64 0] (g9 h [.tup []] [.tup []] (iA h.length))=_:=L2.trans L1;rw[L2'];cases hr:p.all ie with
   |false=>
    grind
   | true=>
    rw[Xr (show ¬(true:Bool)=false by decide),Xv (show (true:Bool)=true from rfl)];have hn:(p.map (·.name)).Nodup:=sK (by rw[vE];exact ht);have L3:=xj h hp hL (XJ.1 hr) hc hn [.tup (bh p 0)] p [] rfl;cases hh:p.all fun m=>m.funcs.all fun f=>(dm (dw m.vars f)).isSome with
    |false=>
     rw[Xv (show (false:Bool)=false from rfl)];exact⟨fun h=>absurd h ZT,fun _=>L3.2 hh⟩
    |true=>
     rw[Xr (show ¬(true:Bool)=false by decide)];exact⟨fun _=>L3.1 hh,fun h=>absurd rfl h⟩
def kI{x:AV}(h:ay x=true):gL x=ao x:=by unfold gL;rw[h];rfl
def QI(l:List Int)(hp:l.length<=1000000):af pg 23 [ints l]=ao (ints l):=by
 have e:af pg 23 [ints l]=ep T 24 (af pg) [ints l]:=d9 g8 rfl _;rw[e]
 have:=OO (a:=[]) (b:=l) ZX
 simp only[X1]at this;show bP (dJ T 24 (ints []) (ints l))=_;rw[this];rfl
def OP(x:AV)(h:Hp):af pg 106 [x] h=cy T 29 (af pg) [x] h:=by
 have e:af pg 106 [x]=cy T 29 (af pg) [x]:=d9 g8 rfl _;rw[e]
def OQ(x:AV)(h:Hp):af pg 107 [x] h=cy T 34 (af pg) [x] h:=by
 have e:af pg 107 [x]=cy T 34 (af pg) [x]:=d9 g8 rfl _;rw[e]
def OR(x:AV)(h:Hp):af pg 108 [x] h=cy T 35 (af pg) [x] h:=by
 have e:af pg 108 [x]=cy T 35 (af pg) [x]:=d9 g8 rfl _;rw[e]
def fO(l:List Frm):List AV:=l.flatMap fun f=>aa f.av
theorem rQ(tag:Nat->Nat)(h:Hp):∀l:List Ap.Call,eY tag h l (l.flatMap fun c=>aa c.av)
 |[]=>rfl
 |c:: l=>⟨vals c.args,l.flatMap fun c=>aa c.av,rfl,.inl rfl,rQ tag h l⟩
def Wa{tag:Nat->Nat}{h:Hp}{k:Nat}{l:List Val}{v:AV}(H:dk tag k h l v):bR 1 v=true/\aa v=[v]:=by
 rcases dk.shape H with rfl|rfl|⟨r,rfl⟩<;>exact⟨rfl,rfl⟩
theorem sn{fr:List Frm}{r:Nat}(Q:(Nat->Nat)->Hp->Prop)(hQ:∀ {tag tag':Nat->Nat} {h h':Hp} {ks:Nat->Prop},Kp tag tag' ks h h'->(∀k,ks k->k=7)->Q tag h->Q tag' h')(hn:fr.length<=1000000)(hv:∀f∈fr,f.locals.length<=1000000/\f.stack.length<=1000000)(a2 a3 a5 a6 a7 a8 a9 a10 a11 a12 a13 a14 a15 a16 a17 a18 a19 a20 a21 a22 a23 a24 a25 a26 a27:AV):∀(B A:List Frm)(tag:Nat->Nat)(h:Hp)(cs:List AV),A++B=fr->Q tag h->tag r=7->h[r]? = some (cs++fO B)->eh tag h 0 A cs->
  ∃ h' tag' cs',ak (L52_0 (af pg) ak) [.int .i64 fr.length,.int .i64 A.length,a2,a3,.hs r 0 fr.length 5 true,a5,a6,a7,a8,a9,a10,a11,a12,a13,a14,a15,a16,a17,a18,a19,a20,a21,a22,a23,a24,a25,a26,a27] h=
    ak (L52_0 (af pg) ak) [.int .i64 fr.length,.int .i64 fr.length,a2,a3,.hs r 0 fr.length 5 true,a5,a6,a7,a8,a9,a10,a11,a12,a13,a14,a15,a16,a17,a18,a19,a20,a21,a22,a23,a24,a25,a26,a27] h'/\
   Q tag' h'/\tag' r=7/\h'[r]? = some cs'/\eh tag' h' 0 fr cs'
 |[],A,tag,h,cs,e,H,ht,hr,HF=>by
  rw[XS]at e;subst e;refine⟨h,tag,cs,rfl,H,ht,?_,HF⟩;rw[hr];simp[fO]
 | f:: B,A,tag,h,cs,e,H,ht,hr,HF=>by
  have hlen:A.length+(B.length+1)=fr.length:=by rw[<- e];simp
  have h1:(A.length:Int)<(fr.length:Int):=ZS
  have hf:f∈fr:=by rw[<- e];simp
  have hcl:=HF.len;have hix:aA T 29 (.hs r 0 fr.length 5 true) (.int .i64 (A.length:Int))=some (.hp r (0+A.length*5)):=by
   show (if(0:Int)<=(A.length:Int)/\(A.length:Int)<((fr.length:Nat):Int)then some (AV.hp r (0+(A.length:Int).toNat*5))else none)=_;rw[Xv ZS];simp
  have hrow:h[r]? = some (cs++iQ f (vals f.locals) (vals f.stack)++fO B):=by rw[hr,Ye];rfl
  have g1:bb T 23 (.hp r (0+A.length*5+3)) h= .ok (vals f.locals) h:=bN rfl rfl hrow (by
   rw[Ye,XZ ZS,show 0+A.length*5+3-cs.length=3 by omega];rfl)
  have g2:bb T 23 (.hp r (0+A.length*5+4)) h= .ok (vals f.stack) h:=bN rfl rfl hrow (by
   rw[Ye,XZ ZS,show 0+A.length*5+4-cs.length=4 by omega];rfl)
  obtain⟨h2,tag2,lv,e2,K2,V2⟩:=my (T:=T) (t:=23) (e:=33) rfl rfl rfl rfl rfl ZT (af pg) tag h f.locals (XM (XB _ (hv f hf).1) ZT) (11+3*A.length);obtain⟨h3,tag3,sv,e3,K3,V3⟩:=my (T:=T) (t:=23) (e:=33) rfl rfl rfl rfl rfl ZT (af pg) tag2 h2 f.stack (XM (XB _ (hv f hf).2) ZT) (12+3*A.length);have K23:=K2.trans K3;have r3:=K23 _ _ hrow ZU;have t3:tag3 r=7:=r3.2.trans ht;have o2:=Wa V2;have o3:=Wa V3;have hl0:0+A.length*5=cs.length:=ZS
  have s1:bS T 23 (.hp r (0+A.length*5+3)) lv h3= .ok (.tup []) (h3.set r (cs++iQ f lv (vals f.stack)++fO B)):=by
   rw[bT (T:=T) (t:=23) rfl r3.1 o2.1 (by rw[Ye,XL,XL];show 0+A.length*5+3+1<=cs.length+(5+_);omega) ZT,hl0,set_mid (D:=iQ f lv (vals f.stack)) (by show 3<5;decide) rfl (by rw[o2.2];rfl) o2.2]
  have k4:(h3.set r (cs++iQ f lv (vals f.stack)++fO B))[r]? = some (cs++iQ f lv (vals f.stack)++fO B):=XV (XA.1 r3.1).1;have s2:bS T 23 (.hp r (0+A.length*5+4)) sv (h3.set r (cs++iQ f lv (vals f.stack)++fO B))= .ok (.tup []) ((h3.set r (cs++iQ f lv (vals f.stack)++fO B)).set r (cs++iQ f lv sv++fO B)):=by
   rw[bT (T:=T) (t:=23) rfl k4 o3.1 (by rw[Ye,XL,XL];show 0+A.length*5+4+1<=cs.length+(5+_);omega) ZT,hl0,set_mid (D:=iQ f lv sv) (by show 4<5;decide) rfl (by rw[o3.2];rfl) o3.2]
  rw[List.set_set]at s2;have K4:Kp tag3 tag3 (fun k=>k=7) h3 (h3.set r (cs++iQ f lv sv++fO B)):=Xc t3 _;have K:=K23.trans K4;have H4:=hQ (K.mono (js:=fun k=>k=7) fun k hk=>hk.elim (fun h=>h.elim False.elim False.elim) id) (fun k hk=>hk) H;have F4:eh tag3 (h3.set r (cs++iQ f lv sv++fO B)) 0 A cs:=HF.keep K fun j _ _=>
   ⟨fun hh=>hh.elim (fun h=>h.elim id id) fun h=>ZS,fun hh=>hh.elim (fun h=>h.elim id id) fun h=>ZS⟩
  have F5:=F4.snoc (f:=f) (by rw[XI];exact (V2.keep K3 id).keep K4 ZS) (by rw[XI];exact V3.keep K4 ZS);have r5:(h3.set r (cs++iQ f lv sv++fO B))[r]? = some ((cs++iQ f lv sv)++fO B):=XV (XA.1 r3.1).1;have hw1:IntKind.i64.wrap ((A.length:Int)+1)=((A++[f]).length:Nat):=by rw[aM ZS ZS];simp
  obtain⟨h',tag',cs',k1,k2,k3,k5,k6⟩:=sn Q hQ hn hv a2 a3 a5 a6 a7 a8 a9 a10 a11 a12 a13 a14 a15 a16 a17 a18 a19 a20 a21 a22 a23 a24 a25 a26 a27 B (A++[f]) tag3 _ (cs++iQ f lv sv) ZU H4 t3 r5 F5;refine⟨h',tag',cs',?_,k2,k3,k5,k6⟩;rw[<- k1,FL52_0];simp -implicitDefEqProofs only[L52_0,am,ar,aB,ae,ai,Xt,Xv h1,hix,aJ,FH46_3,FH46_4];rw[ap g1,ap g2,ap ((xP _ h).trans e2),ap ((xP _ h2).trans e3),ap s1,ap s2];simp_all
structure ClB (p:Proc):Prop where
 mods:p.mods.length<=1000000
 state:p.state.length<=1000000/\∀w∈p.state,w.values.length<=1000000
 frames:p.frames.length<=1000000/\∀f∈p.frames,f.locals.length<=1000000/\f.stack.length<=1000000
 world:p.world.length<=1000000
 deeds:p.out.deeds.length<=1000000
 calls:p.out.calls.length<=1000000
 ostate:p.out.state.length<=1000000/\∀w∈p.out.state,w.values.length<=1000000
structure MC (tag:Nat->Nat) (sv fv dv cv ov:AV) (p:Proc) (h:Hp):Prop where
 st:gb tag 5 2 p.state.length (fun cs=>oC tag h 0 p.state cs) sv h
 fr:gb tag 7 5 p.frames.length (fun cs=>eh tag h 0 p.frames cs) fv h
 ds:gb tag 2 3 p.out.deeds.length (fun cs=>cs=cQ p.out.deeds) dv h
 cs:gb tag 3 3 p.out.calls.length (fun cs=>eY tag h p.out.calls cs) cv h
 os:gb tag 9 2 p.out.state.length (fun cs=>vL tag h p.out.state cs) ov h
 oz:p.out.state=[]->ov= .hn
def sP(p:Proc)(sv fv dv cv ov:AV):List AV:=[mods p.mods,sv,fv,ints p.world,.int .i64 p.out.err,.int .i64 p.out.value.kind,.int .i64 p.out.value.n,strs p.out.value.names,vals p.out.value.values,dv,cv,ov,.bool p.ended]
def ym{tag:Nat->Nat}{sv fv dv cv ov:AV}{p:Proc}{h:Hp}(H:MC tag sv fv dv cv ov p h):bR 13 (.agg (sP p sv fv dv cv ov))=true:=by
 show (_&&(ay (mods p.mods)&&(ay sv&&(ay fv&&(ay (ints p.world)&&(ay (.int .i64 p.out.err)&&(ay (.int .i64 p.out.value.kind)&&(ay (.int .i64 p.out.value.n)&&(ay (strs p.out.value.names)&&(ay (vals p.out.value.values)&&(ay dv&&(ay cv&&(ay ov&&(ay (.bool p.ended)&&true))))))))))))))=true;rw[H.st.okC,H.fr.okC,H.ds.okC,H.cs.okC,H.os.okC];rfl
theorem t52(p:Proc)(hb:ClB p)(tag:Nat->Nat)(h:Hp):
  ∃h' tag' sv fv dv cv ov,af pg 52 [p.av] h= .ok (.agg (sP p sv fv dv cv ov)) h'/\Kp tag tag' (fun k=>2<=k) h h'/\MC tag' sv fv dv cv ov p h':=by
 have c0:cg 13 p.av=ao (.agg p.cells):=bc rfl;have mono:∀ {tag tag2 tag3:Nat->Nat} {h h2 h3:Hp} {ks:Nat->Prop},Kp tag tag2 (fun k=>2<=k) h h2->Kp tag2 tag3 ks h2 h3->(∀k,ks k->2<=k)->Kp tag tag3 (fun k=>2<=k) h h3:=fun K1 K2 hk=>(K1.trans K2).mono fun k h=>h.elim id (hk k)
 -- the state
 obtain⟨h1,tag1,sv,e1,K1,S1,_⟩:=Dq (st:=p.state) (fun i=>10+3*i) 5 (fun j=>ZS) (fun tag2 h2=>Kp tag tag2 (fun k=>2<=k) h h2) (fun K hk H=>mono H K fun k h=>ZU) (fun r cs hr _=>⟨hr,rfl⟩) hb.state.1 hb.state.2;have T1:=S1.mono (c':=fun cs=>oC tag1 h1 0 p.state cs) fun cs h=>h.st
 -- the frames
 have hfl:(p.frames.map Frm.av).length=p.frames.length:=Yy _;obtain⟨h2,tag2,fv,e2,K2,S2,sh⟩:=tH (T:=T) (t:=29) (e:=46) (sz:=5) rfl rfl rfl rfl ZT rfl ZT (af pg) tag1 h1 (p.frames.map Frm.av) (eU (fun f=>rfl) _) (by rw[hfl];exact XM (XB _ hb.frames.1) ZT) 7;have e2':af pg 106 [iO p.frames] h1= .ok fv h2:=(OP _ h1).trans e2;have hcells:(p.frames.map Frm.av).flatMap aa=fO p.frames:=by rw[List.flatMap_map];rfl
 rw[hfl,hcells]at S2 sh;have K12:=mono K1 K2 fun k h=>h.elim;have T2:gb tag2 5 2 p.state.length (fun cs=>oC tag2 h2 0 p.state cs) sv h2:=T1.keep K2 id fun _ h=>h.keep K2 fun _=>id;have hln:bp T 29 fv=some (.int .i64 p.frames.length):=by
  rcases sh with⟨rfl,h0⟩|⟨rfl,_⟩
  ·have:p.frames=[]:=by simpa using h0
   rw[this];rfl
  ·rfl
 -- the loop
 have loop:∀(a2 a3 a5 a6 a7 a8 a9 a10 a11 a12 a13 a14 a15 a16 a17 a18 a19 a20 a21 a22 a23 a24 a25 a26 a27:AV),∃h3 tag3,ak (L52_0 (af pg) ak) [.int .i64 p.frames.length,.int .i64 0,a2,a3,fv,a5,a6,a7,a8,a9,a10,a11,a12,a13,a14,a15,a16,a17,a18,a19,a20,a21,a22,a23,a24,a25,a26,a27] h2=
    ak (L52_0 (af pg) ak) [.int .i64 p.frames.length,.int .i64 p.frames.length,a2,a3,fv,a5,a6,a7,a8,a9,a10,a11,a12,a13,a14,a15,a16,a17,a18,a19,a20,a21,a22,a23,a24,a25,a26,a27] h3/\
   Kp tag tag3 (fun k=>2<=k) h h3/\gb tag3 5 2 p.state.length (fun cs=>oC tag3 h3 0 p.state cs) sv h3/\gb tag3 7 5 p.frames.length (fun cs=>eh tag3 h3 0 p.frames cs) fv h3:=by
  intro a2 a3 a5 a6 a7 a8 a9 a10 a11 a12 a13 a14 a15 a16 a17 a18 a19 a20 a21 a22 a23 a24 a25 a26 a27;by_cases h0:p.frames=[]
  ·rw[h0];have hfv:fv= .he:=by
    rcases sh with⟨h,_⟩|⟨h,hh⟩
    ·exact h
    ·rcases S2 with⟨_,hv,_⟩|⟨r,cs,rest,_,_,hcs,hne,hl,_,hc⟩
     all_goals grind
   exact⟨h2,tag2,rfl,K12,T2,.inl ⟨rfl,.inr hfv,rfl⟩⟩
  ·have hpos:0<p.frames.length:=Yp.2 h0;rcases S2 with⟨hz,_⟩|⟨r,cs,rest,rfl,ht,hr,hne,hl,hok,rfl⟩
   ·omega
   ·rcases sh with⟨h,_⟩|⟨h,hh⟩
    ·cases h
    ·cases h;have hr2:h2[h1.length]? = some ([]++fO p.frames):=by rw[hh];simp
     obtain⟨h3,tag3,cs',k1,k2,k3,k4,k5⟩:=sn (fr:=p.frames) (r:=h1.length) (fun tag3 h3=>Kp tag tag3 (fun k=>2<=k) h h3/\gb tag3 5 2 p.state.length (fun cs=>oC tag3 h3 0 p.state cs) sv h3)
      (fun K hk H=>⟨mono H.1 K fun k h=>ZU,H.2.keep K (fun h=>ZU) fun _ h=>h.keep K fun j hh=>ZU⟩) hb.frames.1 hb.frames.2 a2 a3 a5 a6 a7 a8 a9 a10 a11 a12 a13 a14 a15 a16 a17 a18 a19 a20 a21 a22 a23 a24 a25 a26 a27
      p.frames [] tag2 h2 [] rfl ⟨K12,T2⟩ ht hr2 rfl
     refine⟨h3,tag3,k1,k2.1,k2.2,.inr ⟨h1.length,cs',[],rfl,k3,ZU,?_,k5.len,by rw[XS];exact k5.ok,k5⟩⟩;intro hh
     have:=X4 List.length hh
     rw[XS,k5.len]at this
     grind
 obtain⟨h3,tag3,e3,K3,T3,F3⟩:=loop (mods p.mods) sv (ints p.world) (.int .i64 p.out.err) (.int .i64 p.out.value.kind) (.int .i64 p.out.value.n) (strs p.out.value.names) (vals p.out.value.values) (deeds p.out.deeds) (calls p.out.calls) (aN p.out.state) (.bool p.ended) (.sl []) (.sl []) (.sl []) (.sl []) (.int .i64 0) (.int .i64 0) (.int .i64 0) (.sl []) (.sl []) (.sl []) (.sl []) (.sl []) (.bool false)
 -- deeds and calls
 have hdl:(p.out.deeds.map Deed.av).length=p.out.deeds.length:=Yy _;obtain⟨h4,tag4,dv,e4,K4,S4,_⟩:=tH (T:=T) (t:=34) (e:=101) (sz:=3) rfl rfl rfl rfl ZT rfl ZT (af pg) tag3 h3 (p.out.deeds.map Deed.av) (eU (fun f=>rfl) _) (by rw[hdl];exact XM (XB _ hb.deeds) ZT) 2;have e4':af pg 107 [deeds p.out.deeds] h3= .ok dv h4:=(OQ _ h3).trans e4;rw[hdl]at S4;have hxl:(p.out.calls.map Ap.Call.av).length=p.out.calls.length:=Yy _;obtain⟨h5,tag5,cv,e5,K5,S5,_⟩:=tH (T:=T) (t:=35) (e:=126) (sz:=3) rfl rfl rfl rfl ZT rfl ZT (af pg) tag4 h4 (p.out.calls.map Ap.Call.av) (eU (fun f=>rfl) _) (by rw[hxl];exact XM (XB _ hb.calls) ZT) 3;have e5':af pg 108 [calls p.out.calls] h4= .ok cv h5:=(OR _ h4).trans e5;rw[hxl]at S5;have K45:=K4.trans K5;have z45:¬(False\/False):=fun h=>h.elim id id;have T5:gb tag5 5 2 p.state.length (fun cs=>oC tag5 h5 0 p.state cs) sv h5:=T3.keep K45 z45 fun _ h=>h.keep K45 fun _=>z45;have F5:gb tag5 7 5 p.frames.length (fun cs=>eh tag5 h5 0 p.frames cs) fv h5:=F3.keep K45 z45 fun _ h=>h.keep K45 fun _ _ _=>⟨z45,z45⟩;have D5:gb tag5 2 3 p.out.deeds.length (fun cs=>cs=cQ p.out.deeds) dv h5:=(S4.mono (c':=fun cs=>cs=cQ p.out.deeds) fun cs h=>by rw[h,List.flatMap_map];rfl).keep K5 id fun _ h=>h;have X5:gb tag5 3 3 p.out.calls.length (fun cs=>eY tag5 h5 p.out.calls cs) cv h5:=S5.mono fun cs h=>by
  grind [List.flatMap_map,rQ]
 have K35:=mono K3 K45 fun k h=>(z45 h).elim
 -- the state of the outcome
 obtain⟨h6,tag6,ov,e6,⟨K6,T6,F6,D6,X6⟩,S6,z6⟩:=Dq (st:=p.out.state) (fun _=>8) 9 (fun j=>ZS) (fun tag2 h2=>Kp tag tag2 (fun k=>2<=k) h h2/\gb tag2 5 2 p.state.length (fun cs=>oC tag2 h2 0 p.state cs) sv h2/\gb tag2 7 5 p.frames.length (fun cs=>eh tag2 h2 0 p.frames cs) fv h2/\
   gb tag2 2 3 p.out.deeds.length (fun cs=>cs=cQ p.out.deeds) dv h2/\gb tag2 3 3 p.out.calls.length (fun cs=>eY tag2 h2 p.out.calls cs) cv h2) (fun K hk H=>by
   have n:∀k,k≠9->¬_:=fun k h1 hh=>h1 (hk k hh);exact⟨mono H.1 K fun k h=>ZU,H.2.1.keep K (n _ ZS) fun _ h=>h.keep K fun j=>n _ ZS,H.2.2.1.keep K (n _ ZS) fun _ h=>h.keep K fun j _ _=>⟨n _ ZS,n _ ZS⟩,H.2.2.2.1.keep K (n _ ZS) fun _ h=>h,H.2.2.2.2.keep K (n _ ZS) fun _ h=>h.keep K (n _ ZS)⟩)
   ⟨K35,T5,F5,D5,X5⟩ hb.ostate.1 hb.ostate.2
 have M6:MC tag6 sv fv dv cv ov p h6:=⟨T6,F6,D6,X6,S6.mono fun cs h=>h.vs,z6⟩;have hrow:bD 13 [] (.agg (sP p sv fv dv cv ov))=ao (.agg (sP p sv fv dv cv ov)):=by
  rw[gh (ym M6)];rfl
 unfold sP at hrow;refine⟨h6,tag6,sv,fv,dv,cv,ov,?_,K6,M6⟩;rw[C52];have p0':ab p.cells 0=mods p.mods:=rfl;have p1':ab p.cells 1=aN p.state:=rfl;have p2':ab p.cells 2=iO p.frames:=rfl;have p3':ab p.cells 3=ints p.world:=rfl;have p4':ab p.cells 4= .int .i64 p.out.err:=rfl;have p5':ab p.cells 5= .int .i64 p.out.value.kind:=rfl;have p6':ab p.cells 6= .int .i64 p.out.value.n:=rfl;have p7':ab p.cells 7=strs p.out.value.names:=rfl;have p8':ab p.cells 8=vals p.out.value.values:=rfl;have p9':ab p.cells 9=deeds p.out.deeds:=rfl;have p10':ab p.cells 10=calls p.out.calls:=rfl;have p11':ab p.cells 11=aN p.out.state:=rfl;have p12':ab p.cells 12= .bool p.ended:=rfl;have k1:gL (mods p.mods)=ao (mods p.mods):=kI rfl;have k2:gL (ints p.world)=ao (ints p.world):=kI rfl;simp -implicitDefEqProofs only[S52,c0,aj,aI,p0',p1',p2',p3',p4',p5',p6',p7',p8',p9',p10',p11',p12',Wd p.mods hb.mods,k1];rw[ap e1,kI T1.okC,aj,QI p.world hb.world,aj,k2,aj,ap e2',kI (show ay fv=true by rcases sh with⟨rfl,_⟩|⟨rfl,_⟩<;>rfl),aj,hln,ae,e3,FL52_0];have hx:¬((p.frames.length:Int)<(p.frames.length:Int)):=ZS
 simp -implicitDefEqProofs only[L52_0,am,ar,aB,ae,ai,Xt,Xr hx];rw[ap e4',ap e5',ap e6,kI M6.ds.okC,aj,kI M6.cs.okC,aj,kI M6.os.okC,aj,hrow,aj];rfl
end Go.Proofs.YtbndmpiddinalabGreatDoor
