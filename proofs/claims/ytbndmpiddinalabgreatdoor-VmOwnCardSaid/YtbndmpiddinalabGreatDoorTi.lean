/- What the functions compute, part 9. Conditions: bounds. -/
import Derived.Test.YtbndmpiddinalabGreatDoorTh
set_option linter.defProp false
set_option linter.unusedSimpArgs false
set_option linter.unusedVariables false
namespace Go.Proofs.YtbndmpiddinalabGreatDoor
open Go Go.Av Go.Av.Ap
set_option maxRecDepth 100000
@[simp] theorem RN(a:Exp)(l:List Exp):aA T 50 (dF (a:: l)) (.int .i64 0)=some (.ip (aa a.av)):=by
 grind [oB]
@[simp] theorem WL(a b:Exp)(l:List Exp):aA T 50 (dF (a:: b:: l)) (.int .i64 1)=some (.ip (aa b.av)):=by
 grind [oB]
@[simp] theorem WM(a b c:Exp)(l:List Exp):aA T 50 (dF (a:: b:: c:: l)) (.int .i64 2)=some (.ip (aa c.av)):=by
 grind [oB]
section
variable (o n:Int) (s m:aW) (ns:List aW) (es:List Exp)
@[simp] theorem qn:(Exp.mk o n s m ns es).op=o:=rfl
@[simp] theorem CG:(Exp.mk o n s m ns es).n=n:=rfl
@[simp] theorem Ip:(Exp.mk o n s m ns es).s=s:=rfl
@[simp] theorem J6:(Exp.mk o n s m ns es).m=m:=rfl
@[simp] theorem jF:(Exp.mk o n s m ns es).names=ns:=rfl
@[simp] theorem li:(Exp.mk o n s m ns es).args=es:=rfl
end
def lT(o n:Int)(s m:aW)(ns:List aW)(es:List Exp):AV.agg [.int .i64 o,.int .i64 n,.str s,.str m,strs ns,dF es]=(Exp.mk o n s m ns es).av:=by rw[Exp.av,Exp.cells_eq];rfl
theorem tT:∀(ns:List aW)(vs:List Val)(s:aW)(i:Int),ns.length=vs.length->(aY (fun x=>s== x) ns i= -1/\gO ns vs s=none)\/(∃(k:Nat)(h:k<vs.length),aY (fun x=>s== x) ns i=i+k/\gO ns vs s=some vs[k])
 |[],[],s,i,_=>.inl ⟨rfl,rfl⟩
 | n:: ns,v:: vs,s,i,h=>by
  simp only[aY,gO];by_cases hn:n=s
  ·grind
  ·have hn':(s== n)=false:=by simpa using fun e=>hn e.symm
   simp only[Xr hn,hn',Xs,Xy];rcases tT ns vs s (i+1) (by simpa using h)with⟨h1,h2⟩|⟨k,hk,h1,h2⟩
   ·grind
   ·right;exact⟨k+1,by simp;omega,ZU,by simpa using h2⟩
 |[],_:: _,_,_,h=>by simp at h
 |_:: _,[],_,_,h=>by simp at h
def ma{p:List Mod}{nm:SNm}{x:X Val}(hx:(∃v,x= .ok v)\/(∃e,x= .er e)){m:Ms}{h:Hp}(R:gZ p nm m h):ke p nm Val.av (x m) (gP x h):=by
 rcases hx with⟨v,rfl⟩|⟨e,rfl⟩
 ·exact eW R
 ·exact gw R
def lM(op:Int)(a b:Val):(∃v,oZ op a b= .ok v)\/(∃e,oZ op a b= .er e):=by
 unfold oZ;split
 ·split
  all_goals grind
 ·split
  ·split
   ·grind
   ·split
    ·grind
    ·split
     all_goals grind
  grind
def NF{l:List Exp}(h:l.length=1):∃a,l=[a]:=by
 match l,h with
 |[a],_=>grind
def AD{l:List Exp}(h:l.length=2):∃a b,l=[a,b]:=by
 match l,h with
 |[a,b],_=>grind
def VK{l:List Exp}(h:l.length=3):∃a b c,l=[a,b,c]:=by
 match l,h with
 |[a,b,c],_=>grind
def Eb{α:Type}{p:List Mod}{nm:SNm}{enc:α->AV}{c:Prop}[Decidable c]{x y:X α}{a b:M AV}{m:Ms}{h:Hp}(h1:c->ke p nm enc (x m) (a h))(h2:¬c->ke p nm enc (y m) (b h)):ke p nm enc ((if c then x else y) m) ((if c then a else b) h):=by
 grind
def Du(a b:Bool):cF T .eql 4 (.bool a) (.bool b)=some (.bool (a== b)):=by cases a<;>cases b<;>rfl
def rK(v:Val)(h:Hp):au (bD 4 [] v.av) (fun w=>ao (AV.agg [ab (aa w) 0,ab (aa w) 1,ab (aa w) 2,ab (aa w) 3])) h=ao v.av h:=by rw[La]
def ew{p:List Mod}{nm:SNm}{r:Rs Val}{c:M AV}{h:Hp}(H:ke p nm Val.av r (c h)):ke p nm Val.av r (au c (fun v=>au (bD 4 [] v) fun w=>ao (AV.agg [ab (aa w) 0,ab (aa w) 1,ab (aa w) 2,ab (aa w) 3])) h):=by
 cases r with
 |ok v s=>
  obtain⟨h',h1,h2⟩:=H;refine⟨h',?_,h2⟩;rw[ap h1,La];rfl
 |er e s=>
  obtain⟨h',h1,h2⟩:=H;exact⟨h',Dl h1,h2⟩
theorem EX{p:List Mod}{nm:SNm}{n:Nat}(IH:sN p nm n)(IR:KE p nm n)(IC:Gc p nm n)(IW:Db p nm n):sN p nm (n+1):=by
 intro own ns vs e m h R G hn hs he;have IB:=t157 IH;by_cases hf:0<m.fuel
 rotate_left
 ·have e1:cM p (n+1) own ns vs e m= .er 16 m:=by
   show qx p (cM p n) own ns vs e m=_;unfold qx X.get;simp only;rw[Xv ZS];rfl
  rw[e1];exact⟨h,GU R hf _ e,R⟩
 have hspec:cM p (n+1) own ns vs e m=(if bG e.op= -2\/(bG e.op≠-1/\bG e.op≠e.args.length)then .er 13
   else if e.op=0 then .ok (cp e.n)
   else if e.op=1 then(if e.n=0\/e.n=1 then .ok (dS (e.n== 1))else .er 13)
   else if e.op=2 then(match lC ns vs e.s with|some v=>.ok v|none=>.er 12)
   else if e.op=3\/e.op=4\/e.op=5\/e.op=6\/e.op=7 then(cM p n own ns vs e.args[0]!).bind fun a=>(cM p n own ns vs e.args[1]!).bind fun b=>oZ e.op a b
   else if e.op=8\/e.op=9 then(boolX (cM p n own ns vs e.args[0]!)).bind fun x=>if x=(e.op== 9)then .ok (dS (e.op== 9))else(boolX (cM p n own ns vs e.args[1]!)).bind fun y=>.ok (dS y)
   else if e.op=10 then(boolX (cM p n own ns vs e.args[0]!)).bind fun x=>.ok (dS !x)
   else if e.op=11 then(boolX (cM p n own ns vs e.args[0]!)).bind fun x=>if x=true then cM p n own ns vs e.args[1]! else cM p n own ns vs e.args[2]!
   else if e.op=12 then(cM p n own ns vs e.args[0]!).bind fun v=>cM p n own (ns++[e.s]) (vs++[v]) e.args[1]!
   else if e.op=13 then mT (cM p n own ns vs) e
   else if e.op=14 then(cM p n own ns vs e.args[0]!).bind fun v=>(match gO v.names v.values e.s with|some x=>if v.kind=2 then .ok x else .er 13|none=>.er 13)
   else if e.op=15 then tC p (cM p n) own ns vs e
   else vI p (cM p n own ns vs) own e:X Val) (kc m):=by
  show qx p (cM p n) own ns vs e m=_;unfold qx X.get;simp only;rw[Xr ZS];have hw:(if e.op=16 then BC (cM p n own ns vs e.args[0]!) e else C1 p (cM p n own ns vs) own e)=vI p (cM p n own ns vs) own e:=rfl;rw[hw];rfl
 have hbm:=G.bud;have G1:GoodM p (kc m):=⟨G.right,by simp only[mu,kc]at hbm |-;omega,G.fr,by simp only[kc];omega,G.shape⟩;have hmu:mu (kc m)<1000000:=by simp only[mu,kc]at hbm |-;omega
 have hn1:(kc m).fuel<=n:=by simp only[kc];omega
 have hft:(kc m).fuel<=m.fuel:=by simp only[kc];omega
 have hs1:Sc p own ns vs (kc m):=hs.less hft;by_cases hc:rL e
 rotate_left
 ·obtain⟨h1,R1,e1⟩:=Na R G hf (bC own ns vs) e hc;have hc':bG e.op= -2\/(bG e.op≠-1/\bG e.op≠e.args.length):=by
   unfold rL at hc;by_cases k:bG e.op= -2
   ·exact .inl k
   ·grind
  rw[hspec,Xv hc'];exact⟨h1,e1,R1⟩
 obtain⟨h1,R1,hl,hst⟩:=step0 R;have hw:IntKind.i64.wrap (m.fuel-1)=m.fuel-1:=aM ZS (by simp only[mu]at hbm;omega);have hc':¬(bG e.op= -2\/(bG e.op≠-1/\bG e.op≠e.args.length)):=by
  unfold rL at hc;rintro (k|⟨k1,k2⟩)
  ·exact hc.1 k
  ·grind
 rw[hspec,Xr hc'];have hcc:=hc;have hce:=hc.2;obtain⟨op,en,es,em,en2,ea⟩:=e;simp only[qn,CG,Ip,li]at hce |-;unfold rL at hc;simp only[qn,li]at hc;generalize hcode:af pg 102 [.hp 0 0,bC own ns vs,(Exp.mk op en es em en2 ea).av] h=code;rw[C102]at hcode;have hW:∀v:Val,∀h,au (bD 4 [] v.av) (fun w=>ao (AV.agg [ab (aa w) 0,ab (aa w) 1,ab (aa w) 2,ab (aa w) 3])) h=ao v.av h:=rK;by_cases k0:op=0
 ·subst k0;have hlen:ea.length=0:=by simp[bG]at hce;omega
  obtain rfl:=XH hlen;simp[S102,hl,hst,hf,bo,de,hw,t153,bG,K102_2,K102_1,K102_0,bQ,t154]at hcode;simp;rw[<- hcode];exact eW (a:=cp en) R1
 by_cases k1:op=1
 ·subst k1;have hlen:ea.length=0:=by simp[bG]at hce;omega
  obtain rfl:=XH hlen;simp[S102,hl,hst,hf,bo,de,hw,t153,bG,K102_2,K102_1,K102_0,bQ,t155]at hcode;simp;rw[<- hcode];exact Eb (fun _=>eW (a:=dS (en== 1)) R1) (fun _=>gw R1)
 by_cases k2:op=2
 ·subst k2;have hlen:ea.length=0:=by simp[bG]at hce;omega
  obtain rfl:=XH hlen;have hnl:=hs.right.1;have hns:(ns.length:Int)<=549755813888:=by have:=hs.len;omega
  have hloop:=AO (K102_0 (af pg) ak) own ns vs (.mk 2 en es em en2 []) (.int .i64 0) (.int .i64 0) (.sl []) (.sl []) hnl ZS ns.length (Xz _);have hwl:IntKind.i64.wrap ((ns.length:Int)-1)=(ns.length:Int)-1:=aM ZS ZS;rw[Zh,hnl,Zh]at hloop;simp only[cu,qn,CG,Ip,J6,jF,li]at hloop;simp[S102,hl,hst,hf,bo,de,hw,t153,bG,hwl]at hcode;rw[hnl,hloop]at hcode;simp;rw[<- hcode];cases lC ns vs es with
  |none=>exact gw R1
  |some v=>exact eW R1
 by_cases k3:op=3
 ·subst k3;have hlen:ea.length=2:=by simp[bG]at hce;omega
  obtain⟨a,b,rfl⟩:=AD hlen;have ha:bO a:=bw he ZV;have hb:bO b:=bw he ZV;simp[S102,hl,hst,hf,bo,de,hw,t153,bG,K102_2,K102_1,K102_0,bQ]at hcode;simp;rw[<- hcode];refine cI (IH own ns vs a _ _ R1 G1 hn1 hs1 ha) fun x s1 h2 hx R2=>?_;obtain⟨G2,_,f2⟩:=G1.eval hs1.right hx;refine cI (IH own ns vs b _ _ R2 G2 ZS (hs1.less f2) hb) fun y s2 h3 hy R3=>?_;rw[t156 3 x y ZV];exact ew (c:=gP (oZ 3 x y)) (ma (lM _ _ _) R3)
 by_cases k4:op=4
 ·subst k4;have hlen:ea.length=2:=by simp[bG]at hce;omega
  obtain⟨a,b,rfl⟩:=AD hlen;have ha:bO a:=bw he ZV;have hb:bO b:=bw he ZV;simp[S102,hl,hst,hf,bo,de,hw,t153,bG,K102_2,K102_1,K102_0,bQ]at hcode;simp;rw[<- hcode];refine cI (IH own ns vs a _ _ R1 G1 hn1 hs1 ha) fun x s1 h2 hx R2=>?_;obtain⟨G2,_,f2⟩:=G1.eval hs1.right hx;refine cI (IH own ns vs b _ _ R2 G2 ZS (hs1.less f2) hb) fun y s2 h3 hy R3=>?_;rw[t156 4 x y ZV];exact ew (c:=gP (oZ 4 x y)) (ma (lM _ _ _) R3)
 by_cases k5:op=5
 ·subst k5;have hlen:ea.length=2:=by simp[bG]at hce;omega
  obtain⟨a,b,rfl⟩:=AD hlen;have ha:bO a:=bw he ZV;have hb:bO b:=bw he ZV;simp[S102,hl,hst,hf,bo,de,hw,t153,bG,K102_2,K102_1,K102_0,bQ]at hcode;simp;rw[<- hcode];refine cI (IH own ns vs a _ _ R1 G1 hn1 hs1 ha) fun x s1 h2 hx R2=>?_;obtain⟨G2,_,f2⟩:=G1.eval hs1.right hx;refine cI (IH own ns vs b _ _ R2 G2 ZS (hs1.less f2) hb) fun y s2 h3 hy R3=>?_;rw[t156 5 x y ZV];exact ew (c:=gP (oZ 5 x y)) (ma (lM _ _ _) R3)
 by_cases k6:op=6
 ·subst k6;have hlen:ea.length=2:=by simp[bG]at hce;omega
  obtain⟨a,b,rfl⟩:=AD hlen;have ha:bO a:=bw he ZV;have hb:bO b:=bw he ZV;simp[S102,hl,hst,hf,bo,de,hw,t153,bG,K102_2,K102_1,K102_0,bQ]at hcode;simp;rw[<- hcode];refine cI (IH own ns vs a _ _ R1 G1 hn1 hs1 ha) fun x s1 h2 hx R2=>?_;obtain⟨G2,_,f2⟩:=G1.eval hs1.right hx;refine cI (IH own ns vs b _ _ R2 G2 ZS (hs1.less f2) hb) fun y s2 h3 hy R3=>?_;rw[t156 6 x y ZV];exact ew (c:=gP (oZ 6 x y)) (ma (lM _ _ _) R3)
 by_cases k7:op=7
 ·subst k7;have hlen:ea.length=2:=by simp[bG]at hce;omega
  obtain⟨a,b,rfl⟩:=AD hlen;have ha:bO a:=bw he ZV;have hb:bO b:=bw he ZV;simp[S102,hl,hst,hf,bo,de,hw,t153,bG,K102_2,K102_1,K102_0,bQ]at hcode;simp;rw[<- hcode];refine cI (IH own ns vs a _ _ R1 G1 hn1 hs1 ha) fun x s1 h2 hx R2=>?_;obtain⟨G2,_,f2⟩:=G1.eval hs1.right hx;refine cI (IH own ns vs b _ _ R2 G2 ZS (hs1.less f2) hb) fun y s2 h3 hy R3=>?_;rw[t156 7 x y ZV];exact ew (c:=gP (oZ 7 x y)) (ma (lM _ _ _) R3)
 by_cases k8:op=8
 ·subst k8;have hlen:ea.length=2:=by simp[bG]at hce;omega
  obtain⟨a,b,rfl⟩:=AD hlen;have ha:bO a:=bw he ZV;have hb:bO b:=bw he ZV;simp[S102,hl,hst,hf,bo,de,hw,t153,bG,K102_2,K102_1,K102_0,bQ]at hcode;simp;rw[<- hcode];refine cI (IB own ns vs a _ _ R1 G1 hn1 hs1 ha) fun x s1 h2 hx R2=>?_;obtain⟨G2,f2⟩:=G1.bool hs1.right hx;rw[Du];simp only[ae,ai];cases x
  ·simp[t155];exact eW R2
  ·simp[t155];refine cI (IB own ns vs b _ _ R2 G2 ZS (hs1.less f2) hb) fun y s2 h3 hy R3=>?_;simp_all[t155,eW]
 by_cases k9:op=9
 ·subst k9;have hlen:ea.length=2:=by simp[bG]at hce;omega
  obtain⟨a,b,rfl⟩:=AD hlen;have ha:bO a:=bw he ZV;have hb:bO b:=bw he ZV;simp[S102,hl,hst,hf,bo,de,hw,t153,bG,K102_2,K102_1,K102_0,bQ]at hcode;simp;rw[<- hcode];refine cI (IB own ns vs a _ _ R1 G1 hn1 hs1 ha) fun x s1 h2 hx R2=>?_;obtain⟨G2,f2⟩:=G1.bool hs1.right hx;rw[Du];simp only[ae,ai];cases x
  ·simp[t155];refine cI (IB own ns vs b _ _ R2 G2 ZS (hs1.less f2) hb) fun y s2 h3 hy R3=>?_;simp_all[t155,eW]
  ·simp[t155];exact eW R2
 by_cases k10:op=10
 ·subst k10;have hlen:ea.length=1:=by simp[bG]at hce;omega
  obtain⟨a,rfl⟩:=NF hlen;have ha:bO a:=bw he ZV;simp[S102,hl,hst,hf,bo,de,hw,t153,bG,K102_2,K102_1,K102_0,bQ]at hcode;simp;rw[<- hcode];refine cI (IB own ns vs a _ _ R1 G1 hn1 hs1 ha) fun x s1 h2 hx R2=>?_;simp_all[t155,eW]
 by_cases k11:op=11
 ·subst k11;have hlen:ea.length=3:=by simp[bG]at hce;omega
  obtain⟨a,b,c,rfl⟩:=VK hlen;have ha:bO a:=bw he ZV;have hb:bO b:=bw he ZV;have hc3:bO c:=bw he ZV;simp[S102,hl,hst,hf,bo,de,hw,t153,bG,K102_2,K102_1,K102_0,bQ]at hcode;simp;rw[<- hcode];refine cI (IB own ns vs a _ _ R1 G1 hn1 hs1 ha) fun x s1 h2 hx R2=>?_;obtain⟨G2,f2⟩:=G1.bool hs1.right hx;simp only[ai];exact Eb (fun _=>ew (IH own ns vs b _ _ R2 G2 ZS (hs1.less f2) hb)) (fun _=>ew (IH own ns vs c _ _ R2 G2 ZS (hs1.less f2) hc3))
 by_cases k12:op=12
 ·subst k12;have hlen:ea.length=2:=by simp[bG]at hce;omega
  obtain⟨a,b,rfl⟩:=AD hlen;have ha:bO a:=bw he ZV;have hb:bO b:=bw he ZV;simp[S102,hl,hst,hf,bo,de,hw,t153,bG,K102_2,K102_1,K102_0,bQ]at hcode;simp;rw[<- hcode];refine cI (IH own ns vs a _ _ R1 G1 hn1 hs1 ha) fun x s1 h2 hx R2=>?_;obtain⟨G2,rx,f2⟩:=G1.eval hs1.right hx;have hsl:=hs1.len;have hrl:=hs1.right.1;have hfu:=G1.fuel;rw[t142 own ns vs es x ZS ZS];simp only[dG,aj];refine ew (IH own (ns++[es]) (vs++[x]) b _ _ R2 G2 ZS ⟨hs1.own,⟨by simp[hrl],fun w hw=>?_⟩,?_⟩ hb)
  ·rcases Ya.1 hw with k|k
   ·exact hs1.right.2 w k
   grind
  ·have:(kc m).fuel=m.fuel-1:=rfl
   have:=hs.len
   grind
 by_cases k13:op=13
 ·subst k13;simp[S102,hl,hst,hf,bo,de,hw,t153,bG,K102_2,K102_1,K102_0,bQ,lT]at hcode;simp;rw[<- hcode];exact ew (IR own ns vs _ _ _ R1 G1 hn1 hs1 he)
 by_cases k14:op=14
 ·subst k14;have hlen:ea.length=1:=by simp[bG]at hce;omega
  obtain⟨a,rfl⟩:=NF hlen;have ha:bO a:=bw he ZV;simp[S102,hl,hst,hf,bo,de,hw,t153,bG,K102_2,K102_1,K102_0,bQ]at hcode;simp;rw[<- hcode];refine cI (IH own ns vs a _ _ R1 G1 hn1 hs1 ha) fun x s1 h2 hx R2=>?_;obtain⟨G2,rx,f2⟩:=G1.eval hs1.right hx;have hrl:=CP rx;have h8:=pB rx;have hi:=t159 x.names es ZS;rw[bc (dW x)];simp only[aj,aI,bK,XQ,XK,LD31,LD23,LD3,ae,hi,aH,jq,aE,am,bg,bo,de];rcases tT x.names x.values es 0 hrl with⟨j1,j2⟩|⟨k,hk,j1,j2⟩
  ·rw[j1,j2];simp only[show decide ((0:Int)<=-1)=false by decide,YG,Xs,Xy];exact gw R2
  ·rw[j1,j2];have hk0:decide ((0:Int)<=0+(k:Int))=true:=ZV
   rw[hk0];simp only[Yz];by_cases hk2:x.kind=2
   ·have hix:=qG (l:=x.values) (n:=0+(k:Int)) ZS ZS;have e5:(0+(k:Int)).toNat=k:=ZS
    rw[e5,Xx x.values k hk]at hix;have hld:ax T 33 (.ip (aa (x.values[k]).av))=some (x.values[k]).av:=ZV
    simp_all[eW]
   simp_all[gw]
 by_cases k15:op=15
 ·subst k15;simp[S102,hl,hst,hf,bo,de,hw,t153,bG,K102_2,K102_1,K102_0,bQ,lT]at hcode;simp;rw[<- hcode];exact ew (IC own ns vs _ _ _ R1 G1 hmu hn1 hs1 he)
 by_cases k16:op=16
 ·subst k16;simp[S102,hl,hst,hf,bo,de,hw,t153,bG,K102_2,K102_1,K102_0,bQ,lT]at hcode;have hce':bG 16=ea.length:=by simp only[bG]at hce |-;simpa using hce
  simp only[bG]at hce';simp at hce';simp[<- hce']at hcode;simp;rw[<- hcode];exact ew (IW own ns vs (.mk 16 en es em en2 ea) _ _ ZV hcc R1 G1 hmu hn1 hs1 he)
 by_cases k17:op=17
 ·subst k17;simp[S102,hl,hst,hf,bo,de,hw,t153,bG,K102_2,K102_1,K102_0,bQ,lT]at hcode;have hce':bG 17=ea.length:=by simp only[bG]at hce |-;simpa using hce
  simp only[bG]at hce';simp at hce';simp[<- hce']at hcode;simp;rw[<- hcode];exact ew (IW own ns vs (.mk 17 en es em en2 ea) _ _ ZV hcc R1 G1 hmu hn1 hs1 he)
 by_cases k18:op=18
 ·subst k18;simp[S102,hl,hst,hf,bo,de,hw,t153,bG,K102_2,K102_1,K102_0,bQ,lT]at hcode;have hce':bG 18=ea.length:=by simp only[bG]at hce |-;simpa using hce
  simp only[bG]at hce';simp at hce';simp[<- hce']at hcode;simp;rw[<- hcode];exact ew (IW own ns vs (.mk 18 en es em en2 ea) _ _ ZV hcc R1 G1 hmu hn1 hs1 he)
 grind [bG]
def sM{α β γ:Type}(x:X α)(f:α->X β)(g:β->X γ):(x.bind f).bind g=x.bind fun a=>(f a).bind g:=by
 funext m;unfold X.bind
 grind
theorem qE{α β:Type}(a:α)(f:α->X β):(X.ok a).bind f=f a:=rfl
theorem AL{p:List Mod}{nm:SNm}{n:Nat}(IH:sN p nm n)(own:Int)(ns:List aW)(vs:List Val)(en:List aW)(es:List Exp)(x5 x6 x7 x8:AV)(hes:∀e∈es,bO e)(h8:es.length<=8):
  ∀(B A:List Exp)(acc:List Val)(m:Ms)(h:Hp),A++B=es->acc.length=A.length->(∀v∈acc,Rv v)->en.length<=8->gZ p nm m h->GoodM p m->m.fuel<=n->Sc p own ns vs m->
  ke p nm Val.av ((listX (cM p n own ns vs) B).bind (fun ws=>if dO (.mk 2 0 en (acc++ws))<=4 then .ok (.mk 2 0 en (acc++ws))else .er 6) m)
   (ak (L158_0 (af pg) ak) [.hp 0 0,.ip (aa (bC own ns vs)),dF es,.int .i64 es.length,.int .i64 A.length,x5,x6,x7,x8,.int .i64 2,.int .i64 0,strs en,vals acc] h)
 | [],A,acc,m,h,e,ha,hr,hen,R,G,hn,hs=>by
  simp only[XS]at e;subst e;have hsz:(Val.mk 2 0 en acc).sz<=1099511627776:=by
   have h2:db acc<=acc.length*200000:=by
    have key:∀l:List Val,(∀v∈l,Rv v)->db l<=l.length*200000:=by
     intro l
     induction l with
     |nil=>intro _;simp[db]
     |cons v l ih=>
      grind [nS,db]
    exact key acc hr
   simp only[Val.sz];have:acc.length*200000<=8*200000:=XB _ ZS;omega
  have hlv:=t177 _ (.mk 2 0 en acc) (Xz _) hsz;rw[Val.av_eq]at hlv;simp only[Xl,Xm,Xg,Xe]at hlv;have hw:∀h,au (bD 4 [] (AV.agg [.int .i64 2,.int .i64 0,strs en,vals acc])) (fun w=>ao (AV.agg [ab (aa w) 0,ab (aa w) 1,ab (aa w) 2,ab (aa w) 3])) h=ao (Val.mk 2 0 en acc).av h:=fun h=>by
   have:=rK (Val.mk 2 0 en acc) h
   simp_all[Val.av_eq]
  rw[FL158_0];simp only[listX,qE,XS];simp only[L158_0,am,ar,aB,ae,ai,ZR,YO,Xs,Xy,hlv,aj,fm,bo,de,hw];by_cases h4:dO (.mk 2 0 en acc)<=4
  ·have h4':decide (((dO (.mk 2 0 en acc):Nat):Int)<=4)=true:=by simp;omega
   simp_all[eW]
  ·have h4':decide (((dO (.mk 2 0 en acc):Nat):Int)<=4)=false:=by simp;omega
   simp only[h4,h4',Xs,Xy];exact gw R
 | x:: B,A,acc,m,h,e,ha,hr,hen,R,G,hn,hs=>by
  have hll:A.length+(B.length+1)=es.length:=by rw[<- e];simp
  have h1:(A.length:Int)<(es.length:Int):=ZS
  have hx:es[A.length]'(ZS)=x:=by subst e;simp
  have hm:x∈es:=by rw[<- e];simp
  have hi:=oB (l:=es) (n:=(A.length:Int)) ZS h1;rw[show ((A.length:Int)).toNat=A.length by omega,Xx es A.length ZS,hx]at hi;have hsc:ax T 189 (.ip (aa (bC own ns vs)))=some (bC own ns vs):=rfl;have hex:ax T 108 (.ip (aa x.av))=some x.av:=ZV
  rw[FL158_0];simp only[listX,sM,qE];simp only[L158_0,am,ar,aB,ae,ai,h1,XY,XF,hi,hex,bc (qh x),aj,hsc,aI];refine cI (IH own ns vs x m h R G hn hs (hes x hm)) fun v s h' hv Rs=>?_;obtain⟨G2,rv,f2⟩:=G.eval hs.right hv;have hb2:aQ T 23 1 [(0,v.av)]=some (vals [v]):=by rw[v.av_eq];simp[vals,d7,v.av_eq];rfl
  have ha2:dJ T 23 (vals acc) (vals [v])=some (vals (acc++[v])):=I7 ZX;have hc1:gL (vals (acc++[v]))=ao (vals (acc++[v])):=rfl;have hw:IntKind.i64.wrap ((A.length:Int)+1)=((A.length+1:Nat):Int):=aZ ZS;simp only[hb2,ae,ha2,hc1,aj,bm,hw];have ih:=AL IH own ns vs en es x5 x6 x7 x8 hes h8 B (A++[x]) (acc++[v]) s h' ZU (by simp[ha]) (fun w hw=>by
   grind) hen Rs G2 ZS (hs.less f2)
  grind
theorem t158{p:List Mod}{nm:SNm}{n:Nat}(IH:sN p nm n):KE p nm n:=by
 intro own ns vs e m h R G hn hs he;obtain⟨l1,l2⟩:=mE he;unfold mT;have ha:=t162 e.names ZS;have hcl:=t113 e.names ZS;have hB:cG T true 33 [(0,.int .i64 2),(2,strs e.names)]=some (.agg [.int .i64 2,.int .i64 0,strs e.names,.hn]):=rfl;have hC:bD 4 [3] (.agg [.int .i64 2,.int .i64 0,strs e.names,.hn])=ao (.agg [.int .i64 2,.int .i64 0,strs e.names,.hn]):=rfl;rw[C158];simp only[S158,cu,FA108_4,FA108_5,XQ,XK,LD31,LD50,iB,qH,ae,aH,ha,aj,aE,am,ar,bg,bo,de,fm,hcl,hB,hC,aI];have hsc:(AV.ip (aa (bC own ns vs)))= .ip [.int .i64 own,strs ns,vals vs]:=rfl;by_cases hl:e.names.length=e.args.length
 ·by_cases hasc:asc e.names=true
  ·have e1:((e.names.length:Int)== (e.args.length:Int)&&asc e.names)=true:=by simp[hl,hasc]
   simp only[hl,hasc,e1,ZE,XF];by_cases h8:e.args.length<=8
   ·have h8':decide ((e.args.length:Int)<=8)=true:=by simp;omega
    have e2:((e.args.length:Int)== (e.args.length:Int)&&true)=true:=ZV
    simp only[h8,h8',e2,XF]
    have:=AL IH own ns vs e.names e.args (.int .i64 0) (.int .i64 0) (.sl []) (.sl []) (fun x hx=>bw he hx) h8 e.args [] [] m h rfl rfl (fun v hv=>by cases hv) ZS R G hn hs
    simp only[X1]at this;exact this
   ·have h8':decide ((e.args.length:Int)<=8)=false:=by simp;omega
    have e2:((e.args.length:Int)== (e.args.length:Int)&&true)=true:=ZV
    simp only[h8,h8',e2,XF,Xs,Xy];exact gw R
  simp_all[gw]
 simp_all[gw]
def CI(s t:aW)(v:AV)(h:ay v=true):bR 3 (.agg [.str s,.str t,v])=true:=by
 simp only[bR,dA,aa,XP,Zq];rw[h];rfl
def B3{p:List Mod}{nm:SNm}{tag:Nat->Nat}{dv cv sv:AV}{m:Ms}{h:Hp}(R:RepT (rowP p nm.told) nm tag dv cv sv m h)(l:List Val)(hb:l.length<=274877906944):
  ∃av h1 tag1,af pg 25 [vals l] h= .ok av h1/\RepT (rowP p nm.told) nm tag1 dv cv sv m h1/\xO tag1 4 h1 l av/\ay av=true:=by
 have e0:af pg 25 [vals l]=cy T 23 (af pg) [vals l]:=d9 g8 rfl _;have e1:=nz (T:=T) (t:=23) rfl rfl rfl rfl rfl ZT (af pg) l (show l.length*64<=140737488355328 by omega) h;rw[e0];by_cases hl:l=[]
 ·rw[Xv hl]at e1;exact⟨_,h,tag,e1,R,.inl (.inr ⟨hl,rfl⟩),rfl⟩
 ·rw[Xr hl]at e1;refine⟨_,_,_,e1,(R.more (aw l) 4).1,.inr ⟨h.length,rfl,ZV,ZV⟩,rfl⟩
def FC{p:List Mod}{nm:SNm}{tag:Nat->Nat}{dv cv sv:AV}{m:Ms}{h:Hp}(R:RepT (rowP p nm.told) nm tag dv cv sv m h)(c:Ap.Call)(av:AV)(ha:xO tag 4 h c.args av)(hok:ay av=true)(hb:m.calls.length<=2000000):
  ∃cv' h1 h2,appH T 35 false cv (.sl [.agg [.str c.module,.str c.func,av]]) h= .ok cv' h1/\bS T 35 (.hp 0 10) cv' h1= .ok (.tup []) h2/\gZ p nm { m with calls:=m.calls++[c] } h2:=by
 obtain⟨h1,cv',tag',e1,K,H,hc⟩:=AZ (T:=T) (t:=35) rfl rfl rfl rfl ZT rfl ZT (x:=.agg [.str c.module,.str c.func,av]) R.cs (fun h0=>by
  have:m.calls=[]:=XH h0;rw[this];rfl) (fun cs h=>h.ok.1) (CI _ _ _ hok) (show (m.calls.length+1)*56<=140737488355328 by omega)
 have h0:=(K 0 _ R.r0 (by rw[R.t0];decide)).1;refine⟨cv',h1,_,e1,bT rfl h0 (kQ hc).1 (show 10+1<=12 by decide) ZT,?_⟩;have hac:aa cv'=[cv']:=(kQ hc).2.1
 have:=R.pushCall (m':={ m with calls:=m.calls++[c] }) K ha H rfl rfl rfl id
 refine⟨tag',dv,cv',sv,?_⟩;rw[hac];exact this
def vp{p:List Mod}{nm:SNm}{m:Ms}{h:Hp}(R:gZ p nm m h)(x:Int):∃h1,gZ p nm { m with frames:=x } h1/\(∀f:AV->M AV,au (bb T 3 (.hp 0 3)) f h=f (.int .i64 m.frames) h)/\
  (∀f:AV->M AV,au (bS T 3 (.hp 0 3) (.int .i64 x)) f h=f (.tup []) h1):=by
 obtain⟨tag,dv,cv,sv,R⟩:=R;exact⟨_,⟨tag,dv,cv,sv,R.set0 rfl rfl rfl id⟩,fun f=>ap (bN rfl rfl R.r0 rfl),fun f=>ap (bT rfl R.r0 rfl (show 3+1<=12 by decide) ZT)⟩
theorem xg(f:Fun)(a:Int)(ps:List fF)(l:List Val)(x6 x7 x8 x9:AV)(hb:ps.length<=274877906944)(hl:l.length=ps.length):∀(B A:List fF)(lb la:List Val),A++B=ps->la++lb=l->la.length=A.length->
  ak (L83_0 (af pg) ak) [.hp 0 0,vals l,.ip (aa f.av),ck ps,.int .i64 ps.length,.int .i64 A.length,x6,x7,x8,x9,.int .i64 a,strs (A.map (·.1)),vals la]=
  ak (L83_0 (af pg) ak) [.hp 0 0,vals l,.ip (aa f.av),ck ps,.int .i64 ps.length,.int .i64 ps.length,x6,x7,x8,x9,.int .i64 a,strs (ps.map (·.1)),vals l]
 | [],A,lb,la,e,e2,hla=>by
  simp only[XS]at e;subst e;have hz:lb=[]:=by
   apply XH;have:(la++lb).length=l.length:=by rw[e2]
   rw[XL]at this;omega
  grind
 | x:: B,A,lb,la,e,e2,hla=>by
  have hll:A.length+(B.length+1)=ps.length:=by rw[<- e];simp
  have h1:(A.length:Int)<(ps.length:Int):=ZS
  have hx:ps[A.length]'(ZS)=x:=by subst e;simp
  obtain⟨v,lb',rfl⟩:∃v lb',lb=v:: lb':=by
   cases lb with
   |nil=>
    grind
   |cons v lb'=>grind
  have hv:l[A.length]'(ZS)=v:=by
   subst e2;rw[List.getElem_append_right ZS];simp[hla]
  have hi:=xR (l:=ps) (n:=(A.length:Int)) ZS h1;rw[show ((A.length:Int)).toNat=A.length by omega,Xx ps A.length ZS,hx]at hi;have hj:=qG (l:=l) (n:=(A.length:Int)) ZS ZS;rw[show ((A.length:Int)).toNat=A.length by omega,Xx l A.length ZS,hv]at hj;have hfl:ax T 154 (.ip [.str x.1,.int .i64 x.2.kind,ck x.2.fields])=some (dV x):=ZV
  have hvl:ax T 33 (.ip (aa v.av))=some v.av:=ZV
  have hw:IntKind.i64.wrap ((A.length:Int)+1)=((A.length+1:Nat):Int):=aZ ZS;have hbd:=t142 a (A.map (·.1)) la x.1 v ZX ZS;have ih:=xg f a ps l x6 x7 x8 x9 hb hl B (A++[x]) lb' (la++[v]) ZU ZU (by simp[hla]);simp only[Y8,Yf,ZG,XL,List.length_singleton]at ih;rw[<- ih,FL83_0];simp only[L83_0,am,ar,aB,ae,ai,h1,XY,XF,hi,hfl,bc (uP x),aj,aI,mh,FA154_0,XK,LD9,hj,hvl,bQ,hbd,dG,gh (px _ _ _),fK,bm,hw]
def Da(p:List Mod)(nm:SNm)(n:Nat):Prop:=∀(a:Int) (f:Fun) (l:List Val) m h,0<=a->a<p.length->f∈(p[a.toNat]?.getD default).funcs->l.length=f.params.length->(∀v∈l,Rv v)->gZ p nm m h->GoodM p m->mu m<1000000->m.fuel<=n->
 ke p nm Val.av (jO p (cM p n) a f l m) (af pg 83 [.hp 0 0,.int .i64 a,f.av,vals l] h)
def BP(s t:aW)(v:AV)(h:ay v=true):cG T false 126 [(0,.str s),(1,.str t),(2,v)]=some (.agg [.str s,.str t,v]):=by
 have hc:=kQ h;show (rW _ _ [(0,.str s),(1,.str t),(2,v)]).map AV.agg=_;simp only[rW];have h2:=hc.2.2;have h3:=hc.2.1;cases v with
 |any=>cases h
 |agg _=>cases h
 |tup _=>cases h
 |_=>rfl
theorem zD(x:AV)(hx:dA x=some 3):aQ T 35 1 [(0,x)]=some (.sl [x]):=by
 have h1:aQ T 35 1 [(0,x)]=(mF 3 (List.replicate 1 (.agg [.str [],.str [],.sl []])) [(0,x)]).map .sl:=rfl
 grind [mF]
theorem Ca{p:List Mod}{nm:SNm}{n:Nat}(LB:LimB p)(IH:sN p nm n)(a:Int)(f:Fun)(l:List Val)(m:Ms)(h0:0<=a)(ha:a<p.length)(hf:f∈(p[a.toNat]?.getD default).funcs)(hl:l.length=f.params.length)(hr:∀v∈l,Rv v)(G:GoodM p m)(hmu:mu m<1000000)(hn:m.fuel<=n):
  ∀ (m1:Ms) (h1:Hp),gZ p nm m1 h1->m1= { m with calls:=if f.pub=true then m.calls++[⟨(p[a.toNat]?.getD default).name,f.name,l⟩]else m.calls } ->m.frames<60->
   ke p nm Val.av (((cM p n a (f.params.map (·.1)) l f.body).bind fun v=>.upd (fun m=>{ m with frames:=m.frames-1 }) (.ok v)) (qP p a f l m))
    (K83_0 (af pg) ak [.hp 0 0,.int .i64 a,vals l,.ip (aa f.av),.int .i64 0,.int .i64 0,.sl [],.sl []] h1):=by
 have hlt:a.toNat<p.length:=ZS
 have hmp:p[a.toNat]?.getD default∈p:=by rw[XE hlt];exact XG hlt
 obtain⟨hbody,hparams⟩:=LB.body _ hmp f hf;have hfb:=G.bud;have hfu:=G.fuel;have hfr:=G.fr;intro m1 h1 R1 e1 h60;have hB:cG T false 189 [(0,.int .i64 a)]=some (bC a [] []):=rfl;have hcell:=gh (px a [] []);have hloop:=xg f a f.params l (.int .i64 0) (.int .i64 0) (.sl []) (.sl []) hparams hl f.params [] l [] rfl rfl rfl;have hw1:IntKind.i64.wrap (m.frames+1)=m.frames+1:=aM ZS ZS;obtain⟨h2,R2,l2,s2⟩:=vp R1 (m.frames+1);have e2:{ m1 with frames:=m.frames+1 } = qP p a f l m:=by rw[e1];rfl
 have hm1f:m1.frames=m.frames:=by rw[e1]
 rw[e2]at R2;rw[hm1f]at l2;have hld:ax T 49 (.ip (ck f.params:: [.int .i64 f.result.kind,ck f.result.fields,.int .i64 f.effects,.int .i64 f.body.op,.int .i64 f.body.n,.str f.body.s,.str f.body.m,strs f.body.names,dF f.body.args]))=some (ck f.params):=rfl;have hex:ax T 108 (.ip [.int .i64 f.body.op,.int .i64 f.body.n,.str f.body.s,.str f.body.m,strs f.body.names,dF f.body.args])=some f.body.av:=by
  have:ax T 108 (.ip (aa f.body.av))=some f.body.av:=ZV
  rwa [cu]at this
 simp only[ZG,Yi]at hloop;have hz:((0:Nat):Int)=0:=rfl;rw[hz]at hloop;have hm2:(if f.pub=true then m.calls++[(⟨(p[a.toNat]?.getD default).name,f.name,l⟩:Ap.Call)]else m.calls).length<=m.calls.length+1:=by
  split
  ·simp
  ·omega
 have G2:GoodM p (qP p a f l m):=by
  refine⟨⟨G.right.1,fun c hc=>?_⟩,?_,ZU,hfu,G.shape⟩
  ·simp only[qP]at hc;split at hc
   ·rcases Ya.1 hc with k|k
    ·exact G.right.2 c k
    grind
   ·exact G.right.2 c hc
  ·grind [mu]
 simp only[K83_0,am,ar,hB,ae,hcell,aj,aI,fK,mi,FA110_2,FA110_5,XQ,XK,hld,ni]at hloop |-;rw[show strs []=strs []from rfl]at hloop;rw[hloop,FL83_0];simp only[L83_0,am,ar,aB,ae,ai,ZR,YO,Xs,Xy,aJ,FH166_3,XI,l2,bm,hw1,s2,FA110_5,XQ,XK,hex,bQ];have hns:((f.params.map (·.1)).length:Int)+(qP p a f l m).fuel<=549755813888:=by
  simp only[Yy,qP];simp only[mu]at hfb;omega
 refine cI (IH a (f.params.map (·.1)) l f.body _ _ R2 G2 hn ⟨ha,⟨by simp[hl],hr⟩,hns⟩ hbody) fun v s h3 hv R3=>?_;obtain⟨G3,_,_⟩:=G2.eval ⟨by simp[hl],hr⟩ hv;obtain⟨h4,R4,l4,s4⟩:=vp R3 (s.frames-1);have hfr3:=G3.fr;have hw2:IntKind.i64.wrap (s.frames-1)=s.frames-1:=aM ZS ZS;have hvl:ax T 33 (.ip (aa v.av))=some v.av:=ZV
 simp only[bc (dW v),aj,aI,aJ,ae,FH166_3,XI,l4,dY,hw2,s4,hvl];have e9:_=Av.R.ok v.av h4:=rK v h4;rw[e9];exact⟨h4,rfl,R4⟩
def t83{p:List Mod}{nm:SNm}{n:Nat}(LB:LimB p)(IH:sN p nm n):Da p nm n:=by
 intro a f l m h h0 ha hf hl hr R G hmu hn;have hlt:a.toNat<p.length:=ZS
 have hmp:p[a.toNat]?.getD default∈p:=by rw[XE hlt];exact XG hlt
 obtain⟨hbody,hparams⟩:=LB.body _ hmp f hf;have hfb:=G.bud;have hfu:=G.fuel;have hfr:=G.fr;have tail:=Ca LB IH a f l m h0 ha hf hl hr G hmu hn;simp only[mi]at tail;obtain⟨tag,dv,cv,sv,R0⟩:=R;have l3:∀g:AV->M AV,au (bb T 3 (.hp 0 3)) g h=g (.int .i64 m.frames) h:=fun g=>ap (bN rfl rfl R0.r0 rfl);have lc:∀g:AV->M AV,au (bb T 35 (.hp 0 10)) g h=g cv h:=fun g=>ap (bN rfl rfl R0.r0 rfl);have lm:∀g:AV->M AV,au (bb T 22 (.hp 0 0)) g h=g (mods p) h:=fun g=>ap (bN rfl rfl R0.r0 (by rw[<- ta (t:=nm.told) (fun e=>ZU)];rfl));generalize hcode:af pg 83 [.hp 0 0,.int .i64 a,f.av,vals l] h=code;rw[C83]at hcode;simp -implicitDefEqProofs only[S83,aJ,ae,FH166_3,XI,l3,aB,bo,uy]at hcode;by_cases h60:m.frames<60
 ·rw[qQ,Xv h60];have hd:decide (m.frames<60)=true:=by simpa using h60
  simp only[hd,de,XF]at hcode;simp -implicitDefEqProofs only[mi,FA110_1,FA110_0,XQ,XK,LD4,LD9,ae,ai]at hcode;by_cases hp:f.pub=true
  ·simp only[hp,XF]at hcode tail;have hi:=Et (l:=p) (n:=a) h0 ha;rw[Xx p a.toNat hlt]at hi;have e3:p[a.toNat]?.getD default=p[a.toNat]:=by rw[XE hlt];rfl
   obtain⟨av,h1,tag1,c1,R1,A1,ok1⟩:=B3 R0 l ZS;obtain⟨cv',h2,h3,p1,p2,R3⟩:=FC R1 ⟨p[a.toNat].name,f.name,l⟩ av A1 ok1 (by simp only[mu]at hmu;omega);have hB:cG T false 126 [(0,.str p[a.toNat].name),(1,.str f.name),(2,av)]=some (.agg [.str p[a.toNat].name,.str f.name,av]):=BP _ _ _ ok1;have hBS:=zD (.agg [.str p[a.toNat].name,.str f.name,av]) rfl;have lc1:∀g:AV->M AV,au (bb T 35 (.hp 0 10)) g h=g cv h:=lc;simp -implicitDefEqProofs only[lc,lm,hi,fJ,FA55_0,FH166_0,FH166_4,FH37_3,XK,LD9,ae,XI,Nat.reduceAdd]at hcode;rw[ap c1]at hcode;simp only[hB,hBS,ae]at hcode
   grind [ap]
  ·simp only[hp,Xs,Xy]at hcode tail;rw[<- hcode];exact tail m h ⟨tag,dv,cv,sv,R0⟩ rfl h60
 ·rw[qQ,Xr h60];have hd:decide (m.frames<60)=false:=by simpa using h60
  simp only[hd,de,Xs,Xy]at hcode;rw[<- hcode];exact⟨h,rfl,tag,dv,cv,sv,R0⟩
theorem xi{p:List Mod}{nm:SNm}{n:Nat}(IH:sN p nm n)(IE:Da p nm n)(own:Int)(ns:List aW)(vs:List Val)(at_:Int)(f:Fun)(es:List Exp)(x8 x9 ON x11:AV)(ha:0<=at_)(hat:at_<p.length)(hf:f∈(p[at_.toNat]?.getD default).funcs)(hes:∀e∈es,bO e)(h8:es.length<=274877906944)(hlen:es.length=f.params.length):
  ∀(B A:List Exp)(acc:List Val)(m:Ms)(h:Hp),A++B=es->acc.length=A.length->(∀v∈acc,Rv v)->gZ p nm m h->GoodM p m->mu m<1000000->m.fuel<=n->Sc p own ns vs m->
  ke p nm Val.av ((listX (cM p n own ns vs) B).bind (fun ws=>jO p (cM p n) at_ f (acc++ws)) m)
   (ak (L160_0 (af pg) ak) [.hp 0 0,.ip (aa (bC own ns vs)),.int .i64 at_,.ip (aa f.av),vals acc,dF es,.int .i64 es.length,.int .i64 A.length,x8,x9,ON,x11] h)
 |[],A,acc,m,h,e,hac,hr,R,G,hmu,hn,hs=>by
  simp only[XS]at e;subst e;have hfl:ax T 110 (.ip (aa f.av))=some f.av:=ZV
  have IE':=IE at_ f acc m h ha hat hf ZS hr R G hmu hn;generalize hcode:ak (L160_0 (af pg) ak) [.hp 0 0,.ip (aa (bC own ns vs)),.int .i64 at_,.ip (aa f.av),vals acc,dF A,.int .i64 A.length,.int .i64 A.length,x8,x9,ON,x11] h=code;rw[FL160_0]at hcode;simp -implicitDefEqProofs only[L160_0,am,ar,aB,ae,ai,ZR,YO,Xs,Xy,hfl]at hcode;simp only[listX,qE,XS];rw[<- hcode];exact ew IE'
 | x:: B,A,acc,m,h,e,hac,hr,R,G,hmu,hn,hs=>by
  have hll:A.length+(B.length+1)=es.length:=by rw[<- e];simp
  have h1:(A.length:Int)<(es.length:Int):=ZS
  have hx:es[A.length]'(ZS)=x:=by subst e;simp
  have hm:x∈es:=by rw[<- e];simp
  have hi:=oB (l:=es) (n:=(A.length:Int)) ZS h1;rw[show ((A.length:Int)).toNat=A.length by omega,Xx es A.length ZS,hx]at hi;have hsc:ax T 189 (.ip (aa (bC own ns vs)))=some (bC own ns vs):=rfl;have hex:ax T 108 (.ip (aa x.av))=some x.av:=ZV
  have hw:IntKind.i64.wrap ((A.length:Int)+1)=((A.length+1:Nat):Int):=aZ ZS;generalize hcode:ak (L160_0 (af pg) ak) [.hp 0 0,.ip (aa (bC own ns vs)),.int .i64 at_,.ip (aa f.av),vals acc,dF es,.int .i64 es.length,.int .i64 A.length,x8,x9,ON,x11] h=code;rw[FL160_0]at hcode;simp -implicitDefEqProofs only[L160_0,am,ar,aB,ae,ai,h1,XY,XF,hi,hex,bc (qh x),aj,hsc]at hcode;have hex':ax T 108 (.ip (aa (.agg (aa x.av))))=some x.av:=hex;simp -implicitDefEqProofs only[hex',ae]at hcode;rw[<- hcode];simp only[listX,sM,qE];refine cI (IH own ns vs x m h R G hn hs (hes x hm)) fun v s h' hv Rs=>?_;obtain⟨G2,rv,f2⟩:=G.eval hs.right hv;obtain⟨t1,_⟩:=tk n own ns vs x m v s G.fuel hv;have hb2:aQ T 23 1 [(0,v.av)]=some (vals [v]):=by rw[v.av_eq];simp[vals,d7,v.av_eq];rfl
  have ha2:dJ T 23 (vals acc) (vals [v])=some (vals (acc++[v])):=I7 ZX;have ih:=xi IH IE own ns vs at_ f es x8 x9 ON x11 ha hat hf hes h8 hlen B (A++[x]) (acc++[v]) s h' ZU (by simp[hac]) (fun w hw=>by
   grind) Rs G2 ZS ZS (hs.less f2)
  simp_all
def mm(f:Fun):cg 12 f.av=ao (.agg (aa f.av)):=bc (qj f)
theorem wH{p:List Mod}{nm:SNm}{n:Nat}(LB:LimB p)(IH:sN p nm n)(own:Int)(ns:List aW)(vs:List Val)(e:Exp)(at_:Int)(hat:at_<p.length)(m:Ms)(h:Hp)(R:gZ p nm m h)(G:GoodM p m)(hmu:mu m<1000000)(hn:m.fuel<=n)(hs:Sc p own ns vs m)(he:bO e)(y1 y2 y3 y4:AV):
  ke p nm Val.av ((match lU p at_ e.s with
   |none=>.er 12
   | some f=>if e.m=[]\/f.pub=true then
     (if e.args.length=f.params.length then(listX (cM p n own ns vs) e.args).bind fun l=>jO p (cM p n) at_ f l else .er 13)
    else .er 12:X Val) m)
   (K160_0 (af pg) ak [.hp 0 0,.ip (aa (bC own ns vs)),.ip (aa e.av),.int .i64 at_,y1,y2,y3,y4] h):=by
 have IE:=t83 LB IH;obtain⟨l1,l2⟩:=mE he;have hfn:=t79 R LB.lim at_ hat e.s;generalize hcode:K160_0 (af pg) ak [.hp 0 0,.ip (aa (bC own ns vs)),.ip (aa e.av),.int .i64 at_,y1,y2,y3,y4] h=code;simp -implicitDefEqProofs only[K160_0,am,ar,cu,FA108_2,FA108_3,FA108_5,XQ,XK,LD9,LD50,qH,ae]at hcode;rw[ap hfn]at hcode;cases hf:lU p at_ e.s with
 |none=>
  rw[hf]at hcode;simp -implicitDefEqProofs only[Cm,eN,List.getElem?_cons_zero,Yb,ae,mm,aj,wZ,List.replicate,am,Cn,cr,bo,de,Xs,Xy]at hcode;rw[<- hcode];exact gw R
 | some f=>
  rw[hf]at hcode;obtain⟨f1,f2,f3⟩:=pm hf;have hmp:p[at_.toNat]?.getD default∈p:=by rw[XE f2];exact XG f2
  obtain⟨_,hparams⟩:=LB.body _ hmp f f3;have hac:∀f:Fun,aa (.agg (aa f.av))=aa f.av:=fun _=>rfl;simp -implicitDefEqProofs only[Cm,eN,List.getElem?_cons_zero,Yb,ae,mm,aj,bv,yZ,am,hac]at hcode;have hpub:ax T 4 (.ip (List.drop 1 (aa f.av)))=some (.bool f.pub):=ZV
  have hpar:ax T 49 (.ip (List.drop 2 (aa f.av)))=some (ck f.params):=ZV
  have hgu:aK (.bool (e.m== [])) false 1 (ao [.bool f.pub])=ao [gv (e.m== []) false (.bool f.pub)]:=aE _ _ _;have hpk:gx (.bool (e.m== [])) (.bool true) (gv (e.m== []) false (.bool f.pub))=some (.bool ((e.m== [])||f.pub)):=eB _ _;simp -implicitDefEqProofs only[FA110_1,FA110_2,hpub,hpar,ae,hgu,aj,am,hpk,cz,bo,ni,aH]at hcode;by_cases h1:e.m=[]\/f.pub=true
  ·have h1':(e.m== []||f.pub)=true:=by
    simp only[Yj,Yd];exact h1
   simp only[h1',de,XF]at hcode;simp only[Xv h1];by_cases h2:e.args.length=f.params.length
   ·have h2':((e.args.length:Int)== (f.params.length:Int))=true:=by simp[h2]
    simp only[h2',XF]at hcode;simp only[Xv h2];rw[<- hcode]
    have:=xi IH IE own ns vs at_ f e.args y1 y2 y3 y4 ZS hat f3 (fun x hx=>bw he hx) ZS h2 e.args [] [] m h rfl rfl (fun v hv=>by cases hv) R G hmu hn hs
    simp only[X1]at this;exact this
   ·have h2':((e.args.length:Int)== (f.params.length:Int))=false:=by
     rw[YW];omega
    simp only[h2',Xs,Xy]at hcode;simp only[Xr h2];rw[<- hcode];exact gw R
  ·have h1':(e.m== []||f.pub)=false:=by
    rw[<- ZH];simp only[Yj,Yd];exact h1
   simp only[h1',de,Xs,Xy]at hcode;simp only[Xr h1];rw[<- hcode];exact gw R
theorem t160{p:List Mod}{nm:SNm}{n:Nat}(LB:LimB p)(IH:sN p nm n):Gc p nm n:=by
 intro own ns vs e m h R G hmu hn hs he;unfold tC;have hown:ax T 3 (.ip [.int .i64 own,strs ns,vals vs])=some (.int .i64 own):=rfl;have hmd:=t78 R LB.lim e.m;generalize hcode:af pg 160 [.hp 0 0,bC own ns vs,e.av] h=code;rw[C160]at hcode;simp -implicitDefEqProofs only[S160,fK,cu,FA189_0,FA108_3,XQ,XK,hown,LD9,ae,uy,tg,ai]at hcode;by_cases h0:e.m=[]
 ·have h0':(!(e.m== []))=false:=by simp[h0]
  simp only[h0',Xs,Xy]at hcode;simp only[Xv h0];rw[<- hcode]
  have:=wH LB IH own ns vs e own hs.own m h R G hmu hn hs he (.int .i64 0) (.int .i64 0) (.sl []) (.sl [])
  simp only[fK,cu]at this;exact this
 ·have h0':(!(e.m== []))=true:=by simp[h0]
  simp only[h0',XF]at hcode;rw[ap hmd]at hcode;simp only[Xr h0];rw[<- hcode];have hlt:cV p e.m<p.length:=by
   rcases p7 (fun(x:Mod)=>x.name== e.m) p 0 with k|k
   ·show aY _ p 0<_;rw[k];omega
   ·show aY _ p 0<_;omega
  have:=wH LB IH own ns vs e (cV p e.m) hlt m h R G hmu hn hs he (.int .i64 0) (.int .i64 0) (.sl []) (.sl [])
  simp only[fK,cu]at this;exact this
def Wm{t e:Nat}{ti ei:TI}(ht:T t=some ti)(hk:ti.kind= .slice e)(he:T e=some ei){l off len sz:Nat}{ag:Bool}{n:Int}(h0:0<=n)(h1:n<len):aA T t (.hs l off len sz ag) (.int .i64 n)=some (.hp l (off+n.toNat*ei.size)):=by
 simp[aA,ht,hk,he,h0,h1]
def FD{p:List Mod}{nm:SNm}{tag:Nat->Nat}{dv cv sv:AV}{m:Ms}{h:Hp}(R:RepT (rowP p nm.told) nm tag dv cv sv m h)(d:Deed)(hb:m.deeds.length<=2000000):
  ∃dv' h1 h2,appH T 34 false dv (.sl [d.av]) h= .ok dv' h1/\bS T 34 (.hp 0 9) dv' h1= .ok (.tup []) h2/\gZ p nm { m with deeds:=m.deeds++[d] } h2:=by
 obtain⟨h1,dv',tag',e1,K,H,hc⟩:=AZ (T:=T) (t:=34) rfl rfl rfl rfl ZT rfl ZT (x:=d.av) R.ds (fun h0=>by
  have:m.deeds=[]:=XH h0;rw[this];rfl) (fun cs h=>by rw[h];exact yo _) (Fz d) (show (m.deeds.length+1)*24<=140737488355328 by omega)
 have h0:=(K 0 _ R.r0 (by rw[R.t0];decide)).1;refine⟨dv',h1,_,e1,bT rfl h0 (kQ hc).1 (show 9+1<=12 by decide) ZT,?_⟩;have hac:aa dv'=[dv']:=(kQ hc).2.1
 have:=R.pushDeed (m':={ m with deeds:=m.deeds++[d] }) K H rfl rfl rfl id
 refine⟨tag',dv',cv,sv,?_⟩;rw[hac];exact this
theorem zn{p:List Mod}{nm:SNm}{m:Ms}{h:Hp}(R:gZ p nm m h)(hb:m.deeds.length<=2000000)(e:Exp)(v:Val)(n:Int)(x1 x2 x3 x4:AV):
  ke p nm Val.av (X.ok (cp n) { m with deeds:=m.deeds++[⟨e.n,v.n,n⟩] }) (K161_0 (af pg) ak [.hp 0 0,.ip (aa e.av),.ip (aa v.av),.int .i64 n,x1,x2,x3,x4] h):=by
 obtain⟨tag,dv,cv,sv,R0⟩:=R;obtain⟨dv',h1,h2,e1,e2,R2⟩:=FD R0 ⟨e.n,v.n,n⟩ hb;have hB:cG T false 101 [(0,.int .i64 e.n),(1,.int .i64 v.n),(2,.int .i64 n)]=some (Deed.av ⟨e.n,v.n,n⟩):=rfl;have hBS:aQ T 34 1 [(0,Deed.av ⟨e.n,v.n,n⟩)]=some (.sl [Deed.av ⟨e.n,v.n,n⟩]):=rfl;have ld:∀g:AV->M AV,au (bb T 34 (.hp 0 9)) g h=g dv h:=fun g=>ap (bN rfl rfl R0.r0 rfl);generalize hcode:K161_0 (af pg) ak [.hp 0 0,.ip (aa e.av),.ip (aa v.av),.int .i64 n,x1,x2,x3,x4] h=code;simp -implicitDefEqProofs only[K161_0,am,ar,aJ,ae,FH166_4,FH37_2,XI,Nat.reduceAdd,ld,cu,FA108_1,XQ,XK,LD3,bK,FA33_1,hB,hBS]at hcode;rw[ap e1]at hcode;rw[ap e2]at hcode;simp -implicitDefEqProofs only[t154,aj]at hcode;rw[rK]at hcode;rw[<- hcode];exact eW R2
def FI{p:List Mod}{nm:SNm}{m:Ms}{h:Hp}(R:gZ p nm m h)(w:List Int)(hw0:m.world=[]->w=[]):∃h1,(m.world≠[]->gZ p nm { m with world:=w } h1)/\(∀f:AV->M AV,au (bb T 24 (.hp 0 1)) f h=f (F7 nm.told m.world) h)/\
  (m.world≠[]->∀f:AV->M AV,au (bS T 24 (.hp 0 1) (ints w)) f h=f (.tup []) h1):=by
 obtain⟨tag,dv,cv,sv,R⟩:=R;refine⟨h.set 0 (setCells (rowP p nm.told m dv cv sv) 1 (aa (ints w))),fun hne=>⟨tag,dv,cv,sv,?_⟩,fun f=>ap (bN rfl rfl R.r0 rfl),fun _ f=>ap (bT rfl R.r0 rfl (show 1+1<=12 by decide) ZT)⟩;have ht:nm.told=false:=by
  cases ht:nm.told with
  |false=>rfl
  |true=>exact absurd (R.wok ht) hne
 have e:setCells (rowP p nm.told m dv cv sv) 1 (aa (ints w))=rowP p nm.told { m with world:=w } dv cv sv:=by
  simp only[ht];rfl
 rw[e];exact R.set0 rfl rfl rfl hw0
theorem t161{p:List Mod}{nm:SNm}{n:Nat}(LB:LimB p)(IH:sN p nm n):Db p nm n:=by
 intro own ns vs e m h hop hcn R G hmu hn hs he;obtain⟨l1,l2⟩:=mE he;have hscl:ax T 189 (.ip [.int .i64 own,strs ns,vals vs])=some (bC own ns vs):=rfl;have hown:ax T 3 (.ip [.int .i64 own,strs ns,vals vs])=some (.int .i64 own):=rfl;generalize hcode:af pg 161 [.hp 0 0,bC own ns vs,e.av] h=code;rw[C161]at hcode;obtain⟨op,en,es,em,en2,ea⟩:=e;simp only[qn]at hop;unfold rL at hcn;simp only[qn,li]at hcn;have hlen:op=16\/op=18->∃a,ea=[a]:=by
  intro h;apply NF;rcases h with rfl|rfl
  ·simp[bG]at hcn;omega
  ·simp[bG]at hcn;omega
 by_cases h16:op=16
 ·obtain⟨a,rfl⟩:=hlen (.inl h16);subst h16;have ha:bO a:=bw he ZV;simp -implicitDefEqProofs only[S161,fK,cu,qn,CG,Ip,J6,jF,li,FA108_0,FA108_1,FA108_5,XQ,XK,LD3,LD50,ae,aH,X0,ai,XF,hscl,RN]at hcode;have hex:ax T 108 (.ip [.int .i64 a.op,.int .i64 a.n,.str a.s,.str a.m,strs a.names,dF a.args])=some a.av:=by
   have:ax T 108 (.ip (aa a.av))=some a.av:=ZV
   rwa [cu]at this
  simp -implicitDefEqProofs only[hex,ae]at hcode;rw[<- hcode];simp only[vI,qn,XF,BC];have e0:([a]:List Exp)[0]! = a:=rfl;simp only[li,e0];refine cI (IH own ns vs a _ _ R G hn hs ha) fun v s1 h2 hv R2=>?_;obtain⟨G2,rv,f2⟩:=G.eval hs.right hv;generalize hcode2:au (cg 4 v.av) _ h2=code2;simp -implicitDefEqProofs only[bc (dW v),aj,aI,bK,FA33_0,XK,LD3,ae,aH,bo,aE,am,eB]at hcode2;by_cases hk:v.kind=0
  ·have hk':(v.kind== 0)=true:=by simp[hk]
   simp only[hk',de,XF]at hcode2;simp only[Xv hk];by_cases hn4':(Exp.mk 16 en es em en2 [a]).n=1\/(Exp.mk 16 en es em en2 [a]).n=2\/(Exp.mk 16 en es em en2 [a]).n=4\/(Exp.mk 16 en es em en2 [a]).n=8
   ·have hn4:en=1\/en=2\/en=4\/en=8:=hn4';have hn':(en== 1||en== 2||en== 4||en== 8)=true:=by
     simp only[Yj,Yd];omega
    simp only[hn',XF]at hcode2;simp only[Xv hn4'];obtain⟨h3,R3,lw,sw⟩:=FI R2 s1.world.tail (fun h=>by rw[h];rfl);have hmu2:=(tk n own ns vs a m v s1 G.fuel hv).1;have hdl:s1.deeds.length<=2000000:=by
     have:=G2.fuel
     simp only[mu]at hmu2 hmu;omega
    show ke p nm Val.av (X.ok (cp (s1.world.headD 0)) { s1 with world:=s1.world.tail,deeds:=s1.deeds++[⟨en,v.n,s1.world.headD 0⟩] }) code2;have lenw:bp T 24 (F7 nm.told s1.world)=some (.int .i64 s1.world.length):=by
     unfold F7;split
     ·rename_i ht;obtain⟨_,_,_,_,R2'⟩:=R2;rw[R2'.wok ht];rfl
     ·exact nh _
    simp -implicitDefEqProofs only[uy,aJ,ae,FH166_1,XI,lw,lenw,ae,dq,ai]at hcode2;cases hwd:s1.world with
    |nil=>
     rw[hwd]at hcode2;simp only[Yi,show decide ((0:Int)<((0:Nat):Int))=false by decide,Xs,Xy]at hcode2
     have:=zn R2 hdl (.mk 16 en es em en2 [a]) v 0 (.int .i64 0) (.int .i64 0) (.sl []) (.sl [])
     simp_all
    | cons x wl=>
     have hd:decide ((0:Int)<(((x:: wl).length:Nat):Int))=true:=by simp<;>omega
     have hne:s1.world≠[]:=by rw[hwd];simp
     have sw:=sw hne;have R3:=R3 hne;have hwv:F7 nm.told s1.world=ints s1.world:=by
      unfold F7;rw[Xr];intro ht;obtain⟨_,_,_,_,R2'⟩:=R2;exact hne (R2'.wok ht)
     rw[hwv]at lw;rw[hwd]at hcode2 sw R3 lw;have hix:aA T 24 (ints (x:: wl)) (.int .i64 0)=some (.ip [.int .i64 x]):=by
      have:=I9 (l:=x:: wl) (n:=0) ZS (by simp<;>omega)
      simpa using this
     have hsl:da T 24 (ints (x:: wl)) (some (.int .i64 1)) none none=some (ints wl):=by
      have:=Go.Av.oA (T:=T) (t:=24) (e:=3) rfl rfl rfl ((x:: wl).map (AV.int .i64)) (by exact rq _) (n:=1) ZS (by simp<;>omega)
      simpa [ints]using this
     simp only[List.tail_cons]at sw R3;simp -implicitDefEqProofs only[hd,XF,lw,hix,ae,LD3,hsl,sw]at hcode2
     have:=zn R3 hdl (.mk 16 en es em en2 [a]) v x (.int .i64 0) (.int .i64 0) (.sl []) (.sl [])
     simp_all
   ·have hn4:¬(en=1\/en=2\/en=4\/en=8):=hn4';have hn':(en== 1||en== 2||en== 4||en== 8)=false:=by
     rw[<- ZH];simp only[Yj,Yd];omega
    simp only[hn',Xs,Xy]at hcode2;simp only[Xr hn4'];rw[<- hcode2];exact gw R2
  ·have hk':(v.kind== 0)=false:=by simpa using hk
   simp only[hk',de,Xs,Xy]at hcode2;simp only[Xr hk];rw[<- hcode2];exact gw R2
 have h16':((op:Int)== 16)=false:=by simpa using h16
 have h16x:¬((Exp.mk op en es em en2 ea).op=16):=h16;unfold vI;simp only[Xr h16x];unfold C1;simp -implicitDefEqProofs only[S161,fK,cu,qn,CG,Ip,J6,jF,li,FA189_0,FA108_0,FA108_1,FA108_2,FA108_5,XQ,XK,LD3,LD50,ae,aH,h16',Xs,ai,Xy,hown,hscl,jq,bo,uy]at hcode;by_cases ho:own<0
 ·have ho':decide (0<=own)=false:=by simp;omega
  simp only[ho',de,Xs,Xy]at hcode;simp only[Xv ho];rw[<- hcode];exact gw R
 have ho':decide (0<=own)=true:=by simp;omega
 simp only[ho',de,XF]at hcode;simp only[Xr ho];have hol:=hs.own;have hlt:own.toNat<p.length:=ZS
 have hix:=Et (l:=p) (n:=own) ZS hol;rw[Xx p own.toNat hlt]at hix;have e3:p[own.toNat]?.getD default=p[own.toNat]:=by rw[XE hlt];rfl
 have hvl:=(LB.lim.funcsAt own.toNat).2;rw[e3]at hvl |-;have hff:=SQ p[own.toNat].vars hvl (.mk op en es em en2 ea);simp only[cu,qn,CG,Ip,J6,jF,li]at hff;have Rk:=R;obtain⟨tag,dv,cv,sv,R0⟩:=R;have lm:∀g:AV->M AV,au (bb T 22 (.hp 0 0)) g h=g (mods p) h:=fun g=>ap (bN rfl rfl R0.r0 (by rw[<- ta (t:=nm.told) (fun e=>ZU)];rfl));have lsv:∀g:AV->M AV,au (bb T 28 (.hp 0 11)) g h=g nm.sv h:=fun g=>ap (bN rfl rfl R0.r0 (by rw[<- R0.sve];rfl));simp -implicitDefEqProofs only[aJ,ae,FH166_0,FH166_4,FH37_4,XI,Nat.reduceAdd,lm,hix,fJ,FA55_2,XQ,XK,LD49,hff,dG,aj,jq,bo]at hcode;by_cases hi:lR p[own.toNat].vars (Exp.mk op en es em en2 ea).s<0
 ·have hi':decide (0<=lR p[own.toNat].vars es)=false:=by
   have:lR p[own.toNat].vars es<0:=hi;simp;omega
  simp only[hi',de,Xs,Xy]at hcode;simp only[Xv hi];rw[<- hcode];exact gw Rk
 have hi0:0<=lR p[own.toNat].vars es:=by
  have:¬lR p[own.toNat].vars es<0:=hi;omega
 have hi':decide (0<=lR p[own.toNat].vars es)=true:=by simp;omega
 simp only[hi',de,XF,lsv]at hcode;simp only[Xr hi];have hil:lR p[own.toNat].vars es<p[own.toNat].vars.length:=by
  rcases p7 (fun(x:fF)=>x.1== es) p[own.toNat].vars 0 with k|k
  ·grind [lR]
  ·have:lR p[own.toNat].vars es=aY (fun(x:fF)=>x.1== es) p[own.toNat].vars 0:=rfl;omega
 obtain⟨l,hl1,hl2⟩:=G.shape own.toNat _ (XE hlt);have hne:l≠[]:=fun e=>ZU
 have hsl:own.toNat<m.state.length:=(XA.1 hl1).1;obtain⟨q,r,v1,v2,v3,v4,v5,v6⟩:=R0.var (fun _=>rfl) hl1 hne;have hx1:aA T 28 nm.sv (.int .i64 own)=some (.hp q (own.toNat*2)):=by
  rw[v1]
  have:=Wm (t:=28) rfl rfl rfl (l:=q) (off:=0) (len:=m.state.length) (sz:=2) (ag:=true) (n:=own) ZS ZS
  rw[this];simp
 have lv:∀g:AV->M AV,au (bb T 23 (.hp q (own.toNat*2+1))) g h=g (.hs r 0 l.length 4 true) h:=fun g=>ap (bN rfl rfl v2 v3);simp -implicitDefEqProofs only[hx1,ae,FH61_1,lv]at hcode;generalize hI:lR p[own.toNat].vars es=I at *;have hI2:lR p[own.toNat].vars (Exp.mk op en es em en2 ea).s=I:=hI;rw[hI2];have hx2:aA T 23 (.hs r 0 l.length 4 true) (.int .i64 I)=some (.hp r (I.toNat*4)):=by
  have:=Wm (t:=23) rfl rfl rfl (l:=r) (off:=0) (len:=l.length) (sz:=4) (ag:=true) (n:=I) ZS ZS
  rw[this];simp
 have hk:I.toNat<l.length:=ZS
 by_cases h18:op=18
 ·have h18x:(Exp.mk op en es em en2 ea).op=18:=h18;simp only[Xv h18x];obtain⟨a,rfl⟩:=hlen (.inr h18);have ha:bO a:=bw he ZV;have hb18:(op== 18)=true:=by simp[h18]
  have hex:ax T 108 (.ip (aa a.av))=some a.av:=ZV
  have e0:(Exp.mk op en es em en2 [a]).args[0]! = a:=rfl;simp -implicitDefEqProofs only[hb18,XF,RN,ae,hex]at hcode;rw[<- hcode,e0];refine cI (IH own ns vs a _ _ Rk G hn hs ha) fun v s1 h2 hv R2=>?_;obtain⟨G2,rv,f2⟩:=G.eval hs.right hv;obtain⟨tag2,dv2,cv2,sv2,R20⟩:=R2;obtain⟨l',hl1',hl2'⟩:=G2.shape own.toNat _ (XE hlt);have hne':l'≠[]:=fun e=>ZU
  obtain⟨q',r',w1,w2,w3,w4,w5,w6⟩:=R20.var (fun _=>rfl) hl1' hne';have hll:l'.length=l.length:=ZS
  have hrr:r'=r:=by
   rw[v3]at w3;simp only[Xq,AV.hs.injEq]at w3;exact w3.1.symm
  subst hrr;have hst:bS T 33 (.hp r' (I.toNat*4)) v.av h2= .ok (.tup []) (h2.set r' (aw (l'.set I.toNat v))):=by
   have:=bT (T:=T) (t:=33) rfl w5 (v:=v.av) (k:=I.toNat*4) (dW v) (by grind [aX]) ZT
   rw[this,kB ZS]
  have R3:=w6 I.toNat v ZS;have hset:((s1.state[own.toNat]?.getD []).set I.toNat v)=l'.set I.toNat v:=by rw[hl1'];rfl
  have hld2:bb T 33 (.hp r' (I.toNat*4)) (h2.set r' (aw (l'.set I.toNat v)))= .ok v.av (h2.set r' (aw (l'.set I.toNat v))):=by
   have hlt2:r'<h2.length:=(XA.1 w5).1
   have:=lY (T:=T) (t:=33) rfl rfl (h:=h2.set r' (aw (l'.set I.toNat v))) (l:=r') (k:=I.toNat*4) (XV hlt2) (by grind [aX])
   rw[this];have hg:=iN (l:=l'.set I.toNat v) (k:=I.toNat) ZX;show Av.R.ok (AV.agg (((aw (l'.set I.toNat v)).drop (I.toNat*4)).take 4)) _=_;rw[hg,List.getElem_set_self];rw[Val.av_eq];rfl
  generalize hcode2:au (bP (aA T 23 (.hs r' 0 l.length 4 true) (.int .i64 I))) _ h2=code2;simp -implicitDefEqProofs only[hx2,ae]at hcode2;rw[ap hst]at hcode2;simp -implicitDefEqProofs only[K161_1,am,ar,hx2,ae]at hcode2;rw[ap hld2,rK]at hcode2;rw[<- hcode2];exact⟨_,rfl,tag2,dv2,cv2,sv2,R3⟩
 ·have h18x:¬((Exp.mk op en es em en2 ea).op=18):=h18;have hb18:(op== 18)=false:=by simpa using h18
  have hld2:bb T 33 (.hp r (I.toNat*4)) h= .ok (l[I.toNat]).av h:=by
   have:=lY (T:=T) (t:=33) rfl rfl (h:=h) (l:=r) (k:=I.toNat*4) v5 (by grind [aX])
   rw[this];have hg:=iN (l:=l) (k:=I.toNat) hk;show Av.R.ok (AV.agg (((aw l).drop (I.toNat*4)).take 4)) _=_;rw[hg,Val.av_eq];rfl
  simp only[Xr h18x];simp -implicitDefEqProofs only[hb18,Xs,Xy,K161_1,am,ar,hx2,ae]at hcode;rw[ap hld2,rK]at hcode;rw[<- hcode];have hgs:uj m.state own.toNat I.toNat=l[I.toNat]:=by
   simp[uj,Yg,hl1,hk]
  show ke p nm Val.av (X.ok (uj m.state own.toNat I.toNat) m) _;rw[hgs];exact eW Rk
theorem Q1{p:List Mod}{nm:SNm}(LB:LimB p):∀n,sN p nm n
 |0=>fun own ns vs e m h R G hn hs he=>⟨h,GU R ZS _ e,R⟩
 |n+1=>by
  have IH:=Q1 (nm:=nm) LB n
  grind [EX,t158,t160,t161]
def DL{m:M AV}{r:AV}{h':Hp}(h1:m []= .ok r h')(h2:∀g,cl g r=r):bn m=ao r:=by
 funext h
 grind [bn,ao,frz]
def W0(v:Val):ax T 33 (.ip (aa v.av))=some v.av:=ZV
def t100(v:Val)(hv:v.sz<=4611686018427387904):af pg 100 [v.av]=ao (.bool !cP 4 v):=by
 rw[C100];simp only[S100,yj,W0,ae,t48 v hv,aj,bi];simp_all
def Jd(k:Nat)(hk:∀v:Val,v.sz<=4611686018427387904->af pg k [v.av]=ao (.bool !cP 4 v))(l:List Val)(hl:db l<=4611686018427387904):af pg 46 [vals l,.fn (.func k) [] []]=ao (.bool !(l.all (cP 4))):=by
 have:=t46 (.fn (.func k) [] []) (fun v=>!cP 4 v) l (XM (pG l) hl) (fun g=>rfl) (fun v hv=>hk v (XM (kW hv) hl))
 grind
def t81(f:AV)(h:Hp):af pg 81 [f] h=Br 30 .i64 (.agg [.int .i64 0,.int .i64 0,.sl [],.sl []]) (cU (af pg) f [] h):=by
 have e:af pg 81 [f]=Bq 30 .i64 (.agg [.int .i64 0,.int .i64 0,.sl [],.sl []]) (af pg) [f]:=d9 g8 rfl _;rw[e];rfl
def Wu:SNm:=⟨[],.hn,[],true⟩
def HA:LimB []:=⟨⟨ZV,fun m hm=>by cases hm⟩,fun m hm=>by cases hm⟩
def Kq:gZ [] Wu (fS [] 100000 []) [[.hn,.hn,.int .i64 100000,.int .i64 0,.int .i64 0,.int .i64 0,.int .i64 0,.hn,.hn,.hn,.hn,.hn]]:=
 ⟨fun _=>0,.hn,.hn,.hn,rfl,rfl,.inl ⟨rfl,rfl⟩,.inl ⟨rfl,rfl⟩,.inl ⟨rfl,rfl⟩,rfl,fun _=>rfl⟩
def Hi:GoodM [] (fS [] 100000 []):=⟨⟨fun l hl=>by simp[fS]at hl,fun c hc=>by simp[fS]at hc⟩,by simp[mu,fS],by simp[fS],by simp[fS],fun i x hx=>by simp at hx⟩
def nO:Rs Val->AV
 |.ok v _=>.tup [v.av,.int .i64 0]
 |.er e _=>.tup [Val.av default,.int .i64 e]
def yh(g)(v:Val)(e:Int):cl g (.tup [v.av,.int .i64 e])= .tup [v.av,.int .i64 e]:=by simp[cl,fp]
theorem t45(e:Exp)(ns:List aW)(vs:List Val)(he:bO e)(hn:ns.length<=274877906944)(hv:db vs<=4611686018427387904):af pg 45 [e.av,strs ns,vals vs]=ao (nO (yu e ns vs)):=by
 have ha:=Jd 100 t100 vs hv;have hl1:ax T 31 (.ip (aa (strs ns)))=some (strs ns):=rfl;have hl2:ax T 23 (.ip (aa (vals vs)))=some (vals vs):=rfl;have hB:cG T true 166 [(2,.int .i64 100000)]=some (.agg [.hn,.hn,.int .i64 100000,.int .i64 0,.int .i64 0,.int .i64 0,.int .i64 0,.hn,.hn,.hn,.hn,.hn]):=rfl;have hZ:cG T false 33 []=some (Val.av default):=rfl;have hcl:∀h:AV->M AV,au (newH [.hn,.hn,.int .i64 100000,.int .i64 0,.int .i64 0,.int .i64 0,.int .i64 0,.hn,.hn,.hn,.hn,.hn]) h []=h (.hp 0 0) [[.hn,.hn,.int .i64 100000,.int .i64 0,.int .i64 0,.int .i64 0,.int .i64 0,.hn,.hn,.hn,.hn,.hn]]:=fun h=>rfl;rw[C45,oc,ll,tG];unfold yu;by_cases hr:ns.length=vs.length/\vs.all (cP 4)=true
 ·rw[Xv hr];have hne:((ns.length:Int) != (vs.length:Int))=false:=by simp[hr.1]
  have hrs:nk ns vs:=⟨hr.1,fun v hv=>(XJ.1 hr.2) v hv⟩;have hev:=Q1 (nm:=Wu) HA 100000 (-1) ns vs e _ _ Kq Hi (by simp[fS]) ⟨ZV,hrs,by simp only[fS];omega⟩ he;have hcell:cg 1 (.hp 0 0)=ao (.agg [.hp 0 0]):=rfl;have hBS:cG T false 189 [(0,.int .i64 (-1)),(1,strs ns),(2,vals vs)]=some (bC (-1) ns vs):=rfl;have hlp:ax T 164 (.ip [.hp 0 0])=some (.hp 0 0):=rfl;have hex:ax T 108 (.ip (aa e.av))=some e.av:=ZV
  have hcall:∀h,af pg 101 [.ip [.hp 0 0],.ip (aa (strs ns)),.ip (aa (vals vs)),.ip (aa e.av)] h=au (af pg 102 [.hp 0 0,bC (-1) ns vs,e.av]) (fun v=>au (bD 4 [] v) fun w=>ao (AV.agg [ab (aa w) 0,ab (aa w) 1,ab (aa w) 2,ab (aa w) 3])) h:=fun h=>by
   simp_all[C101,S101]
  have hS:S45 (af pg) ak e.av (strs ns) (vals vs) []= .ok (nO (cM [] 100000 (-1) ns vs e (fS [] 100000 []))) []\/∃h',S45 (af pg) ak e.av (strs ns) (vals vs) []= .ok (nO (cM [] 100000 (-1) ns vs e (fS [] 100000 []))) h':=by
   right;simp -implicitDefEqProofs only[S45,hl1,hl2,ae,iB,nf,fY,hne,bv,ha,aj,bi,hr.2,XR,am,cr,ai,Xs,Xy,hB,aI,hcl,hcell];have htry:=t81 (.fn (.func 101) [] [.ip [.hp 0 0],.ip (aa (strs ns)),.ip (aa (vals vs)),.ip (aa e.av)]) [[.hn,.hn,.int .i64 100000,.int .i64 0,.int .i64 0,.int .i64 0,.int .i64 0,.hn,.hn,.hn,.hn,.hn]];have hcv:cU (af pg) (.fn (.func 101) [] [.ip [.hp 0 0],.ip (aa (strs ns)),.ip (aa (vals vs)),.ip (aa e.av)]) []=af pg 101 [.ip [.hp 0 0],.ip (aa (strs ns)),.ip (aa (vals vs)),.ip (aa e.av)]:=rfl;rw[hcv,hcall]at htry;have how:=ew hev;generalize cM [] 100000 (-1) ns vs e (fS [] 100000 [])=r at how |-;cases r with
   |ok v s=>
    obtain⟨h',e1,_⟩:=how;refine⟨h',?_⟩;rw[e1]at htry;simp only[Br,dW,Xw]at htry;rw[ap htry];simp[nO,ao]
   |er c s=>
    obtain⟨h',e1,_⟩:=how;refine⟨h',?_⟩;rw[e1]at htry;have ht:Br 30 .i64 (.agg [.int .i64 0,.int .i64 0,.sl [],.sl []]) (.pan (pO c) h')= .ok (.tup [Val.av default,.int .i64 c]) h':=rfl;rw[ht]at htry;rw[ap htry];simp[nO,ao]
  rcases hS with h|⟨h',h⟩
  ·exact DL h fun g=>by cases cM [] 100000 (-1) ns vs e (fS [] 100000 [])<;>exact yh g _ _
  ·exact DL h fun g=>by cases cM [] 100000 (-1) ns vs e (fS [] 100000 [])<;>exact yh g _ _
 ·rw[Xr hr];have hb:((ns.length:Int) != (vs.length:Int)||!(vs.all (cP 4)))=true:=by
   by_cases h1:ns.length=vs.length
   ·grind
   ·grind
  have hgu:aK (.bool ((ns.length:Int) != (vs.length:Int))) false 1 (ao [.bool !(vs.all (cP 4))])=ao [gv ((ns.length:Int) != (vs.length:Int)) false (.bool !(vs.all (cP 4)))]:=aE _ _ _;have hS:S45 (af pg) ak e.av (strs ns) (vals vs)=ao (.tup [Val.av default,.int .i64 1]):=by
   simp -implicitDefEqProofs only[S45,hl1,hl2,ae,iB,nf,fY,ha,aj,bi,hgu,am,eB,hb,ai,XF,hZ];simp
  rw[hS];exact dj fun g=>yh g _ _
def Wv(m:Mod):ax T 55 (.ip (aa m.av))=some m.av:=ZV
def t44(p:List Mod)(hp:p.length<=1099511627776):af pg 44 [mods p]=ao (.int .i64 (jT p)):=by
 let D:Nat->Bool:=fun i=>(p.take i).any fun m=>m.name== (p[i]?.getD default).name;have hloop:∀(n k:Nat),p.length-k=n->k<=p.length->ak (L44_0 (af pg) ak) [mods p,mods p,.int .i64 p.length,.int .i64 k]=ao (.int .i64 (if(List.range' k n).any D=true then 5 else 0)):=by
  intro n
  induction n with
  |zero=>
   intro k hk hl;obtain rfl:k=p.length:=ZS
   rw[FL44_0];simp[L44_0]
  | succ n ih=>
   intro k hk hl;have h1:(k:Int)<(p.length:Int):=ZS
   have hlt:k<p.length:=ZS
   have hi:=Et (l:=p) (n:=(k:Int)) ZS h1;rw[show ((k:Int)).toNat=k by omega,Xx p k hlt]at hi;have hs:da T 22 (mods p) none (some (.int .i64 k)) none=some (mods (p.take k)):=by
    have:=FJ (T:=T) (t:=22) (e:=55) rfl rfl rfl (p.map Mod.av) (n:=(k:Int)) ZS ZX
    simpa [mods,List.map_take]using this
   have ha:=t98 (.fn (.func 99) [] [.ip (aa p[k].av)]) (fun m=>m.name== p[k].name) (p.take k) ZX (fun g=>by simp[cl,fp]) (fun m _=>t99 m p[k]);have hD:D k=((p.take k).any fun m=>m.name== p[k].name):=by simp only[D,XE hlt,YM]
   have hw:IntKind.i64.wrap ((k:Int)+1)=((k+1:Nat):Int):=aZ ZS;rw[FL44_0];simp -implicitDefEqProofs only[L44_0,am,ar,aB,ae,ai,h1,XY,XF,hi,Wv,bc (qk _),aj,aI,hs,ha,bm,hw]
   grind [List.range']
 rw[C44,mq];have h0:=hloop p.length 0 ZS ZS;have ht:vD p=(List.range' 0 p.length).any D:=by
  unfold vD;rw[Zn]
 have hS:S44 (af pg) ak (mods p)=ao (.int .i64 (jT p)):=by
  unfold jT;rw[ht];by_cases h20:20<p.length
  ·have h20':(20:Int)<(p.length:Int):=ZS
   simp_all[S44]
  ·have:¬((20:Int)<(p.length:Int)):=ZS
   simp only[h20,Xy];simp -implicitDefEqProofs only[S44,Gf,ae,dq,ai,this,YO,Xs,Xy];exact h0
 simp_all
def mH:Except Int (List Vars)->AV
 |.ok st=>.tup [aN st,.int .i64 0]
 |.error e=>.tup [.sl [],.int .i64 e]
def GW{e:Exp}{ns:List aW}{vs:List Val}{c:Int}{s:Ms}(h:yu e ns vs= .er c s):c≠0:=by
 grind [yu,zX]
theorem Ah(outer:List AV->M AV)(p:List Mod)(out:List Vars)(i:AV)(nm:aW)(es:List Exp)(hes:∀e∈es,bO e)(hlen:es.length<=274877906944)(hout:out.length<=1099511627776):∀(B A:List Exp)(acc:List Val)(k:Int),A++B=es->acc.length=A.length->i= .int .i64 k->-4611686018427387904<=k->k<=4611686018427387904->
  ak (L21_0 (af pg) ak outer) [aN out,mods p,.int .i64 p.length,i,dF es,.int .i64 es.length,.int .i64 A.length,.str nm,vals acc]=
  match oO B with
  |.error c=>ao (.tup [.sl [],.int .i64 c])
  |.ok vs=>outer [aN (out++[⟨nm,acc++vs⟩]),mods p,.int .i64 p.length,.int .i64 (k+1)]
 |[],A,acc,k,e,hac,hi,hk1,hk2=>by
  simp only[XS]at e;subst e;subst hi;have hb:aQ T 28 1 [(0,.agg [.str nm,vals acc])]=some (aN [⟨nm,acc⟩]):=rfl;have ha:dJ T 28 (aN out) (aN [⟨nm,acc⟩])=some (aN (out++[⟨nm,acc⟩])):=Tl ZX;have hw:IntKind.i64.wrap (k+1)=k+1:=aM ZS ZS;rw[FL21_0];simp_all[L21_0,oO]
 | x:: B,A,acc,k,e,hac,hi,hk1,hk2=>by
  have hll:A.length+(B.length+1)=es.length:=by rw[<- e];simp
  have h1:(A.length:Int)<(es.length:Int):=ZS
  have hx:es[A.length]'(ZS)=x:=by subst e;simp
  have hm:x∈es:=by rw[<- e];simp
  have hix:=oB (l:=es) (n:=(A.length:Int)) ZS h1;rw[show ((A.length:Int)).toNat=A.length by omega,Xx es A.length ZS,hx]at hix;have hex:ax T 108 (.ip (aa x.av))=some x.av:=ZV
  have hx1:∀e:Exp,AV.agg (aa e.av)=e.av:=fun _=>rfl;have hcall:=t45 x [] [] (hes x hm) ZV (by simp[db]);have hcall':af pg 45 [x.av,.sl [],.sl []]=ao (nO (yu x [] [])):=hcall;have hw:IntKind.i64.wrap ((A.length:Int)+1)=((A.length+1:Nat):Int):=aZ ZS;have hne:∀a b:Int,cF T .neq 30 (.int .i64 a) (.int .i64 b)=some (.bool (a != b)):=fun _ _=>rfl;rw[FL21_0];simp -implicitDefEqProofs only[L21_0,am,ar,aB,ae,ai,h1,XY,XF,hix,hex,bc (qh x),aj,hx1,hcall'];unfold oO;cases hr:yu x [] []with
  | er c s=>
   have hc0:(c != 0)=true:=by
    have:=GW hr
    simpa using this
   simp_all[nO]
  |ok v s=>
   have hb2:aQ T 23 1 [(0,v.av)]=some (vals [v]):=by rw[v.av_eq];simp[vals,d7,v.av_eq];rfl
   have ha2:dJ T 23 (vals acc) (vals [v])=some (vals (acc++[v])):=I7 ZX;have hc1:gL (vals (acc++[v]))=ao (vals (acc++[v])):=rfl;have hvv:∀v:Val,AV.agg (aa v.av)=v.av:=fun v=>ZV
   have h00:((0:Int) != 0)=false:=rfl;have hvl:ax T 33 (.ip (aa v.av))=some v.av:=ZV
   have ih:=Ah outer p out i nm es hes hlen hout B (A++[x]) (acc++[v]) k ZU (by simp[hac]) hi hk1 hk2;simp only[Ye,List.singleton_append,XL,List.length_singleton]at ih;simp -implicitDefEqProofs only[nO,eN,List.getElem?_cons_zero,Yb,ae,bc (dW v),aj,hne,h00,ai,Xs,Xy,hvv,hvl,hb2,ha2,hc1,bm,hw,ih]
   grind
theorem t21(p:List Mod)(hp:p.length<=1099511627776)(hm:∀m∈p,m.vars.length<=1099511627776/\m.init.length<=274877906944/\∀e∈m.init,bO e):af pg 21 [mods p]=ao (mH (lE p)):=by
 have hloop:∀(B A:List Mod)(out:List Vars),A++B=p->out.length=A.length->ak (L21_1 (af pg) ak) [aN out,mods p,.int .i64 p.length,.int .i64 A.length]=
   ao (match lD B with|.error c=>.tup [.sl [],.int .i64 c]|.ok r=>.tup [aN (out++r),.int .i64 0]):=by
  intro B
  induction B with
  |nil=>
   simp_all[FL21_1,L21_1,lD]
  | cons x B ih=>
   intro A out e ho;have hll:A.length+(B.length+1)=p.length:=by rw[<- e];simp
   have h1:(A.length:Int)<(p.length:Int):=ZS
   have hx:p[A.length]'(ZS)=x:=by subst e;simp
   have hmm:x∈p:=by rw[<- e];simp
   obtain⟨m1,m2,m3⟩:=hm x hmm;have hix:=Et (l:=p) (n:=(A.length:Int)) ZS h1;rw[show ((A.length:Int)).toNat=A.length by omega,Xx p A.length ZS,hx]at hix;have hB:cG T true 61 [(0,.str x.name)]=some (.agg [.str x.name,.hn]):=rfl;have hC:bD 2 [1] (.agg [.str x.name,.hn])=ao (.agg [.str x.name,.hn]):=rfl;have hin:=Ah (ak (L21_1 (af pg) ak)) p out (.int .i64 A.length) x.name x.init m3 m2 ZS x.init [] [] A.length rfl rfl rfl ZS ZS;rw[FL21_1];simp -implicitDefEqProofs only[L21_1,am,ar,aB,ae,ai,h1,XY,XF,hix,Wv,bc (qk x),aj,aI];simp -implicitDefEqProofs only[am,ar,ae,ai,aj,aI,fJ,FA55_0,FA55_2,FA55_3,XQ,XK,LD9,LD50,LD49,qH,ni,hB,hC,fY];unfold lD;by_cases hl:x.init.length=x.vars.length
   ·have hl':((x.init.length:Int) != (x.vars.length:Int))=false:=by simp[hl]
    simp only[hl',Xs,Xy,Xv hl];have hz:((([]:List Exp).length:Nat):Int)=0:=rfl;rw[hz]at hin;have hv0:vals []= .sl []:=rfl;rw[hv0]at hin;rw[hin];cases oO x.init with
    |error c=>rfl
    |ok vs=>
     have:=ih (A++[x]) (out++[⟨x.name,vs⟩]) ZU (by simp[ho])
     simp only[XL,List.length_singleton]at this
     grind
   grind
 have h0:=hloop p [] [] rfl rfl;have hne:∀a b:Int,cF T .neq 30 (.int .i64 a) (.int .i64 b)=some (.bool (a != b)):=fun _ _=>rfl;have hS:S21 (af pg) ak (mods p)=ao (mH (lE p)):=by
  unfold lE;by_cases hn:jT p=0
  ·have hn':(jT p != 0)=false:=by simp[hn]
   simp -implicitDefEqProofs only[S21,t44 p hp,aj,hne,ae,hn',ai,Xs,Xy,Gf];rw[Xv hn];simp only[Yi,X1]at h0;have:aN []= .sl []:=rfl;rw[this]at h0;have hz:((0:Nat):Int)=0:=rfl;rw[hz]at h0;rw[h0];cases lD p<;>rfl
  ·have hn':(jT p != 0)=true:=by simp[hn]
   simp -implicitDefEqProofs only[S21,t44 p hp,aj,hne,ae,hn',ai,XF];rw[Xr hn];rfl
 rw[C21,mq,hS];exact dj fun g=>by
  cases lE p with
  |error e=>rfl
  |ok st=>simp[mH,cl,fp]
def iM(p:List Ap.Mod)(s t:aW)(args:List Val)(w:List Int):Proc×Int:=match gB p s t args w with
 |.ok q=>(q,0)
 |.error e=>(p0,e)
theorem WU(x:Fnc):ax T 77 (.ip (aa x.av))=some x.av:=rfl
theorem t7(p:List Ap.Mod)(s t:aW)(args:List Val)(w:List Int)(hL:∀m∈p,m.Lim)(hc:∀m∈p,∀f∈m.funcs,dR 12 f.body<=1000)(ha:args.length<=1000000/\∀v∈args,v.sz<=4611686018427387904)(hw:w.length<=1000000):
  af pg 7 [mods p,.str s,.str t,vals args,ints w]=ao (.tup [(iM p s t args w).1.av,.int .i64 (iM p s t args w).2]):=by
 have hld:=t20 [] hL hc;rw[C7,show cl aF (mods p)=mods p by simp,show cl aF (.str s)= .str s from rfl,show cl aF (.str t)= .str t from rfl,show cl aF (vals args)=vals args by simp,show cl aF (ints w)=ints w by simp];have zp:=kE;have zc:=kX;have nee:∀a b:Int,cF T .neq 30 (.int .i64 a) (.int .i64 b)=some (.bool (a != b)):=fun a b=>rfl;have bad:∀(h:Hp)(e:Int){m:M AV},m []= .ok (.tup [p0.av,.int .i64 e]) h->bn m=ao (.tup [p0.av,.int .i64 e]):=fun h e m hm=>gG hm rfl;by_cases hl:jE p=0
 ·have g1:af pg 20 [mods p] []= .ok (.tup [.hp 2 0,.int .i64 0]) (g9 [] [.tup (bh p 0)] [.tup (cd (aV 0 p))] (lI p 0)):=hld.1 hl;obtain⟨P,hnd,hho,hrm⟩:=qb hl hc;have hnl:¬jE p≠0:=ZS
  have h20:=P.len;have hfr:=t21 p ZS (fun m hm=>by
   have K:=uM (hrm m hm);have h1:=K.vlen;have h2:=K.ilen;exact⟨ZS,ZS,fun e he=>pR 12 e (K.init e he) ((hL m hm).ies e he)⟩)
  have ne0:((0:Int) != 0)=false:=rfl;cases hf:lE p with
  | error e=>
   rw[hf]at hfr;have he:e≠0:=uf hf;have hne:(e != 0)=true:=by simpa using he
   have hs:iM p s t args w=(p0,e):=by
    unfold iM gB;rw[Xr hnl,hf]
   rw[hs];refine bad (g9 [] [.tup (bh p 0)] [.tup (cd (aV 0 p))] (lI p 0)) e ?_;rw[S7,ap g1];simp -implicitDefEqProofs only[vM,vO,ae,nee,ne0,ai,Xs,Xy,hfr,mH,aj,hne,XF,zp,zc];rfl
  | ok st=>
   rw[hf]at hfr;have MO:MapOk T 79 80 ⟨2,0,1,[.tup (bh p 0)],[.tup (cd (aV 0 p))]⟩ p:=map_ok rfl rfl hnd hho;have g2:bb T 80 (.hp 2 (0+14)) (g9 [] [.tup (bh p 0)] [.tup (cd (aV 0 p))] (lI p 0))= .ok (.mp 1) (g9 [] [.tup (bh p 0)] [.tup (cd (aV 0 p))] (lI p 0)):=bN rfl rfl rfl rfl;have g3:=MO.fn (g9 [] [.tup (bh p 0)] [.tup (cd (aV 0 p))] (lI p 0)) rfl s t;cases hx:fj p s t with
   | none=>
    rw[hx]at g3;have hs:iM p s t args w=(p0,4):=by
     unfold iM gB;rw[Xr hnl,hf];simp only[hx]
    rw[hs];have c1:cg 7 (kM none)=ao (.agg (aa (kM none))):=bc rfl;refine bad (g9 [] [.tup (bh p 0)] [.tup (cd (aV 0 p))] (lI p 0)) 4 ?_;rw[S7,ap g1];simp -implicitDefEqProofs only[vM,vO,ae,nee,ne0,ai,Xs,Xy,hfr,mH,aj,aJ,FH82_2];rw[ap g2,wy,ae,ap g3];simp -implicitDefEqProofs only[vM,vO,ae,c1,aj,Zb,bi,X3,ai,XF,zp,zc];rfl
   | some x=>
    rw[hx]at g3;have F:=kN hx;have cb:=P.code _ _ _ hx;have g3':ec T 80 (.mp 1) (.agg [.str s,.str t]) true (g9 [] [.tup (bh p 0)] [.tup (cd (aV 0 p))] (lI p 0))= .ok (.tup [x.av,.bool true]) (g9 [] [.tup (bh p 0)] [.tup (cd (aV 0 p))] (lI p 0)):=g3;have r1:=t22 args x.cod.params ZU ha.2;cases hr:fu args x.cod.params with
    | false=>
     rw[hr]at r1;have hs:iM p s t args w=(p0,13):=by
      unfold iM gB;rw[Xr hnl,hf];simp only[hx,hr,Xs,Xy]
     rw[hs];refine bad (g9 [] [.tup (bh p 0)] [.tup (cd (aV 0 p))] (lI p 0)) 13 ?_;rw[S7,ap g1];simp -implicitDefEqProofs only[vM,vO,ae,nee,ne0,ai,Xs,Xy,hfr,mH,aj,aJ,FH82_2];rw[ap g2,wy,ae,ap g3'];simp -implicitDefEqProofs only[vM,vO,ae,cX,aj,bi,XR,ai,Xs,Xy,aI,fX2,Nl,NC,r1,X3,XF,zp,zc];rfl
    | true=>
     rw[hr]at r1;have hs:iM p s t args w=(F9 ⟨p,st,[],w,⟨0,default,[],[],[]⟩,false⟩ [] s x args,0):=by
      unfold iM gB;rw[Xr hnl,hf];simp only[hx,hr,XF]
     rw[hs];have s1:bS T 28 (.hp 2 (0+0+1)) (aN st) (g9 [] [.tup (bh p 0)] [.tup (cd (aV 0 p))] (lI p 0))= .ok (.tup []) (g9 [] [.tup (bh p 0)] [.tup (cd (aV 0 p))] [mods p,aN st,.hn,.hn,.int .i64 0,.int .i64 0,.int .i64 0,.hn,.hn,.hn,.hn,.hn,.bool false,.mp 0,.mp 1]):=by
      rw[bT (T:=T) (t:=28) rfl (show (g9 [] [.tup (bh p 0)] [.tup (cd (aV 0 p))] (lI p 0))[2]? = some (lI p 0)from rfl) rfl (by show (_:Nat)<=15;decide) ZT];rfl
     have s2:bS T 24 (.hp 2 (0+0+3)) (ints w) (g9 [] [.tup (bh p 0)] [.tup (cd (aV 0 p))] [mods p,aN st,.hn,.hn,.int .i64 0,.int .i64 0,.int .i64 0,.hn,.hn,.hn,.hn,.hn,.bool false,.mp 0,.mp 1])= .ok (.tup []) (g9 [] [.tup (bh p 0)] [.tup (cd (aV 0 p))] [mods p,aN st,.hn,ints w,.int .i64 0,.int .i64 0,.int .i64 0,.hn,.hn,.hn,.hn,.hn,.bool false,.mp 0,.mp 1]):=by
      rw[bT (T:=T) (t:=24) rfl (show (g9 [] [.tup (bh p 0)] [.tup (cd (aV 0 p))] [mods p,aN st,.hn,.hn,.int .i64 0,.int .i64 0,.int .i64 0,.hn,.hn,.hn,.hn,.hn,.bool false,.mp 0,.mp 1])[2]? = some [mods p,aN st,.hn,.hn,.int .i64 0,.int .i64 0,.int .i64 0,.hn,.hn,.hn,.hn,.hn,.bool false,.mp 0,.mp 1]from rfl) rfl ZU ZT];rfl
     let L:MLay:=⟨2,0,1,[.tup (bh p 0)],[.tup (cd (aV 0 p))]⟩;let q:Proc:=⟨p,st,[],w,⟨0,default,[],[],[]⟩,false⟩;have R0:MRG W7 L (fun r=>if r=2 then 0 else 1) (aN st) .hn .hn .hn [.int .i64 0,.int .i64 0,.hn,.hn] q (g9 [] [.tup (bh p 0)] [.tup (cd (aV 0 p))] [mods p,aN st,.hn,ints w,.int .i64 0,.int .i64 0,.int .i64 0,.hn,.hn,.hn,.hn,.hn,.bool false,.mp 0,.mp 1]):=
      ⟨rfl,rfl,rfl,rfl,rfl,rfl,rfl,.inl ⟨rfl,.inl rfl,rfl⟩,.inl ⟨rfl,.inl rfl,rfl⟩,.inl ⟨rfl,.inl rfl,rfl⟩,.inr ⟨rfl,rfl⟩,rfl⟩
     obtain⟨h2,tag2,av,e2,K2,V2⟩:=my (T:=T) (t:=23) (e:=33) rfl rfl rfl rfl rfl ZT (af pg) (fun r=>if r=2 then 0 else 1) (g9 [] [.tup (bh p 0)] [.tup (cd (aV 0 p))] [mods p,aN st,.hn,ints w,.int .i64 0,.int .i64 0,.int .i64 0,.hn,.hn,.hn,.hn,.hn,.bool false,.mp 0,.mp 1]) args (XM (XB _ ha.1) ZT) 11;have R2:=R0.keep K2 (fun k hk=>hk.elim);obtain⟨h3,e3,tag3,fv3,dv3,cv3,vc3,R3⟩:=t24 R2 s x V2 ZU cb.2 ha.1 ZU;have Q3:=R3.pr (zJ (r8 5 h3) st) rfl;have g4:bb T 39 (.hp 2 (0+0)) h3= .ok (.agg ((fG L (F9 q [] s x args) (aN st) fv3 dv3 cv3 vc3).take 13)) h3:=Q3.load rfl rfl rfl;obtain⟨cn,c0,c1,c2,c3,c4,c5,c6,c7,c8,c9,c10,c11,c12,hcs⟩:=Q3.cells;refine gG (a:=.tup [.agg ((fG L (F9 q [] s x args) (aN st) fv3 dv3 cv3 vc3).take 13),.int .i64 0]) (h':=h3) ?_ (Q3.tup 0);rw[S7,ap g1];simp -implicitDefEqProofs only[vM,vO,ae,nee,ne0,ai,Xs,Xy,hfr,mH,aj,aJ,FH82_2];rw[ap g2,wy,ae,ap g3'];simp -implicitDefEqProofs only[vM,vO,ae,cX,aj,bi,XR,ai,Xs,Xy,aI,fX2,Nl,NC,r1,QI w hw,aJ,FH82_0,FH39_1,FH39_3,WU];rw[ap s1,ap s2,ap ((xP _ _).trans e2),ap e3,ap g4,cn,aj,aI,hcs];rfl
 ·obtain⟨h',g1⟩:=hld.2 hl;have hs:iM p s t args w=(p0,jE p):=by
   unfold iM gB;rw[Xv hl]
  rw[hs];have hne:(jE p != 0)=true:=by simpa using hl
  refine bad h' (jE p) ?_;rw[S7,ap g1];simp -implicitDefEqProofs only[vM,vO,ae,nee,hne,ai,XF,zp,zc,aj];rfl
def pX{F:(List AV->M AV)->List AV->M AV}(hF:∀vs,ak F vs=F (ak F) vs)(st:Nat->List AV)(n:Nat)(hend:F (ak F) (st n)=ao (.bool true))(hstep:∀k,k<n->F (ak F) (st k)=ak F (st (k+1))):ak F (st 0)=ao (.bool true):=by
 have h:=pW hF st n (fun _=>true) hend (fun k hk=>ZU) 0 (XN _)
 grind
@[simp] theorem tg(t:Nat)(a b:aW):cF T .neq t (.str a) (.str b)=some (.bool !(a== b)):=rfl
theorem pK{α:Type}[BEq α][LawfulBEq α]:∀(a b:List α),iV (fun x y=>x== y) a b=(a== b)
 |[],[]=>rfl
 |[],_:: _=>rfl
 |_:: _,[]=>rfl
 |x:: a,y:: b=>by
  simp only[iV,pK a b];rfl
def Xa(a b:List aW)(hb:a.length<=4611686018427387904):af pg 57 [strs a,strs b]=ao (.bool (a== b)):=by
 have la:∀l:List aW,bp T 31 (strs l)=some (.int .i64 l.length):=fun l=>iB _;rw[C57,show cl aF (strs a)=strs a by simp,show cl aF (strs b)=strs b by simp];by_cases h:a.length=b.length
 ·have h0:((a.length:Int) != (b.length:Int))=false:=by simp[h]
  have hh:=pW (FL57_0 (af pg)) (fun k=>[strs a,strs b,.int .i64 (k:Int)]) a.length (fun k=>a[k]! == b[k]!) (by
   simp_all[L57_0]) (fun k hk=>by
   have h1:(k:Int)<(a.length:Int):=ZS
   have i1:=pI (l:=a) (n:=(k:Int)) ZS h1;have i2:=pI (l:=b) (n:=(k:Int)) ZS ZS;rw[XC]at i1 i2;have hw:IntKind.i64.wrap ((k:Int)+1)=((k+1:Nat):Int):=aZ ZS;simp_all[L57_0]) 0 (XN _)
  have hh':ak (L57_0 (af pg) ak) [strs a,strs b,.int .i64 0]=_:=hh;rw[Y5,ml (fun x y:aW=>x== y) a b h,pK]at hh';simp_all[S57]
 ·have h0:((a.length:Int) != (b.length:Int))=true:=by simp;omega
  have h2:(a== b)=false:=by
   rw[YW];intro hh;exact h (by rw[hh])
  rw[h2];simp_all[S57]
def Sf(v:Val):ax T 33 (.ip (aa v.av))=some v.av:=by cases v;rfl
def Lb(a b:List Val)(hb:a.length<=4611686018427387904)(hf:∀x∈a,∀y∈b,af pg 28 [x.av,y.av]=ao (.bool (fE x y))):af pg 10 [vals a,vals b]=ao (.bool (iV fE a b)):=by
 have la:∀l:List Val,bp T 23 (vals l)=some (.int .i64 l.length):=fun l=>nf _;rw[C10,show cl aF (vals a)=vals a by simp,show cl aF (vals b)=vals b by simp];by_cases h:a.length=b.length
 ·have h0:((a.length:Int) != (b.length:Int))=false:=by simp[h]
  have hh:=pW (FL10_0 (af pg)) (fun k=>[vals a,vals b,.int .i64 (k:Int)]) a.length (fun k=>fE a[k]! b[k]!) (by
   simp_all[L10_0]) (fun k hk=>by
   have h1:(k:Int)<(a.length:Int):=ZS
   have i1:=qG (l:=a) (n:=(k:Int)) ZS h1;have i2:=qG (l:=b) (n:=(k:Int)) ZS ZS;rw[XC]at i1 i2;have hw:IntKind.i64.wrap ((k:Int)+1)=((k+1:Nat):Int):=aZ ZS;have m1:a[k]! ∈a:=mI hk;have m2:b[k]! ∈b:=mI ZS;have f1:=hf _ m1 _ m2;generalize a[k]! = s at i1 f1;generalize b[k]! = t at i2 f1;simp -implicitDefEqProofs only[L10_0,am,ar,la,aB,ae,ai,Xt,Xv h1,i1,i2,Sf,f1,dG,aj,bi,bm,hw]
   grind) 0 (XN _)
  have hh':ak (L10_0 (af pg) ak) [vals a,vals b,.int .i64 0]=_:=hh;rw[Y5,ml fE a b h]at hh';simp_all[S10]
 simp_all[nq,S10]
def V6:∀(n:Nat)(v w:Val),v.sz<=n->v.sz<=4611686018427387904->af pg 28 [v.av,w.av]=ao (.bool (fE v w)):=by
 intro n
 induction n with
 |zero=>intro v w h;have:=v.sz_pos;omega
 |succ n ih=>
  intro v w h hv;have h1:=Xa v.names w.names (XM v.sz_names hv);have h2:=Lb v.values w.values (by have:=v.sz_len;omega) (fun x hx y _=>ih x y (by have:=Xd hx;omega) (by have:=Xd hx;omega));rw[C28,show cl aF v.av=v.av by simp,show cl aF w.av=w.av by simp,Is];simp -implicitDefEqProofs only[S28,bK,Ra,Sa,ae,aH,Rb,Sb,aE,aj,am,bg,Rc,Sd,h1,Re,Se,h2];simp_all
def V5(v w:Val)(hv:v.sz<=4611686018427387904):af pg 28 [v.av,w.av]=ao (.bool (fE v w)):=V6 v.sz v w (Xz _) hv
def ON(a b:List Val)(hb:a.length<=4611686018427387904)(hf:∀x∈a,x.sz<=4611686018427387904):af pg 10 [vals a,vals b]=ao (.bool (iV fE a b)):=Lb a b hb fun x hx y _=>V5 x y (hf x hx)
mutual
theorem mU:(v:Val)->fE v v=true
 |.mk k n ns vs=>by simp[fE,nU vs]
theorem nU:(l:List Val)->rC l l=true
 |[]=>rfl
 |v:: l=>by simp[rC,mU v,nU l]
end
def Ez(l:List Val):iV fE l l=true:=by rw[<- nT];exact nU l
def vP(l:List Val):Prop:=l.length<=4611686018427387904/\∀x∈l,x.sz<=4611686018427387904
def SC(l:List Val)(h:vP l):af pg 10 [vals l,vals l]=ao (.bool true):=by rw[ON l l h.1 h.2,Ez]
def HN(a:aW):cF T .neq 9 (.str a) (.str a)=some (.bool false):=ZW
def HM(a:Int):cF T .neq 3 (.int .i64 a) (.int .i64 a)=some (.bool false):=ZW
def NO(a:Int):cF T .neq 30 (.int .i64 a) (.int .i64 a)=some (.bool false):=ZW
def W6(l:List Vars)(hl:l.length<=4611686018427387904)(h:∀w∈l,vP w.values):af pg 34 [aN l,aN l]=ao (.bool true):=by
 have hh:=pX (FL34_0 (af pg)) (fun k=>[aN l,aN l,.int .i64 (k:Int)]) l.length (by
  simp_all[L34_0]) (fun k hk=>by
  have h1:(k:Int)<(l.length:Int):=ZS
  have i1:=qZ hk;have hw:IntKind.i64.wrap ((k:Int)+1)=((k+1:Nat):Int):=aZ ZS;have m1:l[k]! ∈l:=by rw[Xx l k hk];exact XG hk
  have f1:=SC _ (h _ m1);generalize l[k]! = w at i1 f1;simp -implicitDefEqProofs only[L34_0,am,ar,rc,aB,ae,ai,Xt,Xv h1,i1,JG,JU,HN,E0,Fo,f1,dG,aj,bi,XR,aE,am,eB,Y3,Xs,Xy,bm,hw])
 have hh':ak (L34_0 (af pg) ak) [aN l,aN l,.int .i64 0]=_:=hh;rw[C34,show cl aF (aN l)=aN l by simp];simp_all[S34]
section
variable (c:Ap.Call)
theorem UI:ah T 126 (.ip (aa c.av)) 0=some (.ip ((aa c.av).drop 0)):=rfl
theorem UJ:ah T 126 (.ip (aa c.av)) 1=some (.ip ((aa c.av).drop 1)):=rfl
theorem Vo:ax T 9 (.ip ((aa c.av).drop 0))=some (.str c.module):=rfl
theorem Vp:ax T 9 (.ip ((aa c.av).drop 1))=some (.str c.func):=rfl
end
def W5(l:List Ap.Call)(hl:l.length<=4611686018427387904)(h:∀w∈l,vP w.args):af pg 33 [calls l,calls l]=ao (.bool true):=by
 have hh:=pX (FL33_0 (af pg)) (fun k=>[calls l,calls l,.int .i64 (k:Int)]) l.length (by
  simp_all[L33_0]) (fun k hk=>by
  have h1:(k:Int)<(l.length:Int):=ZS
  have i1:=Tq (l:=l) (n:=(k:Int)) ZS h1;rw[XC]at i1;have hw:IntKind.i64.wrap ((k:Int)+1)=((k+1:Nat):Int):=aZ ZS;have m1:l[k]! ∈l:=by rw[Xx l k hk];exact XG hk
  have f1:=SC _ (h _ m1);generalize l[k]! = w at i1 f1;simp -implicitDefEqProofs only[L33_0,am,ar,KW,aB,ae,ai,Xt,Xv h1,i1,UI,Vo,HN,UJ,Vp,UK,Vq,f1,dG,aj,bi,XR,aE,am,eB,Y3,Xs,Xy,bm,hw])
 have hh':ak (L33_0 (af pg) ak) [calls l,calls l,.int .i64 0]=_:=hh;rw[C33,show cl aF (calls l)=calls l by simp];simp_all[S33]
def W4(l:List Int)(hl:l.length<=4611686018427387904):af pg 16 [ints l,ints l]=ao (.bool true):=by
 have hh:=pX (FL16_0 (af pg)) (fun k=>[ints l,ints l,.int .i64 (k:Int)]) l.length (by
  simp_all[L16_0]) (fun k hk=>by
  have h1:(k:Int)<(l.length:Int):=ZS
  have i1:=Hn hk;have hw:IntKind.i64.wrap ((k:Int)+1)=((k+1:Nat):Int):=aZ ZS;simp_all[L16_0])
 have hh':ak (L16_0 (af pg) ak) [ints l,ints l,.int .i64 0]=_:=hh;rw[C16,show cl aF (ints l)=ints l by simp];simp_all[S16]
theorem QK(d:Deed):cF T .neq 101 d.av d.av=some (.bool false):=by
 have e2:∀n a,qR T (n+1) 3 (.int .i64 a) (.int .i64 a)=some true:=fun n a=>by
  have:qR T (n+1) 3 (.int .i64 a) (.int .i64 a)=some (a== a):=rfl
  grind
 have e:cF T .neq 101 d.av d.av=(qR T 20 101 d.av d.av).map fun b=>AV.bool !b:=rfl;have f:qR T 20 101 d.av d.av=(match qR T 18 3 (.int .i64 d.effect) (.int .i64 d.effect)with
   | some true=>(match qR T 17 3 (.int .i64 d.arg) (.int .i64 d.arg)with
    |some true=>(match qR T 16 3 (.int .i64 d.answer) (.int .i64 d.answer)with
     |some true=>some true
     |some false=>some false
     |none=>none)
    |some false=>some false
    |none=>none)
   |some false=>some false
   |none=>none):=rfl
 grind
structure CmpO (o:Out):Prop where
 value:o.value.sz<=4611686018427387904
 deeds:o.deeds.length<=4611686018427387904
 calls:o.calls.length<=4611686018427387904/\∀c∈o.calls,vP c.args
 state:o.state.length<=4611686018427387904/\∀w∈o.state,vP w.values
section
variable (o:Out)
theorem UO:ah T 37 (.ip (aa o.av)) 0=some (.ip ((aa o.av).drop 0)):=rfl
theorem UP:ah T 37 (.ip (aa o.av)) 1=some (.ip ((aa o.av).drop 1)):=rfl
theorem Ni:ah T 37 (.ip (aa o.av)) 2=some (.ip ((aa o.av).drop 5)):=rfl
theorem UQ:ah T 37 (.ip (aa o.av)) 3=some (.ip ((aa o.av).drop 6)):=rfl
theorem US:ah T 37 (.ip (aa o.av)) 4=some (.ip ((aa o.av).drop 7)):=rfl
theorem Vz:ax T 30 (.ip ((aa o.av).drop 0))=some (.int .i64 o.err):=rfl
theorem VA:ax T 33 (.ip ((aa o.av).drop 1))=some o.value.av:=by
 simp_all
theorem NA:ax T 34 (.ip ((aa o.av).drop 5))=some (deeds o.deeds):=rfl
theorem VB:ax T 35 (.ip ((aa o.av).drop 6))=some (calls o.calls):=rfl
theorem VD:ax T 28 (.ip ((aa o.av).drop 7))=some (aN o.state):=rfl
end
theorem RY(d:Deed):ax T 101 (.ip (aa d.av))=some d.av:=rfl
def W3(o:Out)(h:CmpO o):af pg 14 [o.av,o.av]=ao (.bool true):=by
 have c1:=W5 o.calls h.calls.1 h.calls.2;have c2:=W6 o.state h.state.1 h.state.2;have c3:=V5 o.value o.value h.value;rw[mU]at c3;have hd:=h.deeds;have hh:=pX (FL14_0 (af pg)) (fun k=>[.ip (aa o.av),.ip (aa o.av),.int .i64 (k:Int)]) o.deeds.length (by
  have h1:¬((o.deeds.length:Int)<(o.deeds.length:Int)):=ZS
  simp -implicitDefEqProofs only[L14_0,am,ar,Ni,NA,DR,aB,ae,ai,Xt,Xr h1,UQ,VB,c1,US,VD,c2,aE,aj,bg,Yn]) (fun k hk=>by
  have h1:(k:Int)<(o.deeds.length:Int):=ZS
  have i1:=To (l:=o.deeds) (n:=(k:Int)) ZS h1;rw[XC]at i1;have hw:IntKind.i64.wrap ((k:Int)+1)=((k+1:Nat):Int):=aZ ZS;generalize o.deeds[k]! = w at i1;simp -implicitDefEqProofs only[L14_0,am,ar,Ni,NA,DR,aB,ae,ai,Xt,Xv h1,i1,RY,QK,Xs,Xy,bm,hw])
 have hh':ak (L14_0 (af pg) ak) [.ip (aa o.av),.ip (aa o.av),.int .i64 0]=_:=hh;rw[C14,show cl aF o.av=o.av by simp];simp -implicitDefEqProofs only[S14,UO,Vz,ae,NO,Ni,NA,DR,HM,UP,VA,c3,aj,bi,XR,aE,am,eB,Y3,ai,Xs,Xy,hh'];simp_all
structure CmpP (p:Proc):Prop where
 mods:p.mods.length<=4611686018427387904/\∀m∈p.mods,m.Lim
 state:p.state.length<=4611686018427387904/\∀w∈p.state,vP w.values
 frames:p.frames.length<=4611686018427387904/\∀f∈p.frames,vP f.locals/\vP f.stack
 world:p.world.length<=4611686018427387904
 out:CmpO p.out
theorem VJ(p:Proc):ax T 37 (.ip ((aa p.av).drop 4))=some p.out.av:=rfl
end Go.Proofs.YtbndmpiddinalabGreatDoor
