/- What the functions of the seat compute, part 5: the texts of the claim, one behind the other. Conditions: bounds, as each theorem names them. -/
import Derived.Test.YteemeakjlfnapaaGreatDoorTd
import Derived.Lib.SmallJoins
set_option linter.defProp false
set_option linter.unusedSimpArgs false
set_option linter.unusedVariables false
namespace Go.Proofs.YteemeakjlfnapaaGreatDoor
open Go Go.Av Go.Av.Ap
set_option maxRecDepth 100000
def bQ{α β:Type}{m:M α}{a:α}{h h':Hp}(e:m h= .ok a h')(f:α->M β):af m f h=f a h':=by simp only[af,e]
def Bd(x:dV):(ab (bb x)).length=3:=by simp
def B5(x:Ty):(ab x.av).length=2:=by simp
def lV(l:List dV):aQ l= .sl (l.map bb):=by rw[aQ,cC]
def t104(t:Ty)(h:bR t=true):ai pg 104 [t.av]=M.pure t.av:=by
 have e0:ai pg 104 [t.av]=ic (ai pg) [t.av]:=dS hOther rfl _;rw[e0];simp only[ic,xv 5 t (wN 4 t (oe 4 t h)),El];rfl
theorem lY{α:Type}(F:α->Bool):(l:List α)->(i:Int)->(l.find? F=none/\cV F l i= -1)\/∃(k:Nat)(x:α),l.find? F=some x/\l[k]? = some x/\cV F l i=i+k
 |[],i=>.inl ⟨rfl,rfl⟩
 | x:: l,i=>by
  cases h:F x with
  |true=>exact .inr ⟨0,x,by simp[h],rfl,by simp[cV,h]⟩
  |false=>
   rcases lY F l (i+1)with⟨h1,h2⟩|⟨k,y,h1,h2,h3⟩
   ·exact .inl ⟨by simp[h,h1],by simp[cV,h,h2]⟩
   ·exact .inr ⟨k+1,y,by simp[h,h1],by simpa using h2,by simp[cV,h,h3];omega⟩
theorem DJ{q n i:Nat}(h:i<n):ap T 54 (.hs q 0 n 2 true) (.int .i64 (i:Int))=some (.hp q (0+i*2)):=by
 have e:ap T 54 (.hs q 0 n 2 true) (.int .i64 (i:Int))=if 0<=(i:Int)/\(i:Int)<(n:Int)then some (.hp q (0+(i:Int).toNat*2))else none:=rfl;rw[e,Es (by omega),Ez]
def yp{q:Nat}{l:List Ty}{i:Nat}{h:Hp}(hi:i<l.length)(hq:h[q]? = some (rowOf Ty.av l)):fI T 27 (.hp q (0+i*2)) h= .ok l[i].av h:=by
 have hlen:=dA (f:=Ty.av) B5 l;rw[oc (T:=T) (t:=27) rfl rfl hq (show 0+i*2+2<=_ by omega)];show R.ok (AV.agg (((rowOf Ty.av l).drop (0+i*2)).take 2)) h=_;rw[ED,dn B5 l i hi,ca,dv]
def uH{q:Nat}{l:List Ty}{i:Nat}{h:Hp}(hi:i<l.length)(hq:h[q]? = some (rowOf Ty.av l)):fB T 27 (.hp q (0+i*2)) l[i].av h= .ok (.tup []) h:=by
 have hlen:=dA (f:=Ty.av) B5 l;refine kX (T:=T) (t:=27) rfl hq (Ap.gm _) (show 0+i*2+2<=_ by omega) (by decide) ?_;rw[ca];show ((rowOf Ty.av l).drop (0+i*2)).take 2=_;rw[ED,dn B5 l i hi,ca]
def AG(l:List Ty)(hb:l.length<=4611686018427387904)(hk:∀t∈l,ai pg 104 [t.av]=M.pure t.av)(q:Nat)(h:Hp)(hq:h[q]? = some (rowOf Ty.av l))(x3 x4 x5 x6 x7:AV)(nm:bI)(k e:Int)(fs:List dV):∀(n i:Nat),l.length-i=n->i<=l.length->
  ak (L37_0 (ai pg) ak) [.hs q 0 l.length 2 true,.int .i64 l.length,.int .i64 i,x3,x4,x5,x6,x7,.str nm,.hs q 0 l.length 2 true,.int .i64 k,aQ fs,.int .i64 e] h= .ok (.tup [.agg [.str nm,.hs q 0 l.length 2 true,.int .i64 k,aQ fs,.int .i64 e],.bool true]) h:=by
 intro n
 induction n with
 |zero=>
  intro i hn hi;rw[FL37_0];have h1:¬((i:Int)<(l.length:Int)):=by omega
  have h2:az 5 [] (.agg [.str nm,.hs q 0 l.length 2 true,.int .i64 k,aQ fs,.int .i64 e])=M.pure (.agg [.str nm,.hs q 0 l.length 2 true,.int .i64 k,aQ fs,.int .i64 e]):=aP rfl;simp[L37_0,h1,h2,M.pure]
 |succ n ih=>
  intro i hn hi;have hlt:i<l.length:=by omega
  have h1:(i:Int)<(l.length:Int):=by omega
  have ih':=ih (i+1) (by omega) (by omega);have hw:IntKind.i64.wrap ((i:Int)+1)=((i+1:Nat):Int):=aX (by omega);have hc:=hk l[i] (EF hlt);rw[<- ih'];generalize hcode:ak (L37_0 (ai pg) ak) [.hs q 0 l.length 2 true,.int .i64 l.length,.int .i64 i,x3,x4,x5,x6,x7,.str nm,.hs q 0 l.length 2 true,.int .i64 k,aQ fs,.int .i64 e] h=code;rw[FL37_0]at hcode;simp -implicitDefEqProofs only[L37_0,aZ,bj,bP,aN,a8,h1,Fu,E4,DJ hlt]at hcode;rw[bQ (yp hlt hq)]at hcode;simp -implicitDefEqProofs only[Av.jS,aT,ca,aN,LD27,EG,EH,ED,Nat.reduceAdd,En,E4,EX,E5,dv,hc,fy]at hcode;rw[show (i*2)=0+i*2 by omega]at hcode;rw[bQ (uH hlt hq)]at hcode;simp -implicitDefEqProofs only[eH,aN,hw]at hcode;rw[<- hcode]
def rc:Sig:=⟨[],[],ty0,0⟩
def t102(s:Sig)(name:bI):ai pg 102 [s.av,.ip [.str name]]=M.pure (.bool (s.name== name)):=by
 rw[C102];simp[S102,cl,dD]
theorem t37(f:Face)(hf:f.Lim)(hr:cw f=true)(name:bI):ai pg 37 [f.av,.str name]=M.pure (match iA f name with
  |some s=>.tup [s.av,.bool true]
  |none=>.tup [rc.av,.bool false]):=by
 have hlen:=hf.len;have h1:=t101 (.fn (.func 102) [] [.ip [.str name]]) (fun s=>s.name== name) f.funcs (by omega) (fun g=>rfl) (fun x _=>t102 x name);unfold cw at hr;simp only[Em,Et]at hr;rw[C37];unfold iA;rcases lY (fun s:Sig=>s.name== name) f.funcs 0 with⟨h2,h3⟩|⟨k,s,h2,h3,h4⟩
 ·rw[h3]at h1;rw[h2];have e1:cI T false 56 []=some rc.av:=rfl;simp[S37,cl,h1,e1];exact bD fun g=>by simp[cl,dD]
 ·have hm:s∈f.funcs:=FC h3;have hrs:=hr.2.1 s hm;unfold dM at hrs;simp only[Em,Ew,Et]at hrs;obtain⟨⟨⟨⟨_,hpl⟩,_⟩,hrr⟩,hps⟩:=hrs;have hk:k<f.funcs.length:=(E6.1 h3).1;rw[Int.zero_add]at h4;rw[h4]at h1;rw[h2];have hix:=uL (l:=f.funcs) (n:=(k:Int)) (by omega) (by omega);rw[Ez,GV,h3]at hix;have hix':ap T 22 (sigs f.funcs) (.int .i64 (k:Int))=some (.ip (ab s.av)):=hix;have hneg:¬((k:Int)<0):=by omega
  have hcl:=fun t (ht:t∈s.params)=>t104 t (hps t ht);have hcr:=t104 s.result hrr;have e0:ai pg 103 [jN s.params]=cB T 54 (ai pg) [jN s.params]:=dS hOther rfl _;have e1:=lH (T:=T) (t:=54) (f:=Ty.av) (sz:=2) rfl rfl rfl rfl rfl (by decide) (by decide) (fun x=>Ap.gm x) (ai pg) s.params (show s.params.length*32<=140737488355328 by omega) [];rw[show AV.sl (s.params.map Ty.av)=jN s.params from rfl,<- e0]at e1;funext hp;show aE _ hp=R.ok (.tup [s.av,.bool true]) hp;by_cases hps0:s.params=[]
  ·rw[Es hps0]at e1;have e2:az 5 [] (.agg [.str s.name,.sl [],.int .i64 s.result.kind,aQ s.result.fields,.int .i64 s.effects])=M.pure (.agg [.str s.name,.sl [],.int .i64 s.result.kind,aQ s.result.fields,.int .i64 s.effects]):=aP rfl;have key:S37 (ai pg) ak (cl ax f.av) (cl ax (.str name)) []= .ok (.tup [.agg [.str s.name,.sl [],.int .i64 s.result.kind,aQ s.result.fields,.int .i64 s.effects],.bool true]) []:=by
    simp only[S37,ib,rR,dQ,FA24_1,aN,Fx,EY,LD22,iF,h1,aT,bP,hneg,Gy,a8,Fv,E0,hix',LD56,dK,EG,EH,ED,Nat.reduceAdd,En,E4,EX,E5,eN,iZ,aZ,bj];rw[bQ e1];simp only[dv,hcr,fy,aT,bm,aL,El,aN,kA,ca,yP,aZ,bj];rw[FL37_0];simp[L37_0,e2,M.pure]
   unfold aE;rw[key];have:(AV.agg [.str s.name,.sl [],.int .i64 s.result.kind,aQ s.result.fields,.int .i64 s.effects])=s.av:=by rw[<- eN,hps0];rfl
   rw[this];have hc:Ap.Clean (AV.tup [s.av,.bool true]):=fun g=>by simp[cl,dD]
   exact Er (fun x=>R.ok x hp) (hc.frz 6 [])
  ·rw[if_neg hps0]at e1;have hq:([]++[rowOf Ty.av s.params]:Hp)[0]? = some (rowOf Ty.av s.params):=rfl;have key:S37 (ai pg) ak (cl ax f.av) (cl ax (.str name)) []= .ok (.tup [.agg [.str s.name,.hs 0 0 s.params.length 2 true,.int .i64 s.result.kind,aQ s.result.fields,.int .i64 s.effects],.bool true]) ([]++[rowOf Ty.av s.params]):=by
    simp only[S37,ib,rR,dQ,FA24_1,aN,Fx,EY,LD22,iF,h1,aT,bP,hneg,Gy,a8,Fv,E0,hix',LD56,dK,EG,EH,ED,Nat.reduceAdd,En,E4,EX,E5,eN,iZ,aZ,bj];rw[bQ e1];simp only[dv,hcr,fy,aT,bm,aL,El,aN,kA,ca,zB,aZ,bj,EH];exact AG s.params (by omega) hcl 0 _ hq _ _ _ _ _ _ _ _ _ s.params.length 0 rfl (by omega)
   unfold aE;rw[key];have hfr:=j9 (f:=Ty.av) B5 (fun x=>by rw[ca,dv]) (fun x g=>kB g x) (by decide) hq 5;have:gH 6 ([]++[rowOf Ty.av s.params]) (.tup [.agg [.str s.name,.hs 0 0 s.params.length 2 true,.int .i64 s.result.kind,aQ s.result.fields,.int .i64 s.effects],.bool true])= .tup [s.av,.bool true]:=by
    rw[<- eN];show AV.tup [.agg [.str s.name,gH 6 ([]++[rowOf Ty.av s.params]) (.hs 0 0 s.params.length 2 true),.int .i64 s.result.kind,cl _ (aQ s.result.fields),.int .i64 s.effects],.bool true]=_;rw[hfr,lh];rfl
   show R.ok (gH 6 _ _) hp=_;rw[this]
def t64(a b:Face)(ha:a.Lim)(hb:b.Lim):ai pg 64 [a.av,b.av]=M.pure (.bool (ew a b)):=by
 rw[C64];have h1:=t27 a ha;have h2:=t27 b hb;unfold ew;by_cases g1:a.module=b.module
 ·have g1':(a.module== b.module)=true:=Fw.2 g1;by_cases g2:cw a=true
  ·rw[g2]at h1;simp only[S64,ib,dQ,FA24_0,EY,LD9,aN,tD,g1',cT,LD24,EG,EH,ED,Nat.reduceAdd,En,E4,EX,E5,ie,h1,h2,g2,aT,aZ,ez,dx,FA,GK]
  ·rw[Gv]at g2;rw[g2]at h1;simp only[S64,ib,dQ,FA24_0,EY,LD9,aN,tD,g1',cT,ui,List.replicate,LD24,EG,EH,ED,Nat.reduceAdd,En,E4,EX,E5,ie,h1,g2,aT,aZ,ez,kT,dx,FA,G0,GY]
 ·have g1':(a.module== b.module)=false:=Fh.2 g1;simp[S64,g1,g1']
theorem AH(old now:Face)(ho:old.Lim)(hn:now.Lim)(hr:cw now=true)(x4 x5 x6 x7 x8:AV):∀(n i:Nat),old.funcs.length-i=n->i<=old.funcs.length->
  ak (L65_0 (ai pg) ak) [.ip (ab now.av),sigs old.funcs,.int .i64 old.funcs.length,.int .i64 i,x4,x5,x6,x7,x8]=M.pure (match (old.funcs.drop i).find? (fun f=>!(fw now f))with
   |some s=>.tup [s.av,.bool true]
   |none=>.tup [rc.av,.bool false]):=by
 have hlen:=ho.len;intro n
 induction n with
 |zero=>
  intro i hni hi;rw[FL65_0];have h1:¬((i:Int)<(old.funcs.length:Int)):=by omega
  have h2:old.funcs.drop i=[]:=Fc (by omega);have e1:cI T false 56 []=some rc.av:=rfl;simp[L65_0,h1,h2,e1]
 | succ n ih=>
  intro i hni hi;have hlt:i<old.funcs.length:=by omega
  have h1:(i:Int)<(old.funcs.length:Int):=by omega
  have h2:old.funcs.drop i=old.funcs[i]:: old.funcs.drop (i+1):=EU hlt;have ih':=ih (i+1) (by omega) (by omega);have hw:IntKind.i64.wrap ((i:Int)+1)=((i+1:Nat):Int):=aX (by omega);have hix:=uL (l:=old.funcs) (n:=(i:Int)) (by omega) h1;rw[Ez,EI old.funcs i hlt]at hix;have hfl:=ho.sigs _ (EF hlt);generalize old.funcs[i]=f at hix h2 hfl;have h3:=t37 now hn hr f.name;have hkb:fw now f=(match iA now f.name with|some g=>sU g f|none=>false):=rfl;rw[h2,FL65_0];simp only[L65_0,aZ,bj,bP,aN,h1,Fu,a8,E4,hix,dK,LD56,EG,EH,ED,Nat.reduceAdd,En,EX,E5,eN,rO,aT,dQ,LD24,ie,FA56_0,EY,LD9,h3];cases hfs:iA now f.name with
  |none=>
   rw[hfs]at hkb;simp[hkb]
  | some g=>
   rw[hfs]at hkb;simp only at hkb;have hgl:g.Lim:=hn.sigs g (List.mem_of_find?_eq_some hfs);have h4:=t44 g f hgl hfl;cases hs:sU g f with
   |true=>
    rw[hs]at h4 hkb;simp[hkb,h4,hw];simpa using ih'
   |false=>
    rw[hs]at h4 hkb;simp[hkb,h4]
theorem t65(old now:Face)(ho:old.Lim)(hn:now.Lim)(hr:cw now=true):ai pg 65 [old.av,now.av]=M.pure (match gC old now with
   |some s=>.tup [s.av,.bool true]
   |none=>.tup [rc.av,.bool false]):=by
 rw[C65];have h:=AH old now ho hn hr (.str []) (.sl []) (.int .i64 0) (.sl []) (.int .i64 0) old.funcs.length 0 rfl (by omega);rw[EY]at h;unfold gC;simp[S65,sigs]at h|-;rw[h];cases List.find? (fun f=>!fw now f) old.funcs with
 |none=>exact bD fun g=>by simp[cl,dD]
 |some s=>exact bD fun g=>by simp[cl,dD]
def t17(a b:Face)(ha:a.Lim)(hb:b.Lim):ai pg 17 [a.av,b.av]=M.pure (.tup [.int .i64 (dj a b).1,.str (dj a b).2]):=by
 rw[C17];have h1:=t64 a b ha hb;have hc:∀(k:Int)(s:bI),aE (M.pure (.tup [.int .i64 k,.str s]))=M.pure (.tup [.int .i64 k,.str s]):=fun k s=>bD fun g=>rfl;unfold dj;cases hm:ew a b with
 |false=>
  rw[hm]at h1;simp[S17,h1,hc]
 | true=>
  rw[hm]at h1;unfold ew at hm;simp only[Em]at hm;have h2:=t65 a b ha hb hm.2;have h3:=t65 b a hb ha hm.1.2;cases hl:gC a b with
  |some s=>
   rw[hl]at h2;simp[S17,h1,h2,hc]
  | none=>
   rw[hl]at h2;cases hl2:gC b a with
   |some s=>
    rw[hl2]at h3;simp[S17,h1,h2,h3,hc]
   |none=>
    rw[hl2]at h3;simp[S17,h1,h2,h3,hc]
end Go.Proofs.YteemeakjlfnapaaGreatDoor
namespace Go.Proofs.YteemeakjlfnapaaGreatDoor
open Go Go.Av
set_option maxRecDepth 1000000
def sO:cp pg 80 14 [] []= .ok (.bool true) []:=by kernel_rfl
def f4:ai pg 14 []=M.pure (.bool true):=by
 funext h;have h1:=vT hOther sO (by simp);have e:∀h,ai pg 14 [] h=aE (bB (pg.cx (ai pg) Tryz.f14.ntmps vo) ak Tryz.f14 (pg.own 14) (dD ax [])) h:=fun h=>congrFun (aw hOther rfl rfl rfl []) h;rw[e]at h1 |-;unfold aE at h1 |-;generalize bB (pg.cx (ai pg) Tryz.f14.ntmps vo) ak Tryz.f14 (pg.own 14) (dD ax []) []=r at h1 |-;cases r with
 |ok v h'=>
  simp only[R.ok.injEq]at h1;show R.ok (gH 6 h' v) h=_;rw[h1.1];rfl
 |pan v h'=>cases h1
 |fail=>cases h1
end Go.Proofs.YteemeakjlfnapaaGreatDoor
namespace Go.Proofs.YteemeakjlfnapaaGreatDoor
open Go Go.Av Go.Av.Ap
set_option maxRecDepth 100000
def qH{m:M AV}{v r:AV}{h':Hp}(e:m []= .ok v h')(f:gH 6 h' v=r):aE m=M.pure r:=by
 funext hp;unfold aE;rw[e];show R.ok (gH 6 h' v) hp=R.ok r hp;rw[f]
def cnt(t:Ty):az 2 [] (.agg [.int .i64 t.kind,aQ t.fields])=M.pure (.agg [.int .i64 t.kind,aQ t.fields]):=aP rfl
theorem wn(k:Int)(es:List Exp):cI T false 47 [(0,.int .i64 k),(5,ci es)]=some (Exp.mk k 0 [] [] [] es).av:=rfl
def rS(e:Exp):aV 6 e.av=M.pure e.av:=by rw[br (fX _),cy,dG]
def vY(e:Exp):az 6 [] e.av=M.pure e.av:=by rw[aP (fX _),cy,dG]
def f6(o n:Int)(s m:bI)(ns:List bI)(es:List Exp):AV.agg [.int .i64 o,.int .i64 n,.str s,.str m,strs ns,ci es]=(Exp.mk o n s m ns es).av:=dG (Exp.mk o n s m ns es)
def DV(o n:Int)(s m:bI)(es:List Exp):AV.agg [.int .i64 o,.int .i64 n,.str s,.str m,.sl [],ci es]=(Exp.mk o n s m [] es).av:=dG (Exp.mk o n s m [] es)
def ta(e:Exp)(n:Int):aE (M.pure (.tup [e.av,.int .i64 n]))=M.pure (.tup [e.av,.int .i64 n]):=bD fun g=>by simp[cl,dD]
def bp(o n:Int)(s m:bI)(ns:List bI)(es:List Exp):ab (Exp.mk o n s m ns es).av=[.int .i64 o,.int .i64 n,.str s,.str m,strs ns,ci es]:=cy _
def t226(e:Exp):ai pg 226 [e.av]=M.pure (.tup [(eW e).1.av,.int .i64 (eW e).2]):=by
 have hc1:∀n:Int,bm (.int .i64 n)=M.pure (.int .i64 n):=fun n=>rfl;have hc2:∀s:bI,bm (.str s)=M.pure (.str s):=fun s=>rfl;have hc3:∀s:List bI,bm (strs s)=M.pure (strs s):=fun s=>rfl;rw[C226];obtain⟨o,n,s,m,ns,es⟩:=e;have ho:o=0\/o=1\/o=2\/o=17\/o=18\/o=14\/o=16\/o=10\/o=12\/o=11\/o=13\/o=15\/(o≠0/\o≠1/\o≠2/\o≠17/\o≠18/\o≠14/\o≠16/\o≠10/\o≠12/\o≠11/\o≠13/\o≠15):=by omega
 rcases ho with rfl|rfl|rfl|rfl|rfl|rfl|rfl|rfl|rfl|rfl|rfl|rfl|⟨h0,h1,h2,h17,h18,h14,h16,h10,h12,h11,h13,h15⟩
 all_goals first
  | (simp[S226,K226_0,K226_1,K226_2,wn,vY,bp,f6,DV,hc1,hc2,hc3,eW,Exp.op,Exp.n,Exp.s,Exp.m,Exp.names,Exp.args]
     exact ta _ _)
  | (simp[S226,K226_0,K226_1,K226_2,wn,vY,bp,f6,DV,hc1,hc2,hc3,eW,Exp.op,Exp.n,Exp.s,Exp.m,Exp.names,Exp.args,h0,h1,h2,h17,h18,h14,h16,h10,h12,h11,h13,h15]
     exact ta _ _)
theorem wP(e:Exp)(he:e.Lim):ak (L227_0 (ai pg) ak) [.ip (ab e.av),strs e.names,.int .i64 e.names.length,.int .i64 0]=M.pure (.bool (wQ e.names)):=by
 have hlen:=he.names
 have hloop:∀(m i:Nat),e.names.length-i=m->i<=e.names.length->ak (L227_0 (ai pg) ak) [.ip (ab e.av),strs e.names,.int .i64 e.names.length,.int .i64 i]=M.pure (.bool ((List.range' i (e.names.length-i)).all (fun k=>bz e.names[k]! && (decide (k=0)||df e.names[k-1]! e.names[k]!))&&decide (e.names.length<=8))):=by
  intro m
  induction m with
  |zero=>
   intro i hm hi;rw[FL227_0,hm];have h1:¬((i:Int)<(e.names.length:Int)):=by omega
   have h2:decide ((e.names.length:Int)<=8)=decide (e.names.length<=8):=by rw[FH];omega
   simp[L227_0,h1,h2]
  | succ m ih=>
   intro i hm hi;have hlt:i<e.names.length:=by omega
   have h1:(i:Int)<(e.names.length:Int):=by omega
   have ih':=ih (i+1) (by omega) (by omega);have er:List.range' i (e.names.length-i)=i:: List.range' (i+1) (e.names.length-(i+1)):=by
    rw[show e.names.length-i=(e.names.length-(i+1))+1 by omega,GL]
   have hix:=uM (l:=e.names) (n:=(i:Int)) (by omega) h1;rw[Ez]at hix;have hw:IntKind.i64.wrap ((i:Int)+1)=((i+1:Nat):Int):=aX (by omega);have h2:=t76 e.names[i]!;rw[FL227_0,er,FE];generalize e.names[i]! = s at hix h2 |-;cases hn:bz s with
   |false=>
    rw[hn]at h2;simp[L227_0,h1,hix,h2]
   | true=>
    rw[hn]at h2;rcases E1 i with hk0|hk0
    ·subst hk0;have hix0:ap T 35 (strs e.names) (.int .i64 0)=some (.ip (ab (.str s))):=hix;have hw0:IntKind.i64.wrap 1=1:=rfl;have hlt':0<e.names.length:=hlt;simpa [L227_0,h1,hlt',hix0,h2,hw0]using ih'
    ·have hp:IntKind.i64.wrap ((i:Int)-1)=((i-1:Nat):Int):=by
      rw[dB (by omega) (by omega)];omega
     have h4:((i-1:Nat):Int)<(e.names.length:Int):=by omega
     have hix2:=uM (l:=e.names) (n:=((i-1:Nat):Int)) (by omega) h4;rw[Ez]at hix2;generalize e.names[i-1]! = g at hix2 |-;have hk2:0<(i:Int):=by omega
     have hk3:¬i=0:=by omega
     have hle:au T .leq 9 (.str s) (.str g)=some (.bool (!(df g s))):=by
      have:au T .leq 9 (.str s) (.str g)=some (.bool (aC s g||s== g)):=rfl;rw[this];simp[df]
     cases hs:df g s with
     |false=>
      rw[hs]at hle;simp[L227_0,h1,hix,h2,hp,hix2,hk0,hk2,hk3,hle,-tE]
     |true=>
      rw[hs]at hle;simpa [L227_0,h1,hix,h2,hp,hix2,hk0,hk2,hk3,hle,hw,-tE]using ih'
 have h:=hloop e.names.length 0 rfl (ES _);rw[GA,oM]at h;exact h
theorem t227(e:Exp)(he:e.Lim):ai pg 227 [e.av]=M.pure (.bool (eO e)):=by
 rw[C227];have hs:=t76 e.s;have hm:=t76 e.m;have hbn:=wP e he;obtain⟨o,n,s,m,ns,es⟩:=e;simp only[bp,Exp.names]at hbn;simp only[Exp.s,Exp.m]at hs hm;have ho:o=0\/o=1\/o=2\/o=17\/o=18\/o=14\/o=16\/o=12\/o=13\/o=15\/(o≠0/\o≠1/\o≠2/\o≠17/\o≠18/\o≠14/\o≠16/\o≠12/\o≠13/\o≠15):=by omega
 rcases ho with rfl|rfl|rfl|rfl|rfl|rfl|rfl|rfl|rfl|rfl|⟨h0,h1,h2,h17,h18,h14,h16,h12,h13,h15⟩
 ·simp[S227,K227_0,bp,eO,Exp.op,Exp.n,Exp.s,Exp.m,Exp.names,Exp.args];rfl
 ·simp[S227,K227_0,bp,eO,Exp.op,Exp.n,Exp.s,Exp.m,Exp.names,Exp.args]
 ·simp[S227,K227_0,bp,eO,Exp.op,Exp.n,Exp.s,Exp.m,Exp.names,Exp.args,hs]
 ·simp[S227,K227_0,bp,eO,Exp.op,Exp.n,Exp.s,Exp.m,Exp.names,Exp.args,hs]
 ·simp[S227,K227_0,bp,eO,Exp.op,Exp.n,Exp.s,Exp.m,Exp.names,Exp.args,hs]
 ·simp[S227,K227_0,bp,eO,Exp.op,Exp.n,Exp.s,Exp.m,Exp.names,Exp.args,hs]
 ·simp[S227,K227_0,bp,eO,Exp.op,Exp.n,Exp.s,Exp.m,Exp.names,Exp.args]
 ·simp[S227,K227_0,bp,eO,Exp.op,Exp.n,Exp.s,Exp.m,Exp.names,Exp.args,hs]
 ·simp[S227,K227_0,bp,eO,Exp.op,Exp.n,Exp.s,Exp.m,Exp.names,Exp.args,hbn]
 ·have e6:au T .leq 3 (.int .i64 es.length) (.int .i64 6)=some (.bool (decide (es.length<=6))):=by
   have:au T .leq 3 (.int .i64 es.length) (.int .i64 6)=some (.bool (decide ((es.length:Int)<=6))):=rfl;rw[this];exact Er (fun b=>some (AV.bool b)) (FH.2 (by omega))
  cases ha:bz s with
  |false=>rw[ha]at hs;simp[S227,K227_0,bp,eO,Exp.op,Exp.n,Exp.s,Exp.m,Exp.names,Exp.args,hs,ha]
  | true=>
   rw[ha]at hs;by_cases hme:m=[]
   ·simp[S227,K227_0,bp,eO,Exp.op,Exp.n,Exp.s,Exp.m,Exp.names,Exp.args,hs,ha,hme,e6,-iY];try rfl
   ·cases hb:bz m with
    |false=>rw[hb]at hm;simp[S227,K227_0,bp,eO,Exp.op,Exp.n,Exp.s,Exp.m,Exp.names,Exp.args,hs,hm,ha,hb,hme,e6,-iY];try rfl
    |true=>rw[hb]at hm;simp[S227,K227_0,bp,eO,Exp.op,Exp.n,Exp.s,Exp.m,Exp.names,Exp.args,hs,hm,ha,hb,hme,e6,-iY];try rfl
 ·simp[S227,K227_0,bp,eO,Exp.op,Exp.n,Exp.s,Exp.m,Exp.names,Exp.args,h0,h1,h2,h17,h18,h14,h16,h12,h13,h15]
theorem t178:∀(d:Nat),d<=100->∀(e:Exp),e.Lim->ai pg 178 [e.av,.int .i64 d]=M.pure (.bool (c9 d e))
 |0,_,e,_=>by
  rw[C178];simp[S178,c9]
 | d+1,hd,e,he=>by
  have hlen:=he.len;have hd1:IntKind.i64.wrap (((d+1:Nat):Int)-1)=(d:Int):=oF (by omega);have hloop:∀(m i:Nat),e.args.length-i=m->i<=e.args.length->ak (L178_0 (ai pg) ak) [.int .i64 ((d+1:Nat):Int),ci e.args,.int .i64 e.args.length,.int .i64 i]=M.pure (.bool ((e.args.drop i).all (c9 d))):=by
   intro m
   induction m with
   |zero=>
    intro i hm hi;have h1:¬((i:Int)<(e.args.length:Int)):=by omega
    have h2:e.args.drop i=[]:=Fc (by omega);rw[FL178_0,h2];simp[L178_0,h1]
   |succ m ih=>
    intro i hm hi;have hlt:i<e.args.length:=by omega
    have h1:(i:Int)<(e.args.length:Int):=by omega
    have h2:e.args.drop i=e.args[i]:: e.args.drop (i+1):=EU hlt;have hix:=uN (l:=e.args) (n:=(i:Int)) (by omega) h1;rw[Ez,EI e.args i hlt]at hix;have hw:IntKind.i64.wrap ((i:Int)+1)=((i+1:Nat):Int):=aX (by omega);have hb:=t178 d (by omega) e.args[i] (he.kid (EF hlt));have ih':=ih (i+1) (by omega) (by omega);rw[h2,FE,FL178_0];generalize e.args[i]=x at hix hb |-;cases hr:c9 d x<;>rw[hr]at hb <;>
    simp only[L178_0,aZ,bj,bP,aN,h1,Fu,a8,E4,hix,cy,LD47,EG,EH,ED,Nat.reduceAdd,En,EX,E5,dG,rS,aT,oQ,hd1,hb,ln,G1,FT,E0,Fv,eH,hw,ih',G0,FA]
  have hx':ak (L178_0 (ai pg) ak) [.int .i64 ((d:Int)+1),ci e.args,.int .i64 e.args.length,.int .i64 0]=M.pure (.bool (e.args.all (c9 d))):=hloop e.args.length 0 rfl (ES _);have hc:=t226 e;have hl:=t227 e he;rw[C178,q4];unfold sM;generalize (eW e).1=c at hc |-;generalize (eW e).2=n at hc |-;have g1:(((d:Int)+1)== 0)=false:=by rw[Fh];omega
  have x0:bi (.tup [c.av,.int .i64 n]) 0=some c.av:=rfl;have x1:bi (.tup [c.av,.int .i64 n]) 1=some (.int .i64 n):=rfl;have e1:au T .neq 3 (.int .i64 c.n) (.int .i64 e.n)=some (.bool (!(c.n== e.n))):=rfl;have e2:au T .neq 9 (.str c.s) (.str e.s)=some (.bool (!(c.s== e.s))):=rfl;have e3:au T .neq 9 (.str c.m) (.str e.m)=some (.bool (!(c.m== e.m))):=rfl;have e4:au T .neq 3 (.int .i64 c.names.length) (.int .i64 e.names.length)=some (.bool (!((c.names.length:Int)== (e.names.length:Int)))):=rfl;have e5:au T .neq 3 (.int .i64 n) (.int .i64 e.args.length)=some (.bool (!(n== (e.args.length:Int)))):=rfl;have e6:au T .geq 3 (.int .i64 n) (.int .i64 0)=some (.bool (!(decide (n<0)))):=by
   have:au T .geq 3 (.int .i64 n) (.int .i64 0)=some (.bool (decide (0<=n))):=rfl;rw[this,<- decide_not];exact Er (fun b=>some (AV.bool b)) (FH.2 (by omega))
  have e7:au T .lss 3 (.int .i64 e.op) (.int .i64 0)=some (.bool (!(decide (0<=e.op)))):=by
   have:au T .lss 3 (.int .i64 e.op) (.int .i64 0)=some (.bool (decide (e.op<0))):=rfl;rw[this,<- decide_not];exact Er (fun b=>some (AV.bool b)) (FH.2 (by omega))
  have e8:au T .geq 3 (.int .i64 e.op) (.int .i64 19)=some (.bool (!(decide (e.op<19)))):=by
   have:au T .geq 3 (.int .i64 e.op) (.int .i64 19)=some (.bool (decide (19<=e.op))):=rfl;rw[this,<- decide_not];exact Er (fun b=>some (AV.bool b)) (FH.2 (by omega))
  generalize (c.n== e.n)=b1 at e1 |-;generalize (c.s== e.s)=b2 at e2 |-;generalize (c.m== e.m)=b3 at e3 |-;generalize ((c.names.length:Int)== (e.names.length:Int))=b4 at e4 |-;generalize (n== (e.args.length:Int))=b5 at e5 |-;generalize decide (n<0)=b6 at e6 |-;generalize decide (0<=e.op)=b7 at e7 |-;generalize decide (e.op<19)=b8 at e8 |-;generalize eO e=bl at hl |-;generalize e.args.all (c9 d)=bx at hx' |-;cases b7 with
  |false=>simp[S178,g1,e7,-bP]
  | true=>
   cases b8 with
   |false=>simp[S178,g1,e7,e8,-bP,-sZ]
   |true=>
    cases b6<;>cases b5<;>cases b1<;>cases b2<;>cases b3<;>cases b4<;>cases bl<;>simp[S178,g1,hc,x0,x1,rS,hl,hx',e1,e2,e3,e4,e5,e6,e7,e8,-bP,-sZ,-xM]
def t118(e:Exp)(he:e.Lim):ai pg 118 [e.av]=M.pure (.bool (tx e)):=by
 have hb':ai pg 178 [e.av,.int .i64 12]=M.pure (.bool (c9 12 e)):=t178 12 (by omega) e he;rw[C118];simp[S118,hb']
def setRow(ns:List bI):List AV:=ns.map fun s=>.tup [.str s,.bool true]
theorem Au(a b:bI):uK T 20 9 (.str a) (.str b)=some (a== b):=rfl
theorem jY(s:bI):(ns:List bI)->(i:Nat)->(ns.contains s=false/\fp T 9 (.str s) (setRow ns) i=some none)\/(ns.contains s=true/\∃(j:Nat)(k:AV),fp T 9 (.str s) (setRow ns) i=some (some (j,k,.bool true)))
 |[],i=>.inl ⟨rfl,rfl⟩
 | x:: ns,i=>by
  show (_/\fp T 9 (.str s) (.tup [.str x,.bool true]:: setRow ns) i=_)\/(_/\∃(j:Nat)(k:AV),fp T 9 (.str s) (.tup [.str x,.bool true]:: setRow ns) i=_);unfold fp;rw[Au,List.contains_cons];cases h:s== x with
  |true=>exact .inr ⟨rfl,i,.str x,rfl⟩
  |false=>
   rcases jY s ns (i+1)with⟨h1,h2⟩|⟨h1,j,k,h2⟩
   ·exact .inl ⟨by rw[h1];rfl,h2⟩
   ·exact .inr ⟨by rw[h1];rfl,j,k,h2⟩
theorem mq{h:Hp}{l:Nat}{ns:List bI}(hl:h[l]? = some [.tup (setRow ns)])(s:bI):fV T 130 (.mp l) (.str s) false h= .ok (.bool (ns.contains s)) h:=by
 have e:mm T 130 (setRow ns) (.str s) false=(match fp T 9 (.str s) (setRow ns) 0 with
   |some (some (_,_,v))=>some v
   |some none=>some (.bool false)
   |none=>none):=rfl
 unfold fV jb;simp only[hl];rw[e];rcases jY s ns 0 with⟨h1,h2⟩|⟨h1,j,k,h2⟩
 ·rw[h2,h1]
 ·rw[h2,h1]
theorem pq{h:Hp}{l:Nat}{ns:List bI}(hl:h[l]? = some [.tup (setRow ns)])(s:bI)(hs:ns.contains s=false):nf T 130 (.mp l) (.str s) (.bool true) h= .ok (.tup []) (h.set l [.tup (setRow (ns++[s]))]):=by
 have e:nf T 130 (.mp l) (.str s) (.bool true) h=(match h[l]? with
   |some [.tup es]=>(match uB T 9 es (.str s) (.bool true)with
    |some es'=>.ok (.tup []) (h.set l [.tup es'])
    |none=>.fail)
   |_=>.fail):=rfl
 rw[e,hl];simp only;unfold uB;rcases jY s ns 0 with⟨h1,h2⟩|⟨h1,j,k,h2⟩
 ·rw[h2];simp[setRow]
 ·rw[h1]at hs;cases hs
theorem yu(l:List dV)(hb:l.length<=140737488355328)(ht:∀f∈l,f.2.Lim)(most:Int)(q:Nat):∀(n i:Nat),l.length-i=n->i<=l.length->∀(seen:List bI)(h:Hp),h[q]? = some [.tup (setRow seen)]->
  ∃h',ak (L117_0 (ai pg) ak) [aQ l,.int .i64 most,.mp q,aQ l,.int .i64 l.length,.int .i64 i] h= .ok (.bool (pm seen (l.drop i)&&decide ((l.length:Int)<=most))) h':=by
 intro n
 induction n with
 |zero=>
  intro i hn hi seen h hq;rw[FL117_0];have h1:¬((i:Int)<(l.length:Int)):=by omega
  have h2:l.drop i=[]:=Fc (by omega);rw[h2];exact⟨h,by simp[L117_0,h1,pm,M.pure]⟩
 | succ n ih=>
  intro i hn hi seen h hq;have hlt:i<l.length:=by omega
  have h1:(i:Int)<(l.length:Int):=by omega
  have h2:l.drop i=l[i]:: l.drop (i+1):=EU hlt;have hw:IntKind.i64.wrap ((i:Int)+1)=((i+1:Nat):Int):=aX (by omega);have hix:=pM (l:=l) (n:=(i:Int)) (by omega) h1;rw[Ez,EI l i hlt]at hix;have hfl:=ht _ (EF hlt);have ih':=fun s=>ih (i+1) (by omega) (by omega) (seen++[s]) (h.set q [.tup (setRow (seen++[s]))]);have hql:q<h.length:=(E6.1 hq).1;rw[h2];generalize l[i]=f at hix hfl |-;have hlk:=mq hq f.1;have hnm:=t76 f.1;have hty:=t47 f.2 hfl;have hcf:aV 3 (bb f)=M.pure (bb f):=by rw[br (gZ f),cz,fu]
  generalize hcode:ak (L117_0 (ai pg) ak) [aQ l,.int .i64 most,.mp q,aQ l,.int .i64 l.length,.int .i64 i] h=code;rw[FL117_0]at hcode;simp -implicitDefEqProofs only[L117_0,aZ,bj,bP,aN,h1,Fu,a8,E4,hix,cz,LD76,EG,EH,ED,Nat.reduceAdd,En,EX,E5,fu,hcf,aT,FA76_0,FA76_1,EY,Fx,LD9]at hcode;rw[bQ hlk]at hcode;have eo:pm seen (f:: l.drop (i+1))=(!(seen.contains f.1)&&bz f.1&&bR f.2&&pm (seen++[f.1]) (l.drop (i+1))):=rfl;rw[eo];cases hc:seen.contains f.1 with
  |true=>
   rw[hc]at hcode;refine⟨h,?_⟩;rw[<- hcode];simp[M.pure]
  | false=>
   rw[hc]at hcode;cases hn2:bz f.1 with
   |false=>
    rw[hn2]at hnm;refine⟨h,?_⟩;rw[<- hcode];simp[hnm,M.pure]
   | true=>
    rw[hn2]at hnm;cases hr:bR f.2 with
    |false=>
     rw[hr]at hty;refine⟨h,?_⟩;rw[<- hcode];simp[hnm,hty,M.pure]
    |true=>
     rw[hr]at hty;obtain⟨h',e'⟩:=ih' f.1 (by rw[FZ hql]);refine⟨h',?_⟩;have hp:=pq hq f.1 hc;rw[<- hcode];simp -implicitDefEqProofs only[hnm,hty,aT,cT,ln,FT,G1,aZ,kT,a8,E0,Fv,LD27,EG,EH,ED,Nat.reduceAdd,En,E4,EX,E5,dv,aN];rw[bQ hp];simp only[eH,aN,hw,e',FA]
theorem t117(l:List dV)(hb:l.length<=140737488355328)(ht:∀f∈l,f.2.Lim)(most:Int):ai pg 117 [aQ l,.int .i64 most]=M.pure (.bool (dH l most)):=by
 obtain⟨h',e⟩:=yu l hb ht most 0 l.length 0 rfl (ES _) [] ([]++[[.tup []]]) rfl;rw[EY]at e;rw[C117];funext hp;have key:S117 (ai pg) ak (cl ax (aQ l)) (cl ax (.int .i64 most)) []= .ok (.bool (dH l most)) h':=by
  rw[lh,oS];have hn:fb []= .ok (.mp 0) ([]++[[.tup []]]):=rfl;simp -implicitDefEqProofs only[S117];rw[bQ hn];simp only[uP,aN];exact e
 show aE _ hp=R.ok (.bool (dH l most)) hp;unfold aE;rw[key];rfl
def t119(l:List Exp)(hb:l.length<=140737488355328)(ht:∀e∈l,e.Lim)(n:Int):ai pg 119 [ci l,.int .i64 n]=M.pure (.bool (l.all tx&&((l.length:Int)== n))):=by
 have hloop:∀(m i:Nat),l.length-i=m->i<=l.length->ak (L119_0 (ai pg) ak) [ci l,.int .i64 n,ci l,.int .i64 l.length,.int .i64 i]=M.pure (.bool ((l.drop i).all tx&&((l.length:Int)== n))):=by
  intro m
  induction m with
  |zero=>
   intro i hm hi;rw[FL119_0];have h1:¬((i:Int)<(l.length:Int)):=by omega
   have h2:l.drop i=[]:=Fc (by omega);simp[L119_0,h1,h2]
  |succ m ih=>
   intro i hm hi;have hlt:i<l.length:=by omega
   have h1:(i:Int)<(l.length:Int):=by omega
   have h2:l.drop i=l[i]:: l.drop (i+1):=EU hlt;have hw:IntKind.i64.wrap ((i:Int)+1)=((i+1:Nat):Int):=aX (by omega);have hix:=uN (l:=l) (n:=(i:Int)) (by omega) h1;rw[Ez,EI l i hlt]at hix;have hr:=t118 l[i] (ht _ (EF hlt));have ih':=ih (i+1) (by omega) (by omega);rw[h2,FE,FL119_0];generalize l[i]=e at hix hr |-;cases hb2:tx e<;>rw[hb2]at hr <;>
   simp only[L119_0,aZ,bj,bP,aN,h1,Fu,a8,E4,hix,cy,LD47,EG,EH,ED,Nat.reduceAdd,En,EX,E5,dG,rS,aT,hr,ln,FT,G1,E0,Fv,eH,hw,ih',FA,G0]
 have h:=hloop l.length 0 rfl (ES _);rw[EY]at h;have h':ak (L119_0 (ai pg) ak) [ci l,.int .i64 n,ci l,.int .i64 l.length,.int .i64 0]=M.pure (.bool (l.all tx&&((l.length:Int)== n))):=h;rw[C119];simp[S119,h']
def yf(f:Fun):aV 12 f.av=M.pure f.av:=by rw[br (eR f),dJ,eM]
theorem yy(m:Ap.Mod)(hm:m.Lim)(q:Nat)(R:Bool)(hend:∀h:Hp,∃h',ak (L48_0 (ai pg) ak) [.ip (ab m.av),.mp q,bK m.funcs,.int .i64 m.funcs.length,.int .i64 m.funcs.length] h= .ok (.bool R) h'):∀(n i:Nat),m.funcs.length-i=n->i<=m.funcs.length->∀(seen:List bI)(h:Hp),h[q]? = some [.tup (setRow seen)]->
  ∃h',ak (L48_0 (ai pg) ak) [.ip (ab m.av),.mp q,bK m.funcs,.int .i64 m.funcs.length,.int .i64 i] h= .ok (.bool (iB seen (m.funcs.drop i)&&R)) h':=by
 have hb:=hm.funcs;intro n
 induction n with
 |zero=>
  intro i hn hi seen h hq;have h2:m.funcs.drop i=[]:=Fc (by omega);obtain rfl:i=m.funcs.length:=by omega
  rw[h2];exact hend h
 | succ n ih=>
  intro i hn hi seen h hq;have hlt:i<m.funcs.length:=by omega
  have h1:(i:Int)<(m.funcs.length:Int):=by omega
  have h2:m.funcs.drop i=m.funcs[i]:: m.funcs.drop (i+1):=EU hlt;have hw:IntKind.i64.wrap ((i:Int)+1)=((i+1:Nat):Int):=aX (by omega);have hix:=uO (l:=m.funcs) (n:=(i:Int)) (by omega) h1;rw[Ez,EI m.funcs i hlt]at hix;have hfl:=hm.fns _ (EF hlt);have ih':=fun s=>ih (i+1) (by omega) (by omega) (seen++[s]) (h.set q [.tup (setRow (seen++[s]))]);have hql:q<h.length:=(E6.1 hq).1;rw[h2];generalize m.funcs[i]=f at hix hfl |-;have hlk:=mq hq f.name;have hnm:=t76 f.name;have hps:=t117 f.params hfl.params hfl.pty 6;have hty:=t47 f.result hfl.result;have hre:=t118 f.body hfl.body;have hex:au T .andNot 3 (.int .i64 f.effects) (.int .i64 15)=some (.int .i64 (dt f.effects 15)):=rfl;generalize hcode:ak (L48_0 (ai pg) ak) [.ip (ab m.av),.mp q,bK m.funcs,.int .i64 m.funcs.length,.int .i64 i] h=code;rw[FL48_0]at hcode;simp -implicitDefEqProofs only[L48_0,aZ,bj,bP,aN,h1,Fu,a8,E4,hix,dJ,LD73,EG,EH,ED,Nat.reduceAdd,En,EX,E5,eM,yf,aT,FA73_0,EY,LD9]at hcode;rw[bQ hlk]at hcode;have eo:iB seen (f:: m.funcs.drop (i+1))=(!(seen.contains f.name)&&jh f&&iB (seen++[f.name]) (m.funcs.drop (i+1))):=rfl;rw[eo];unfold jh;cases hc:seen.contains f.name with
  |true=>
   rw[hc]at hcode;refine⟨h,?_⟩;rw[<- hcode];simp[M.pure]
  | false=>
   rw[hc]at hcode;cases hn2:bz f.name with
   |false=>rw[hn2]at hnm;refine⟨h,?_⟩;rw[<- hcode];simp[hnm,M.pure]
   | true=>
    rw[hn2]at hnm;cases hp2:dH f.params 6 with
    |false=>rw[hp2]at hps;refine⟨h,?_⟩;rw[<- hcode];simp[hnm,hps,M.pure]
    | true=>
     rw[hp2]at hps;cases hr:bR f.result with
     |false=>rw[hr]at hty;refine⟨h,?_⟩;rw[<- hcode];simp[hnm,hps,hty,M.pure]
     | true=>
      rw[hr]at hty;cases hrb:tx f.body with
      |false=>rw[hrb]at hre;refine⟨h,?_⟩;rw[<- hcode];simp[hnm,hps,hty,hre,M.pure]
      | true=>
       rw[hrb]at hre;by_cases he:dt f.effects 15=0
       ·obtain⟨h',e'⟩:=ih' f.name (by rw[FZ hql]);refine⟨h',?_⟩;have hp:=pq hq f.name hc;rw[<- hcode];have e'':=e';simp only[cd]at e'';simp[hnm,hps,hty,hre,hex,he];rw[bQ hp];simpa [hw]using e''
       ·refine⟨h,?_⟩;rw[<- hcode];have he':(dt f.effects 15== 0)=false:=Fh.2 he;simp[hnm,hps,hty,hre,hex,he,he',M.pure]
def Cf(m:Ap.Mod)(hm:m.Lim)(q:Nat)(h:Hp):∃h',ak (L48_0 (ai pg) ak) [.ip (ab m.av),.mp q,bK m.funcs,.int .i64 m.funcs.length,.int .i64 m.funcs.length] h= .ok (.bool (kU m)) h':=by
 have hnm:=t76 m.name;have hv:=t117 m.vars hm.vars hm.vty 8;have hi:=t119 m.init hm.init hm.ies m.vars.length;have ho:=t117 m.old hm.old hm.oty 8;have hf:=fun n=>t119 m.forward hm.forward hm.fes n;have hb:=t119 m.back hm.back hm.bes m.old.length;refine⟨h,?_⟩;rw[FL48_0];unfold kU;generalize dH m.vars 8=b1 at hv |-;generalize (m.init.all tx&&((m.init.length:Int)== (m.vars.length:Int)))=b2 at hi |-;generalize dH m.old 8=b3 at ho |-;generalize (m.back.all tx&&((m.back.length:Int)== (m.old.length:Int)))=b4 at hb |-;cases hn:bz m.name with
 |false=>rw[hn]at hnm;simp[L48_0,hnm,M.pure]
 | true =>
  rw[hn]at hnm;by_cases hu:m.uses.length<=12
  ·have hu':¬(12<(m.uses.length:Int)):=by omega
   by_cases hfn:m.funcs.length<=30
   ·have hfn':¬(30<(m.funcs.length:Int)):=by omega
    cases b1 with
    |false=>simp[L48_0,hnm,hu,hu',hfn,hfn',hv,M.pure]
    | true=>
     cases b2 with
     |false=>simp[L48_0,hnm,hu,hu',hfn,hfn',hv,hi,M.pure]
     | true=>
      cases hmv:m.moves with
      |true=>
       have hfv:=hf m.vars.length;rw[Es rfl];generalize (m.forward.all tx&&((m.forward.length:Int)== (m.vars.length:Int)))=b5 at hfv |-;cases b3<;>cases b5<;>cases b4<;>simp[L48_0,K48_0,hnm,hu,hu',hfn,hfn',hv,hi,ho,hfv,hb,hmv,M.pure]
      | false=>
       have hfv:=hf 0;rw[if_neg (by decide)];generalize (m.forward.all tx&&((m.forward.length:Int)== 0))=b5 at hfv |-;by_cases hz:0<m.old.length
       ·have hz':0<(m.old.length:Int):=by omega
        have hz2:¬m.old.length=0:=by omega
        simp[L48_0,K48_0,hnm,hu,hu',hfn,hfn',hv,hi,hmv,hz,hz',hz2,M.pure]
       ·have hz':¬0<(m.old.length:Int):=by omega
        have hz2:m.old.length=0:=by omega
        have hb0:ai pg 119 [ci m.back,.int .i64 0]=M.pure (.bool b4):=by
         rw[hz2]at hb;exact hb
        cases b3<;>cases b5<;>cases b4<;>simp[L48_0,K48_0,hnm,hu,hu',hfn,hfn',hv,hi,ho,hfv,hb0,hmv,hz,hz',hz2,M.pure]
   ·have hfn':30<(m.funcs.length:Int):=by omega
    simp[L48_0,hnm,hu,hu',hfn,hfn',M.pure]
  ·have hu':12<(m.uses.length:Int):=by omega
   simp[L48_0,hnm,hu,hu',M.pure]
theorem yz(m:Ap.Mod)(hm:m.Lim)(q:Nat)(R:Bool)(hend:∀h:Hp,∃h',ak (L48_1 (ai pg) ak) [.ip (ab m.av),.mp q,strs m.uses,.int .i64 m.uses.length,.int .i64 m.uses.length] h= .ok (.bool R) h'):∀(n i:Nat),m.uses.length-i=n->i<=m.uses.length->∀(seen:List bI)(h:Hp),h[q]? = some [.tup (setRow seen)]->
  ∃h',ak (L48_1 (ai pg) ak) [.ip (ab m.av),.mp q,strs m.uses,.int .i64 m.uses.length,.int .i64 i] h= .ok (.bool (uz seen (m.uses.drop i)&&R)) h':=by
 have hb:=hm.uses;intro n
 induction n with
 |zero=>
  intro i hn hi seen h hq;have h2:m.uses.drop i=[]:=Fc (by omega);obtain rfl:i=m.uses.length:=by omega
  rw[h2];exact hend h
 | succ n ih=>
  intro i hn hi seen h hq;have hlt:i<m.uses.length:=by omega
  have h1:(i:Int)<(m.uses.length:Int):=by omega
  have h2:m.uses.drop i=m.uses[i]:: m.uses.drop (i+1):=EU hlt;have hw:IntKind.i64.wrap ((i:Int)+1)=((i+1:Nat):Int):=aX (by omega);have hix:=uM (l:=m.uses) (n:=(i:Int)) (by omega) h1;rw[Ez,EI m.uses i hlt]at hix;have ih':=fun s=>ih (i+1) (by omega) (by omega) (seen++[s]) (h.set q [.tup (setRow (seen++[s]))]);have hql:q<h.length:=(E6.1 hq).1;rw[h2];generalize m.uses[i]=s at hix |-;have hlk:=mq hq s;have hnm:=t76 s;generalize hcode:ak (L48_1 (ai pg) ak) [.ip (ab m.av),.mp q,strs m.uses,.int .i64 m.uses.length,.int .i64 i] h=code;rw[FL48_1]at hcode;simp -implicitDefEqProofs only[L48_1,aZ,bj,bP,aN,h1,Fu,a8,E4,hix,iF,LD9]at hcode;rw[bQ hlk]at hcode;have eo:uz seen (s:: m.uses.drop (i+1))=(!(seen.contains s)&&bz s&&uz (seen++[s]) (m.uses.drop (i+1))):=rfl;rw[eo];cases hc:seen.contains s with
  |true=>
   rw[hc]at hcode;refine⟨h,?_⟩;rw[<- hcode];simp[M.pure]
  | false=>
   rw[hc]at hcode;cases hn2:bz s with
   |false=>rw[hn2]at hnm;refine⟨h,?_⟩;rw[<- hcode];simp[hnm,M.pure]
   |true=>
    rw[hn2]at hnm;obtain⟨h',e'⟩:=ih' s (by rw[FZ hql]);refine⟨h',?_⟩;have hp:=pq hq s hc;rw[<- hcode];have e'':=e';simp only[cd]at e'';simp[hnm];rw[bQ hp];simpa [hw]using e''
theorem t48(m:Ap.Mod)(hm:m.Lim):ai pg 48 [m.av]=M.pure (.bool (bL m)):=by
 have hend:∀h:Hp,∃h',ak (L48_1 (ai pg) ak) [.ip (ab m.av),.mp 0,strs m.uses,.int .i64 m.uses.length,.int .i64 m.uses.length] h= .ok (.bool (iB [] m.funcs&&kU m)) h':=fun h=>by
  have h1:¬((m.uses.length:Int)<(m.uses.length:Int)):=by omega
  obtain⟨h',e⟩:=yy m hm h.length (kU m) (fun h=>Cf m hm _ h) m.funcs.length 0 rfl (ES _) [] (h++[[.tup []]]) (by simp[setRow]);rw[EY]at e;refine⟨h',?_⟩;rw[FL48_1];have hn:fb h= .ok (.mp h.length) (h++[[.tup []]]):=rfl;simp only[cd]at e;simp -implicitDefEqProofs only[L48_1,aZ,bj,bP,aN,h1,Gy,a8,E0,Fv];rw[bQ hn];simp only[cd,FA41_4,Fx,EY,aN,LD37,zy];exact e
 obtain⟨h',e⟩:=yz m hm 0 _ hend m.uses.length 0 rfl (ES _) [] ([]++[[.tup []]]) rfl;rw[EY]at e;rw[C48];funext hp;have key:S48 (ai pg) ak (cl ax m.av) []= .ok (.bool (bL m)) h':=by
  have hn:fb []= .ok (.mp 0) ([]++[[.tup []]]):=rfl;simp only[cd]at e;rw[jU];simp -implicitDefEqProofs only[S48];rw[bQ hn];simp only[cd,FA41_1,Fx,EY,aN,LD35,zw];exact e
 show aE _ hp=R.ok (.bool (bL m)) hp;unfold aE;rw[key];rfl
def CH(x:Sig):(ab x.av).length=5:=by simp
def tG(h:Hp)(v:AV)(l:List Sig):Prop:=(l=[]/\v= .hn)\/(l≠[]/\∃q,v= .hs q 0 l.length 5 true/\h[q]? = some (rowOf Sig.av l))
theorem sA:(l:List Sig)->(rowOf Sig.av l).all aL=true
 |[]=>rfl
 |f:: l=>by
  rw[gw,List.all_append,sA l,GK,dK];rfl
def uR{h:Hp}{v:AV}{l:List Sig}(A:tG h v l)(hl:l.length<=1000000)(s:Sig):∃v' h',appH T 22 false v (sigs [s]) h= .ok v' h'/\tG h' v' (l++[s])/\bm v'=M.pure v':=by
 rcases A with⟨rfl,rfl⟩|⟨hne,q,rfl,hq⟩
 ·have e2:=BZ (T:=T) (t:=22) (e:=56) rfl rfl rfl (x:=s.av) (g7 s) (by decide) (by decide) (by decide) h;refine⟨_,_,e2,.inr ⟨by simp,h.length,rfl,?_⟩,rfl⟩;simp[rowOf]
 ·have hln:=dA (f:=Sig.av) CH l;have e2:=B1 (T:=T) (t:=22) (e:=56) rfl rfl rfl (x:=s.av) (g7 s) (by decide) (by decide) hq (sA l) hln (FV.2 hne) (show (l.length+1)*80<=140737488355328 by omega);refine⟨_,_,e2,.inr ⟨by simp,h.length,by rw[EV];rfl,?_⟩,rfl⟩;simp[rowOf]
theorem yF(V:List AV->M AV)(m:Ap.Mod)(f:Fun)(hf:FunOk f)(i:Nat)(hv x3 x4:AV)(h:Hp):∀(k j:Nat)(acc:List Ty),f.params.length-j=k->j<=f.params.length->acc.length<=j->
  ak (L42_0 (ai pg) ak V) [bK m.funcs,.int .i64 m.funcs.length,.int .i64 i,aQ f.params,.int .i64 f.params.length,.int .i64 j,x3,x4,.str m.name,hv,.str f.name,jN acc,.int .i64 f.result.kind,aQ f.result.fields,.int .i64 f.effects] h=af (appH T 22 false hv (sigs [⟨f.name,acc++(f.params.drop j).map (·.2),f.result,f.effects⟩])) (fun v=>af (bm v) fun _=>V [bK m.funcs,.int .i64 m.funcs.length,.int .i64 (IntKind.i64.wrap ((i:Int)+1)),x3,x4,.str m.name,v]) h:=by
 have hpl:=hf.plen;intro k
 induction k with
 |zero=>
  intro j acc hk hj ha;have h1:¬((j:Int)<(f.params.length:Int)):=by omega
  have h2:f.params.drop j=[]:=Fc (by omega);have b1:bq T 22 1 [(0,.agg [.str f.name,jN acc,.int .i64 f.result.kind,aQ f.result.fields,.int .i64 f.effects])]=some (sigs [⟨f.name,acc,f.result,f.effects⟩]):=rfl;rw[FL42_0,h2];simp only[L42_0,aZ,bj,bP,aN,h1,Gy,a8,E0,Fv,b1,eH,List.map_nil,GW]
 |succ k ih=>
  intro j acc hk hj ha;have hlt:j<f.params.length:=by omega
  have h1:(j:Int)<(f.params.length:Int):=by omega
  have h2:f.params.drop j=f.params[j]:: f.params.drop (j+1):=EU hlt;have hw:IntKind.i64.wrap ((j:Int)+1)=(j:Int)+1:=aX (by omega);have hix:=pM (l:=f.params) (n:=(j:Int)) (by omega) h1;rw[Ez,EI f.params j hlt]at hix;have hcl:=t104 f.params[j].2 (hf.pars _ (EF hlt));have ih':=ih (j+1) (acc++[f.params[j].2]) (by omega) (by omega) (by simp;omega);have hap:=Dg (a:=acc) (b:=[f.params[j].2]) (by simp;omega);rw[h2,EN];generalize f.params[j]=z at hix hcl hap ih' |-;have hsl:bq T 54 1 [(0,z.2.av)]=some (jN [z.2]):=by cases z.2;rfl
  have hc1:∀l:List Ty,bm (jN l)=M.pure (jN l):=fun l=>rfl;rw[show acc++z.2:: (f.params.drop (j+1)).map (·.2)=acc++[z.2]++(f.params.drop (j+1)).map (·.2) by simp,<- ih'];generalize hcode:ak (L42_0 (ai pg) ak V) [bK m.funcs,.int .i64 m.funcs.length,.int .i64 i,aQ f.params,.int .i64 f.params.length,.int .i64 j,x3,x4,.str m.name,hv,.str f.name,jN acc,.int .i64 f.result.kind,aQ f.result.fields,.int .i64 f.effects] h=code;rw[FL42_0]at hcode;simp -implicitDefEqProofs only[L42_0,aZ,bj,bP,aN,h1,Fu,a8,E4,hix,cz,LD76,EG,EH,ED,Nat.reduceAdd,En,EX,E5,fu,lD,aT,FA76_1,Fx,EY,LD27,dv,hcl,fy,hsl,hap,hc1,eH,hw]at hcode;rw[<- hcode];rfl
theorem yG(m:Ap.Mod)(MK:ModOk m):∀(k i:Nat)(hv x3 x4:AV)(h:Hp),m.funcs.length-i=k->i<=m.funcs.length->tG h hv (cL (m.funcs.take i))->
  ∃hv' h',tG h' hv' (cL m.funcs)/\ak (L42_1 (ai pg) ak) [bK m.funcs,.int .i64 m.funcs.length,.int .i64 i,x3,x4,.str m.name,hv] h=af (ai pg 107 [hv',.fn (.func 108) [] []]) (fun _=>af (az 2 [] (.agg [.str m.name,hv'])) fun v=>M.pure (.agg [nth (ab v) 0,nth (ab v) 1])) h':=by
 have hfl:=MK.flen;intro k
 induction k with
 |zero=>
  intro i hv x3 x4 h hk hi A;have h1:¬((i:Int)<(m.funcs.length:Int)):=by omega
  have h2:m.funcs.take i=m.funcs:=FL (by omega);rw[h2]at A;refine⟨hv,h,A,?_⟩;rw[FL42_1];simp only[L42_1,aZ,bj,bP,aN,h1,Gy,a8,E0,Fv]
 | succ k ih=>
  intro i hv x3 x4 h hk hi A;have hlt:i<m.funcs.length:=by omega
  have h1:(i:Int)<(m.funcs.length:Int):=by omega
  have hw:IntKind.i64.wrap ((i:Int)+1)=((i+1:Nat):Int):=aX (by omega);have hix:=uO (l:=m.funcs) (n:=(i:Int)) (by omega) h1;rw[Ez,EI m.funcs i hlt]at hix;have hf:=MK.fns _ (EF hlt);have ht:m.funcs.take (i+1)=m.funcs.take i++[m.funcs[i]]:=List.take_succ_eq_append_getElem hlt;have ih0:=ih (i+1);rw[ht]at ih0;have cf:∀f:Fun,aV 12 f.av=M.pure f.av:=fun f=>by rw[br (eR f),dJ,eM]
  rw[FL42_1];generalize m.funcs[i]=f at hix hf ih0 |-;cases hp:f.pub with
  |false=>
   have e:cL (m.funcs.take i++[f])=cL (m.funcs.take i):=by simp[cL,hp]
   rw[e]at ih0;obtain⟨hv',h',A',e'⟩:=ih0 hv x3 x4 h (by omega) (by omega) A;refine⟨hv',h',A',?_⟩;rw[<- e'];simp[L42_1,h1,hix,cf,hw];simp[hp]
  | true=>
   have e:cL (m.funcs.take i++[f])=cL (m.funcs.take i)++[ee f]:=by simp[cL,hp]
   rw[e]at ih0;have hlen:(cL (m.funcs.take i)).length<=1000000:=by
    have:(cL (m.funcs.take i)).length<=(m.funcs.take i).length:=by
     unfold cL;rw[ET];exact Gp _ _
    rw[Fp]at this;omega
   obtain⟨v1,h1',e1,A1,c1⟩:=uR A hlen (ee f);obtain⟨hv',h',A',e'⟩:=ih0 v1 x3 x4 h1' (by omega) (by omega) A1;refine⟨hv',h',A',?_⟩;rw[<- e'];have hin:=yF (ak (L42_1 (ai pg) ak)) m f hf i hv x3 x4 h f.params.length 0 [] rfl (ES _) (ES _);rw[hw]at hin;have hin2:ak (L42_0 (ai pg) ak (ak (L42_1 (ai pg) ak))) [bK m.funcs,.int .i64 m.funcs.length,.int .i64 i,aQ f.params,.int .i64 f.params.length,.int .i64 0,x3,x4,.str m.name,hv,.str f.name,.sl [],.int .i64 f.result.kind,aQ f.result.fields,.int .i64 f.effects] h=ak (L42_1 (ai pg) ak) [bK m.funcs,.int .i64 m.funcs.length,.int .i64 ((i+1:Nat):Int),x3,x4,.str m.name,v1] h1':=by
    refine hin.trans ?_;show af (appH T 22 false hv (sigs [ee f])) _ h=_;rw[bQ e1,c1,aT]
   have hcl:=t104 f.result hf.res;have bs1:∀(k:Int)(x:List dV)(e:Int),cI T true 56 [(0,.str f.name),(2,(Ty.mk k x).av),(3,.int .i64 e)]=some (.agg [.str f.name,.hn,.int .i64 k,aQ x,.int .i64 e]):=fun k x e=>rfl;have bs2:cI T true 56 [(0,.str f.name),(2,f.result.av),(3,.int .i64 f.effects)]=some (.agg [.str f.name,.hn,.int .i64 f.result.kind,aQ f.result.fields,.int .i64 f.effects]):=by
    have:=bs1 f.result.kind f.result.fields f.effects
    rwa [Ty.eta]at this
   have bs3:az 5 [1] (.agg [.str f.name,.hn,.int .i64 f.result.kind,aQ f.result.fields,.int .i64 f.effects])=M.pure (.agg [.str f.name,.hn,.int .i64 f.result.kind,aQ f.result.fields,.int .i64 f.effects]):=rfl;rw[<- hin2];simp[L42_1,h1,hix,cf,hcl,bs2,bs3];simp[hp]
def nF(l:List Sig)(i:Nat)(hi:i<l.length):cO 5 (rowOf Sig.av l) i=ab l[i].av:=dn CH l i hi
def sL(l:List Sig):rowOf Sig.av l=(l.map fun s=>ab s.av).flatten:=by
 unfold rowOf;rw[List.flatMap_def,FP];rfl
def iu(l:List Sig):(cW l).length=l.length:=(dp l).length_eq
theorem tH{h:Hp}{hv:AV}{l:List Sig}(A:tG h hv l)(hl:l.length<=1000):∃h',ai pg 107 [hv,.fn (.func 108) [] []] h= .ok (.tup []) h'/\tG h' hv (cW l):=by
 have e0:ai pg 107 [hv,.fn (.func 108) [] []]=eq 5 108 (ai pg) [hv,.fn (.func 108) [] []]:=dS hOther rfl _;rw[e0];rcases A with⟨rfl,rfl⟩|⟨hne,q,rfl,hq⟩
 ·exact⟨h,rfl,.inl ⟨EK (iu []),rfl⟩⟩
 ·have hln:=dA (f:=Sig.av) CH l;have hpos:0<l.length:=FV.2 hne;have hrow:((rowOf Sig.av l).drop 0).take (l.length*5)=rowOf Sig.av l:=by rw[EY,<- hln];exact He
  have hkeys:keysOf 5 l.length (rowOf Sig.av l)=some (l.map (·.name)):=by
   unfold keysOf;have e:(List.range l.length).map (fun i=>cO 5 (rowOf Sig.av l) i)=l.map fun s=>ab s.av:=by
    apply GM
    ·simp
    ·intro i h1 h2;simp only[GN,G5];exact nF l i (by simpa using h2)
   rw[e]
   have:=qI (nm:=fun c=>match c with|.str s:: _=>s|_=>[]) (cs:=l.map fun s=>ab s.av) (fun c hc=>by
    obtain⟨s,_,rfl⟩:=Fg.1 hc;rfl)
   rw[this,FP];rfl
  have hpl:(dU (l.map (·.name))).length=l.length:=by
   have:=(mE (l.map (·.name))).1.length_eq
   simpa using this
  have hflat:((dU (l.map (·.name))).map fun i=>cO 5 (rowOf Sig.av l) (i % l.length)).flatten=rowOf Sig.av (cW l):=by
   rw[sL (cW l)];unfold cW;rw[FP];congr 1;apply FW;intro i _;have hm:=Hu i hpos;simp only[Function.comp];rw[nF l _ hm,EI l _ hm]
  have hlen2:(rowOf Sig.av (cW l)).length=(rowOf Sig.av l).length:=by rw[dA (f:=Sig.av) CH,iu,hln]
  have hset:setCells (rowOf Sig.av l) 0 (rowOf Sig.av (cW l))=rowOf Sig.av (cW l):=by
   unfold setCells;rw[E5,Fi,ED,hlen2,List.drop_length,GW]
  have hok:=sA l;refine⟨h.set q (rowOf Sig.av (cW l)),?_,.inr ⟨fun e=>hne (by have:=iu l;rw[e]at this;exact EK this.symm),q,by rw[iu],FZ (E6.1 hq).1⟩⟩;unfold eq;simp only[hq,hrow,hkeys,hflat,hset];have hb:Nat.beq 108 108=true:=rfl;have hb5:Nat.beq 5 5=true:=rfl;have hall:((rowOf Sig.av l).all aL)=true:=hok;have hcond:(Nat.beq 108 108&&Nat.beq 5 5&&decide (0<l.length)&&decide (0<5)&&decide (0+l.length*5<=(rowOf Sig.av l).length)&&decide ((l.map (·.name)).length=l.length)&&decide (l.length<4611686018427387904)&&decide ((dU (l.map (·.name))).length=l.length)&&(rowOf Sig.av l).all aL)=true:=by
   have g1:decide (0<l.length)=true:=FF hpos;have g2:decide (0+l.length*5<=(rowOf Sig.av l).length)=true:=FF (by omega);have g3:decide ((l.map (·.name)).length=l.length)=true:=FF (ET ..);have g4:decide (l.length<4611686018427387904)=true:=FF (by omega);have g5:decide ((dU (l.map (·.name))).length=l.length)=true:=FF hpl;rw[g1,g2,g3,g4,g5,hall,hb,hb5];rfl
  rw[hcond];rfl
theorem DT(m:Ap.Mod)(hm:m.Lim):ai pg 42 [m.av]=M.pure (ij m).av:=by
 have hR:=t48 m hm;have lm:aj T 41 (.ip (ab m.av))=some m.av:=rfl;simp only[cd]at lm;rw[C42,jU];unfold ij;by_cases hr:bL m=true
 ·rw[hr]at hR;rw[Es hr];have MK:=gk hr;obtain⟨hv,h',A,e'⟩:=yG m MK m.funcs.length 0 .hn (.str []) (.sl []) [] rfl (ES _) (.inl ⟨rfl,rfl⟩);have hpl:(cL m.funcs).length<=1000:=by
   have:(cL m.funcs).length<=m.funcs.length:=by
    unfold cL;rw[ET];exact Gp _ _
   have:=MK.flen
   omega
  obtain⟨h2,e2,A2⟩:=tH A hpl;have b1:cI T true 24 [(0,.str m.name)]=some (.agg [.str m.name,.hn]):=rfl;have b2:az 2 [1] (.agg [.str m.name,.hn])=M.pure (.agg [.str m.name,.hn]):=rfl;have b2':az 2 [] (.agg [.str m.name,.hn])=M.pure (.agg [.str m.name,.hn]):=rfl;have hcn:az 2 [] (.agg [.str m.name,hv])=M.pure (.agg [.str m.name,hv]):=by
   rcases A2 with⟨_,rfl⟩|⟨_,q,rfl,_⟩
   ·rfl
   ·exact aP rfl
  have hfz:gH 6 h2 (.agg [.str m.name,hv])=(Face.mk m.name (cW (cL m.funcs))).av:=by
   rcases A2 with⟨e,rfl⟩|⟨_,q,rfl,hq⟩
   ·rw[e];rfl
   ·have hfr:=j9 (f:=Sig.av) CH (fun x=>by rw[dK,eN]) (fun x g=>rQ g x) (by decide) hq 5;have e:(Face.mk m.name (cW (cL m.funcs))).av= .agg [.str m.name,.sl ((cW (cL m.funcs)).map Sig.av)]:=rfl;rw[e,<- hfr];rfl
  refine qH (v:=.agg [.str m.name,hv]) (h':=h2) ?_ hfz;have e'':ak (L42_1 (ai pg) ak) [bK m.funcs,.int .i64 m.funcs.length,.int .i64 0,.str [],.sl [],.str m.name,.hn] []= .ok (.agg [.str m.name,hv]) h2:=by
   refine e'.trans ?_;rw[bQ e2,hcn];rfl
  simp[S42,lm,hR,b1,b2,b2',e'']
 ·rw[if_neg hr];rw[Gv]at hr;rw[hr]at hR;have b1:cI T false 24 []=some lP.av:=rfl;have b2:az 2 [] lP.av=M.pure lP.av:=rfl;have hfz:gH 6 [] lP.av=lP.av:=rfl;refine qH (v:=lP.av) (h':=[]) ?_ hfz;simp[S42,lm,hR,b1,b2];rfl
def ec:Exp:=.mk 0 0 [] [] [] []
def sH:c9 12 ec=true:=by decide +kernel
def DI(l:List Fun){n:Nat}(h1:n<=l.length):dN T 37 (bK l) none (some (.int .i64 (n:Int))) none=some (bK (l.take n)):=by
 have:=uE (T:=T) (t:=37) (e:=73) rfl rfl rfl (l.map Fun.av) (n:=(n:Int)) (by omega) (by simp;omega)
 rw[Ez,<- List.map_take]at this;exact this
def DL(l:List Fun){n:Nat}(h1:n<=l.length):dN T 37 (bK l) (some (.int .i64 (n:Int))) none none=some (bK (l.drop n)):=by
 have:=uF (T:=T) (t:=37) (e:=73) rfl rfl rfl (l.map Fun.av) (ck eR l) (n:=(n:Int)) (by omega) (by simp;omega)
 rw[Ez,<- List.map_drop]at this;exact this
theorem rJ(f:Fun):bq T 37 1 [(0,.agg [.str f.name,.bool f.pub,aQ f.params,.int .i64 f.result.kind,aQ f.result.fields,.int .i64 f.effects,.int .i64 0,.int .i64 0,.str [],.str [],.sl [],.sl []])]=some (bK [cg ec f]):=by
 have e:(AV.agg [.str f.name,.bool f.pub,aQ f.params,.int .i64 f.result.kind,aQ f.result.fields,.int .i64 f.effects,.int .i64 0,.int .i64 0,.str [],.str [],.sl [],.sl []])=(cg ec f).av:=by
  rw[<- eM];rfl
 rw[e];have h:bq T 37 1 [(0,(cg ec f).av)]=(gg 12 [AV.agg [.str [],.bool false,.sl [],.int .i64 0,.sl [],.int .i64 0,.int .i64 0,.int .i64 0,.str [],.str [],.sl [],.sl []]] [(0,(cg ec f).av)]).map .sl:=rfl;rw[h];simp[gg,bK]
theorem AF(m:Ap.Mod)(hm:m.funcs.length<=1000)(x0 x2 x4 x5 x6 x7 x8 x9 x10 x11 x12 x13 x14 x15 x16 x18 x19 x20 x21:AV):∀(n i:Nat),m.funcs.length-i=n->i<=m.funcs.length->
  ak (L12_0 (ai pg) ak) [x0,.ip (ab m.av),x2,.int .i64 i,x4,x5,x6,x7,x8,x9,x10,x11,x12,x13,x14,x15,x16,bK ((m.funcs.map (cg ec)).reverse.take i),x18,x19,x20,x21]=
  ak (L12_0 (ai pg) ak) [x0,.ip (ab m.av),x2,.int .i64 m.funcs.length,x4,x5,x6,x7,x8,x9,x10,x11,x12,x13,x14,x15,x16,bK (m.funcs.map (cg ec)).reverse,x18,x19,x20,x21]:=by
 intro n
 induction n with
 |zero=>
  intro i hn hi;obtain rfl:i=m.funcs.length:=by omega
  rw[FL (by simp)]
 | succ n ih=>
  intro i hn hi;have hlt:i<m.funcs.length:=by omega
  rw[<- ih (i+1) (by omega) (by omega)];have h1:(i:Int)<(m.funcs.length:Int):=by omega
  have hk:m.funcs.length-1-i<m.funcs.length:=by omega
  have w1:IntKind.i64.wrap ((m.funcs.length:Int)-1)=((m.funcs.length-1:Nat):Int):=by rw[dB (by omega) (by omega)];omega
  have w2:IntKind.i64.wrap (((m.funcs.length-1:Nat):Int)-(i:Int))=((m.funcs.length-1-i:Nat):Int):=by rw[dB (by omega) (by omega)];omega
  have w3:IntKind.i64.wrap ((i:Int)+1)=((i+1:Nat):Int):=aX (by omega);have hix:=uO (l:=m.funcs) (n:=((m.funcs.length-1-i:Nat):Int)) (by omega) (by omega);rw[Ez,EI m.funcs _ hk]at hix;have ht:(m.funcs.map (cg ec)).reverse.take (i+1)=(m.funcs.map (cg ec)).reverse.take i++[cg ec m.funcs[m.funcs.length-1-i]]:=by
   rw[List.take_add_one,Ex (by simp;omega)];simp
  have hA:eh T 37 (bK ((m.funcs.map (cg ec)).reverse.take i)) (bK [cg ec m.funcs[m.funcs.length-1-i]])=some (bK ((m.funcs.map (cg ec)).reverse.take (i+1))):=by
   rw[ht];exact zq (by simp;omega)
  have hb:=rJ m.funcs[m.funcs.length-1-i];generalize m.funcs[m.funcs.length-1-i]=f at hix hA hb;generalize (m.funcs.map (cg ec)).reverse.take (i+1)=l1 at *;generalize (m.funcs.map (cg ec)).reverse.take i=l0 at *;have hcf:az 12 [] f.av=M.pure f.av:=by rw[aP (eR f),dJ,eM]
  have e0:cI T false 47 []=some ec.av:=rfl;have hce:az 6 [] ec.av=M.pure ec.av:=by rw[aP (fX _),cy,dG]
  have ae:ab ec.av=[.int .i64 0,.int .i64 0,.str [],.str [],.sl [],.sl []]:=rfl;rw[FL12_0];simp only[L12_0];have hc1:∀l:List Fun,bm (bK l)=M.pure (bK l):=fun _=>rfl;simp -implicitDefEqProofs [h1,hlt,w1,w2,w3,hix,hcf,e0,hce,ae,hb,hA,hc1]
def qj(call:FuncId->List AV->M AV)(W:List AV->M AV)(m:Ap.Mod)(k:Nat)(hk:k<m.funcs.length)(hl:m.funcs.length<=1000)(l4 l5 l6 l7 l8 l9 l10 l11 l12 b13 b14 b15 b16 b17 b18 b19 b20 b21:AV)(A L:Face)(n1 n2:Int)(s1:bI)(q1:call 42 [m.av]=M.pure A.av)(q2:call 42 [.agg [l4,l5,l6,l7,l8,l9,l10,l11,l12]]=M.pure L.av)(q3:call 42 [.agg [b13,b14,b15,b16,b17,b18,b19,b20,b21]]=M.pure A.av)(c1:call 17 [A.av,L.av]=M.pure (.tup [.int .i64 n1,.str s1]))(c2:call 17 [L.av,A.av]=M.pure (.tup [.int .i64 n2,.str []]))(c3:call 17 [A.av,A.av]=M.pure (.tup [.int .i64 0,.str []]))(hh:(m.funcs[k].pub=true/\n1=2/\s1=m.funcs[k].name/\n2=1)\/(m.funcs[k].pub=false/\n1=0/\s1=[]/\n2=0)):
  L12_0 call ak W [.int .i64 (k:Int),.ip (ab m.av),.bool true,.int .i64 m.funcs.length,l4,l5,l6,l7,l8,l9,l10,l11,l12,b13,b14,b15,b16,b17,b18,b19,b20,b21]=M.pure (.bool true):=by
 have hix:=uO (l:=m.funcs) (n:=(k:Int)) (by omega) (by omega);rw[Ez,EI m.funcs k hk]at hix;have hcf:∀f:Face,aV 2 f.av=M.pure f.av:=fun f=>by rw[br (om f),dQ,ie]
 generalize m.funcs[k]=f at hix hh;simp -implicitDefEqProofs only[L12_0,aZ,bj];rcases hh with⟨h1,rfl,rfl,rfl⟩|⟨h1,rfl,rfl,rfl⟩
 ·simp -implicitDefEqProofs [q1,hcf,q2,c1,c2,q3,c3,hix,h1]
 ·simp -implicitDefEqProofs [q1,hcf,q2,c1,c2,q3,c3,hix,h1]
theorem t6(call:FuncId->List AV->M AV)(m:Ap.Mod)(k:Nat)(hk:k<m.funcs.length)(hl:m.funcs.length<=1000)(sm:call 14 []=M.pure (.bool true))(hp:call 51 [m.av]=M.pure (.bool true))(hR:call 48 [m.av]=M.pure (.bool true)):
  S12 call ak m.av (.int .i64 (k:Int))=ak (L12_0 call ak) [.int .i64 (k:Int),.ip (ab m.av),.bool true,.int .i64 0,.str m.name,strs m.uses,aQ m.vars,ci m.init,bK (m.funcs.take k++m.funcs.drop (k+1)),.bool m.moves,aQ m.old,ci m.forward,ci m.back,.str m.name,.hn,.hn,.hn,.sl [],.bool false,.hn,.hn,.hn]:=by
 have h0:¬(k:Int)<0:=by omega
 have h1:¬(m.funcs.length:Int)<=(k:Int):=by omega
 have hcn:az 9 [] m.av=M.pure m.av:=by rw[aP (ju m),cd,ji]
 have b0:bq T 37 0 []=some (bK []):=rfl;have s1:=DI m.funcs (n:=k) (by omega);have s2:=DL m.funcs (n:=k+1) (by omega);have a1:eh T 37 (bK []) (bK (m.funcs.take k))=some (bK (m.funcs.take k)):=by
  have:=zq (a:=[]) (b:=m.funcs.take k) (by simp;omega)
  simpa using this
 have a2:eh T 37 (bK (m.funcs.take k)) (bK (m.funcs.drop (k+1)))=some (bK (m.funcs.take k++m.funcs.drop (k+1))):=zq (by simp;omega);have w1:IntKind.i64.wrap ((k:Int)+1)=(k:Int)+1:=dB (by omega) (by omega);have ek:((k+1:Nat):Int)=(k:Int)+1:=by omega
 rw[ek]at s2;have b1:cI T true 41 [(0,.str m.name)]=some (.agg [.str m.name,.hn,.hn,.hn,.hn,.bool false,.hn,.hn,.hn]):=rfl;have b2:az 9 [4] (.agg [.str m.name,.hn,.hn,.hn,.hn,.bool false,.hn,.hn,.hn])=M.pure (.agg [.str m.name,.hn,.hn,.hn,.hn,.bool false,.hn,.hn,.hn]):=rfl;have hc1:∀l:List Fun,bm (bK l)=M.pure (bK l):=fun _=>rfl;generalize hF:m.funcs.take k++m.funcs.drop (k+1)=F1 at *;generalize m.funcs.take k=F2 at *;generalize m.funcs.drop (k+1)=F3 at *;simp -implicitDefEqProofs [S12,sm,hp,hR,h0,h1,hcn,b0,s1,s2,a1,a2,w1,b1,b2,hc1]
theorem t12(m:Ap.Mod)(at_:Int)(hm:m.Lim):ai pg 12 [m.av,.int .i64 at_]=M.pure (.bool true):=by
 rw[C12];obtain⟨p,hp⟩:=DD m hm;have hR:=t48 m hm;cases p with
 |false=>simp[S12,f4,hp]
 | true=>
  cases hr:bL m with
  |false=>rw[hr]at hR;simp[S12,f4,hp,hR]
  | true=>
   rw[hr]at hR;by_cases h0:at_<0
   ·simp[S12,f4,hp,hR,h0]
   by_cases h1:(m.funcs.length:Int)<=at_
   ·simp[S12,f4,hp,hR,h0,h1]
   obtain⟨k,rfl⟩:∃k:Nat,at_=k:=⟨at_.toNat,by omega⟩;have hk:k<m.funcs.length:=by omega
   have MK:=gk hr;have hfl:=MK.flen;obtain⟨r1,r2,r3⟩:=oU hr hk;obtain⟨r4,r5⟩:=yD hr sH;have hself:dj (ij m) (ij m)=(0,[]):=by rw[i6,Es (pj hr)]
   have limL:({ m with funcs:=m.funcs.take k++m.funcs.drop (k+1) }:Ap.Mod).Lim:=⟨hm.uses,hm.vars,hm.vty,hm.init,hm.ies,by simp;omega,fun f hf=>hm.fns f (by
    rcases ER.1 hf with h|h
    ·exact FI h
    ·exact Gr h),hm.old,hm.oty,hm.forward,hm.fes,hm.back,hm.bes⟩
   have limB:(fL m.name (m.funcs.map (cg ec)).reverse).Lim:=⟨by simp[fL],by simp[fL],by simp[fL],by simp[fL],by simp[fL],by simp[fL];omega,fun f hf=>by
    have hf:f∈(m.funcs.map (cg ec)).reverse:=hf;obtain⟨g,hg,rfl⟩:=Fg.1 (Hj.1 hf);have G:=hm.fns g hg;exact⟨G.params,G.pty,G.result,fun n=>by cases n with
     |zero=>trivial
     |succ n=>exact⟨by simp[cg,ec,Exp.names],by simp[cg,ec,Exp.args],fun x hx=>by simp[cg,ec,Exp.args]at hx⟩⟩,by simp[fL],by simp[fL],by simp[fL],by simp[fL],by simp[fL],by simp[fL]⟩
   have q1:=DT m hm;have q2:=DT _ limL;have q3:=DT _ limB;have l1:=pi hm;have l2:=pi limL;have l3:=pi limB;have c1:=t17 _ _ l1 l2;have c2:=t17 _ _ l2 l1;have c3:=t17 _ _ l1 l3;rw[r5,hself]at c3;rw[r5]at q3;have hless:AV.agg [.str m.name,strs m.uses,aQ m.vars,ci m.init,bK (m.funcs.take k++m.funcs.drop (k+1)),.bool m.moves,aQ m.old,ci m.forward,ci m.back]=({ m with funcs:=m.funcs.take k++m.funcs.drop (k+1) }:Ap.Mod).av:=rfl;have hbare:ai pg 42 [.agg [.str m.name,.hn,.hn,.hn,bK (m.funcs.map (cg ec)).reverse,.bool false,.hn,.hn,.hn]]=ai pg 42 [(fL m.name (m.funcs.map (cg ec)).reverse).av]:=by
    have e:cl ax (.agg [.str m.name,.hn,.hn,.hn,bK (m.funcs.map (cg ec)).reverse,.bool false,.hn,.hn,.hn])=(fL m.name (m.funcs.map (cg ec)).reverse).av:=by
     simp[cl,dD,<- ji];simp[fL];exact⟨rfl,rfl,rfl,rfl,rfl⟩
    rw[C42,C42,jU,e]
   rw[<- hless]at q2;rw[<- hbare]at q3;have key:S12 (ai pg) ak m.av (.int .i64 (k:Int))=M.pure (.bool true):=by
    rw[t6 (ai pg) m k hk (by omega) f4 hp hR];have hlp:=AF m (by omega) (.int .i64 (k:Int)) (.bool true) (.str m.name) (strs m.uses) (aQ m.vars) (ci m.init) (bK (m.funcs.take k++m.funcs.drop (k+1))) (.bool m.moves) (aQ m.old) (ci m.forward) (ci m.back) (.str m.name) .hn .hn .hn (.bool false) .hn .hn .hn m.funcs.length 0 rfl (ES _);refine Eq.trans hlp ?_;rw[FL12_0];cases hpub:m.funcs[k].pub with
    |true=>
     obtain⟨g1,g2⟩:=r2 hpub;rw[g1]at c1;rw[g2]at c2;exact qj (ai pg) _ m k hk (by omega) _ _ _ _ _ _ _ _ _ _ _ _ _ _ _ _ _ _ _ _ _ _ _ q1 q2 q3 c1 c2 c3 (.inl ⟨hpub,rfl,rfl,rfl⟩)
    |false=>
     obtain⟨g1,g2⟩:=r3 hpub;rw[g1]at c1;rw[g2]at c2;exact qj (ai pg) _ m k hk (by omega) _ _ _ _ _ _ _ _ _ _ _ _ _ _ _ _ _ _ _ _ _ _ _ q1 q2 q3 c1 c2 c3 (.inr ⟨hpub,rfl,rfl,rfl⟩)
   simp only[jU,oS,key];exact dx true
end Go.Proofs.YteemeakjlfnapaaGreatDoor
namespace Go.Proofs.YteemeakjlfnapaaGreatDoor.compatModules
open Go Go.Av Go.Av.Ap Go.ChangeShapes Go.WideShapes Go.ChangeAt Go.RowKit Go.Joins Go.Deep
set_option maxRecDepth 1000000
def kids:Kids Tryz.prog (· < Tryz.prog.types.size):=kids_rows (by kernel_rfl) (by kernel_rfl)
def rf:∀t e,t<Tryz.prog.types.size->Tryz.prog.underlying t=some (.slice e)->0<Tryz.prog.cellsOf e:=slices_full_of Tryz.prog (by kernel_rfl)
def vZ(H:Type)(enc:TypeId×Value->H)(W:World)(base:Nat)(args:Array Value)(ds gs:List (DataW H))(before:List MemPlace)(hval:∀(j:Nat) t v,Tryz.f12.params[j]? = some t->args[j]? = some v->Value.okWide Tryz.prog W .any base t v)(hW:DataW.Whole enc Tryz.prog Tryz.f12.params.toList Rows.compatModulesSpec.vars false W args.toList ds gs before)(hz:(DataW.weightsEach Tryz.prog (Tryz.f12.params.toList++Rows.compatModulesSpec.plain.varTypes Tryz.prog) (ds++gs)).all (· <=reachBytes)=true)(hL:laidMetH Tryz.prog Rows.compatModulesRow.laid W)(hS:W.ShapedOpen Tryz.prog):
  Calls Tryz.prog 12 args W fun e W'=>∃v,e= .returned v/\Rows.compatModulesSpec.post enc Tryz.prog Tryz.f12 false true false false W args v W':=by
 have hW':=hW;obtain⟨p,q,hA0,hV,rfl,hfz,hnd⟩:=hW;have hA:DataW.TrodAll enc Tryz.prog W 0 (fun _=>true) true Tryz.f12.params.toList args.toList ds p:=hA0;have hA1:=hA;rw[Tryz.params12]at hA hval hz;obtain⟨v0,vs0,d0,ds0,p0,q0,ha0,rfl,rfl,h0,r0⟩:=trodAll_cons hA;obtain⟨v1,vs1,d1,ds1,p1,q1,ha1,rfl,rfl,h1,r1⟩:=trodAll_cons r0;obtain⟨hnil,rfl,rfl⟩:=trodAll_nil r1;subst hnil;subst ha1;obtain rfl:args= #[v0,v1]:=by cases args;simp_all
 obtain⟨rfl,rfl⟩:=trodVars_none hV;obtain⟨x0,k0,o0⟩:=rE (fun N=>(A6 N).le (G3 N)) (fun a=>rfl) Tryz.underlying41 (hval 0 41 v0 rfl rfl) h0 (lL hz (j:=0) rfl rfl);obtain⟨x1,k1,o1⟩:=xL (fun N=>mH Tryz.underlying3) Tryz.underlying3 (hval 1 3 v1 rfl rfl) h1 (lL hz (j:=1) rfl rfl);clear hA0;simp only[GW]at hW' hA1;have hlt:=hW'.lt;have hv:aH (gG W) [] [x0.av,.int .i64 x1] [v0,v1]:=by
  simp only[aH];exact⟨_,_,rfl,k0,_,_,rfl,k1,rfl⟩
 refine (uo good hOther (Az hL hS) hv (by rw[t12 x0 x1 o0];rfl)).mono fun e W' ⟨he,hb⟩=>?_;subst he;exact⟨_,rfl,nc (pv:=[]) hW' (fun _ _ _=>trodAll_cons_mk (shut_bool Tryz.underlying4 _) trodAll_mk0) (fun sp hsp=>
   rF kids rf (by rw[Tryz.params12];decide +kernel) hA1 hlt hb sp hsp) (fun _ _=>rfl) (by simp)
  hb (ok_one (by kernel_rfl) rfl (okWide_bool_mk Tryz.underlying4 _))⟩
def reads(os:Os){H:Type}(enc:TypeId×Value->H):∃ds places,DataW.whole enc Tryz.prog ((kd os).forCall (fun _ _=>0) ⟨#[],#[.agg #[.string ⟨#[]⟩,.slice none 0 0,.slice none 0 0,.slice none 0 0,.slice none 0 0,.bool false,.slice none 0 0,.slice none 0 0,.slice none 0 0],.int .i64 0],[]⟩).memory Tryz.f12.params.toList Rows.compatModulesSpec.vars false #[.agg #[.string ⟨#[]⟩,.slice none 0 0,.slice none 0 0,.slice none 0 0,.slice none 0 0,.bool false,.slice none 0 0,.slice none 0 0,.slice none 0 0],.int .i64 0].toList 8=some (ds,[],places):=
 ⟨[.agg [.lit (.string []),.nil,.nil,.nil,.nil,.lit (.bool false),.agg [.nil,.nil,.nil]],.lit (.int .i64 0)],[],by kernel_rfl⟩
def lifted(os:Os)(started:os.Started)(H:Type)(enc:TypeId×Value->H)(F:Stop.Interp):
  ReturnsInHanded {} Tryz.checked os 12 .any ((OpenSpec.ofChange Rows.compatModulesSpec).preRow enc Tryz.prog Tryz.f12 Rows.compatModulesRow.domain false Rows.compatModulesRow.laid) (((OpenSpec.ofChange Rows.compatModulesSpec).at F).post enc Tryz.prog Tryz.f12 false true false false):=by
 obtain⟨ds,places,hx⟩:=reads os enc;refine returnsInHanded_of_row (C:=Tryz.checked) (s:=OpenSpec.ofChange Rows.compatModulesSpec) DO started (by kernel_rfl) Tryz.func12
  (witness_row_atRef (enc:=enc) (C:=Tryz.checked) false (kd os) #[.agg #[.string ⟨#[]⟩,.slice none 0 0,.slice none 0 0,.slice none 0 0,.slice none 0 0,.bool false,.slice none 0 0,.slice none 0 0,.slice none 0 0],.int .i64 0] rfl (by kernel_rfl) (by kernel_rfl) (by kernel_rfl)
   (OpenSpec.preRow_of_cond 8 hx (by kernel_rfl) (fun k hk=>by cases hk) (by kernel_rfl) (wH os _))) ?_
 intro W base args ds gs before hval hW _ _ hz hL hS _;exact vZ H enc W base args ds gs before hval hW hz hL hS
end Go.Proofs.YteemeakjlfnapaaGreatDoor.compatModules
