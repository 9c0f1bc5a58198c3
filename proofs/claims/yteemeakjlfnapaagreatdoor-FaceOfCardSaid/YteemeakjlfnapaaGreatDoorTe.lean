/- What the functions of the seat compute, part 5: the texts of the claim, one behind the other. Conditions: bounds, as each theorem names them. -/
import Derived.Test.YteemeakjlfnapaaGreatDoorTd
import Derived.Lib.SmallJoins
set_option linter.defProp false
set_option linter.unusedSimpArgs false
set_option linter.unusedVariables false
namespace Go.Proofs.YteemeakjlfnapaaGreatDoor
open Go Go.Av Go.Av.Ap
set_option maxRecDepth 100000
theorem vf(k:Int)(es:List Exp):cR T false 47 [(0,.int .i64 k),(5,bG es)]=some (Exp.mk k 0 [] [] [] es).av:=rfl
def qZ(e:Exp):aZ 6 e.av=M.pure e.av:=by rw[bv (fM _),cr,dq]
def uS(e:Exp):ay 6 [] e.av=M.pure e.av:=by rw[aP (fM _),cr,dq]
def f6(o n:Int)(s m:bT)(ns:List bT)(es:List Exp):AV.agg [.int .i64 o,.int .i64 n,.str s,.str m,strs ns,bG es]=(Exp.mk o n s m ns es).av:=dq (Exp.mk o n s m ns es)
def C4(o n:Int)(s m:bT)(es:List Exp):AV.agg [.int .i64 o,.int .i64 n,.str s,.str m,.sl [],bG es]=(Exp.mk o n s m [] es).av:=dq (Exp.mk o n s m [] es)
def sq(e:Exp)(n:Int):aH (M.pure (.tup [e.av,.int .i64 n]))=M.pure (.tup [e.av,.int .i64 n]):=cj fun g=>by simp[cl,dz]
def bo(o n:Int)(s m:bT)(ns:List bT)(es:List Exp):ab (Exp.mk o n s m ns es).av=[.int .i64 o,.int .i64 n,.str s,.str m,strs ns,bG es]:=cr _
def t226(e:Exp):ak pg 226 [e.av]=M.pure (.tup [(eF e).1.av,.int .i64 (eF e).2]):=by
 have hc1:∀n:Int,bj (.int .i64 n)=M.pure (.int .i64 n):=fun n=>rfl;have hc2:∀s:bT,bj (.str s)=M.pure (.str s):=fun s=>rfl;have hc3:∀s:List bT,bj (strs s)=M.pure (strs s):=fun s=>rfl;rw[C226];obtain⟨o,n,s,m,ns,es⟩:=e;have ho:o=0\/o=1\/o=2\/o=17\/o=18\/o=14\/o=16\/o=10\/o=12\/o=11\/o=13\/o=15\/(o≠0/\o≠1/\o≠2/\o≠17/\o≠18/\o≠14/\o≠16/\o≠10/\o≠12/\o≠11/\o≠13/\o≠15):=by omega
 rcases ho with rfl|rfl|rfl|rfl|rfl|rfl|rfl|rfl|rfl|rfl|rfl|rfl|⟨h0,h1,h2,h17,h18,h14,h16,h10,h12,h11,h13,h15⟩
 all_goals first
  | (simp[S226,K226_0,K226_1,K226_2,vf,uS,bo,f6,C4,hc1,hc2,hc3,eF,Exp.op,Exp.n,Exp.s,Exp.m,Exp.names,Exp.args]
     exact sq _ _)
  | (simp[S226,K226_0,K226_1,K226_2,vf,uS,bo,f6,C4,hc1,hc2,hc3,eF,Exp.op,Exp.n,Exp.s,Exp.m,Exp.names,Exp.args,h0,h1,h2,h17,h18,h14,h16,h10,h12,h11,h13,h15]
     exact sq _ _)
theorem vU(e:Exp)(he:e.Lim):aj (L227_0 (ak pg) aj) [.ip (ab e.av),strs e.names,.int .i64 e.names.length,.int .i64 0]=M.pure (.bool (vV e.names)):=by
 have hlen:=he.names
 have hloop:∀(m i:Nat),e.names.length-i=m->i<=e.names.length->aj (L227_0 (ak pg) aj) [.ip (ab e.av),strs e.names,.int .i64 e.names.length,.int .i64 i]=M.pure (.bool ((List.range' i (e.names.length-i)).all (fun k=>bw e.names[k]! && (decide (k=0)||dy e.names[k-1]! e.names[k]!))&&decide (e.names.length<=8))):=by
  intro m
  induction m with
  |zero=>
   intro i hm hi;rw[FL227_0,hm];have h1:¬((i:Int)<(e.names.length:Int)):=by omega
   have h2:decide ((e.names.length:Int)<=8)=decide (e.names.length<=8):=by rw[ER];omega
   simp[L227_0,h1,h2]
  | succ m ih=>
   intro i hm hi;have hlt:i<e.names.length:=by omega
   have h1:(i:Int)<(e.names.length:Int):=by omega
   have ih':=ih (i+1) (by omega) (by omega);have er:List.range' i (e.names.length-i)=i:: List.range' (i+1) (e.names.length-(i+1)):=by
    rw[show e.names.length-i=(e.names.length-(i+1))+1 by omega,Gr]
   have hix:=yD (l:=e.names) (n:=(i:Int)) (by omega) h1;rw[DT]at hix;have hw:IntKind.i64.wrap ((i:Int)+1)=((i+1:Nat):Int):=aU (by omega);have h2:=t76 e.names[i]!;rw[FL227_0,er,ES];generalize e.names[i]! = s at hix h2 |-;cases hn:bw s with
   |false=>
    rw[hn]at h2;simp[L227_0,h1,hix,h2]
   | true=>
    rw[hn]at h2;rcases Eh i with hk0|hk0
    ·subst hk0;have hix0:ao T 35 (strs e.names) (.int .i64 0)=some (.ip (ab (.str s))):=hix;have hw0:IntKind.i64.wrap 1=1:=rfl;have hlt':0<e.names.length:=hlt;simpa [L227_0,h1,hlt',hix0,h2,hw0]using ih'
    ·have hp:IntKind.i64.wrap ((i:Int)-1)=((i-1:Nat):Int):=by
      rw[dw (by omega) (by omega)];omega
     have h4:((i-1:Nat):Int)<(e.names.length:Int):=by omega
     have hix2:=yD (l:=e.names) (n:=((i-1:Nat):Int)) (by omega) h4;rw[DT]at hix2;generalize e.names[i-1]! = g at hix2 |-;have hk2:0<(i:Int):=by omega
     have hk3:¬i=0:=by omega
     have hle:ar T .leq 9 (.str s) (.str g)=some (.bool (!(dy g s))):=by
      have:ar T .leq 9 (.str s) (.str g)=some (.bool (aC s g||s== g)):=rfl;rw[this];simp[dy]
     cases hs:dy g s with
     |false=>
      rw[hs]at hle;simp[L227_0,h1,hix,h2,hp,hix2,hk0,hk2,hk3,hle,-sQ]
     |true=>
      rw[hs]at hle;simpa [L227_0,h1,hix,h2,hp,hix2,hk0,hk2,hk3,hle,hw,-sQ]using ih'
 have h:=hloop e.names.length 0 rfl (Ef _);rw[F8,nP]at h;exact h
theorem t227(e:Exp)(he:e.Lim):ak pg 227 [e.av]=M.pure (.bool (ey e)):=by
 rw[C227];have hs:=t76 e.s;have hm:=t76 e.m;have hbn:=vU e he;obtain⟨o,n,s,m,ns,es⟩:=e;simp only[bo,Exp.names]at hbn;simp only[Exp.s,Exp.m]at hs hm;have ho:o=0\/o=1\/o=2\/o=17\/o=18\/o=14\/o=16\/o=12\/o=13\/o=15\/(o≠0/\o≠1/\o≠2/\o≠17/\o≠18/\o≠14/\o≠16/\o≠12/\o≠13/\o≠15):=by omega
 rcases ho with rfl|rfl|rfl|rfl|rfl|rfl|rfl|rfl|rfl|rfl|⟨h0,h1,h2,h17,h18,h14,h16,h12,h13,h15⟩
 ·simp[S227,K227_0,bo,ey,Exp.op,Exp.n,Exp.s,Exp.m,Exp.names,Exp.args];rfl
 ·simp[S227,K227_0,bo,ey,Exp.op,Exp.n,Exp.s,Exp.m,Exp.names,Exp.args]
 ·simp[S227,K227_0,bo,ey,Exp.op,Exp.n,Exp.s,Exp.m,Exp.names,Exp.args,hs]
 ·simp[S227,K227_0,bo,ey,Exp.op,Exp.n,Exp.s,Exp.m,Exp.names,Exp.args,hs]
 ·simp[S227,K227_0,bo,ey,Exp.op,Exp.n,Exp.s,Exp.m,Exp.names,Exp.args,hs]
 ·simp[S227,K227_0,bo,ey,Exp.op,Exp.n,Exp.s,Exp.m,Exp.names,Exp.args,hs]
 ·simp[S227,K227_0,bo,ey,Exp.op,Exp.n,Exp.s,Exp.m,Exp.names,Exp.args]
 ·simp[S227,K227_0,bo,ey,Exp.op,Exp.n,Exp.s,Exp.m,Exp.names,Exp.args,hs]
 ·simp[S227,K227_0,bo,ey,Exp.op,Exp.n,Exp.s,Exp.m,Exp.names,Exp.args,hbn]
 ·have e6:ar T .leq 3 (.int .i64 es.length) (.int .i64 6)=some (.bool (decide (es.length<=6))):=by
   have:ar T .leq 3 (.int .i64 es.length) (.int .i64 6)=some (.bool (decide ((es.length:Int)<=6))):=rfl;rw[this];exact Dz (fun b=>some (AV.bool b)) (ER.2 (by omega))
  cases ha:bw s with
  |false=>rw[ha]at hs;simp[S227,K227_0,bo,ey,Exp.op,Exp.n,Exp.s,Exp.m,Exp.names,Exp.args,hs,ha]
  | true=>
   rw[ha]at hs;by_cases hme:m=[]
   ·simp[S227,K227_0,bo,ey,Exp.op,Exp.n,Exp.s,Exp.m,Exp.names,Exp.args,hs,ha,hme,e6,-iG];try rfl
   ·cases hb:bw m with
    |false=>rw[hb]at hm;simp[S227,K227_0,bo,ey,Exp.op,Exp.n,Exp.s,Exp.m,Exp.names,Exp.args,hs,hm,ha,hb,hme,e6,-iG];try rfl
    |true=>rw[hb]at hm;simp[S227,K227_0,bo,ey,Exp.op,Exp.n,Exp.s,Exp.m,Exp.names,Exp.args,hs,hm,ha,hb,hme,e6,-iG];try rfl
 ·simp[S227,K227_0,bo,ey,Exp.op,Exp.n,Exp.s,Exp.m,Exp.names,Exp.args,h0,h1,h2,h17,h18,h14,h16,h12,h13,h15]
theorem t178:∀(d:Nat),d<=100->∀(e:Exp),e.Lim->ak pg 178 [e.av,.int .i64 d]=M.pure (.bool (cS d e))
 |0,_,e,_=>by
  rw[C178];simp[S178,cS]
 | d+1,hd,e,he=>by
  have hlen:=he.len;have hd1:IntKind.i64.wrap (((d+1:Nat):Int)-1)=(d:Int):=hG (by omega);have hloop:∀(m i:Nat),e.args.length-i=m->i<=e.args.length->aj (L178_0 (ak pg) aj) [.int .i64 ((d+1:Nat):Int),bG e.args,.int .i64 e.args.length,.int .i64 i]=M.pure (.bool ((e.args.drop i).all (cS d))):=by
   intro m
   induction m with
   |zero=>
    intro i hm hi;have h1:¬((i:Int)<(e.args.length:Int)):=by omega
    have h2:e.args.drop i=[]:=EB (by omega);rw[FL178_0,h2];simp[L178_0,h1]
   |succ m ih=>
    intro i hm hi;have hlt:i<e.args.length:=by omega
    have h1:(i:Int)<(e.args.length:Int):=by omega
    have h2:e.args.drop i=e.args[i]:: e.args.drop (i+1):=Et hlt;have hix:=wP (l:=e.args) (n:=(i:Int)) (by omega) h1;rw[DT,D2 e.args i hlt]at hix;have hw:IntKind.i64.wrap ((i:Int)+1)=((i+1:Nat):Int):=aU (by omega);have hb:=t178 d (by omega) e.args[i] (he.kid (DV hlt));have ih':=ih (i+1) (by omega) (by omega);rw[h2,ES,FL178_0];generalize e.args[i]=x at hix hb |-;cases hr:cS d x<;>rw[hr]at hb <;>
    simp only[L178_0,aY,a7,bL,aO,h1,EN,bb,Ep,hix,cr,LD47,D4,D3,DW,Nat.reduceAdd,DD,Eo,Eu,dq,qZ,aX,nS,hd1,hb,kH,Gd,E4,Ee,EH,ej,hw,ih',GJ,E5]
  have hx':aj (L178_0 (ak pg) aj) [.int .i64 ((d:Int)+1),bG e.args,.int .i64 e.args.length,.int .i64 0]=M.pure (.bool (e.args.all (cS d))):=hloop e.args.length 0 rfl (Ef _);have hc:=t226 e;have hl:=t227 e he;rw[C178,qm];unfold rP;generalize (eF e).1=c at hc |-;generalize (eF e).2=n at hc |-;have g1:(((d:Int)+1)== 0)=false:=by rw[EX];omega
  have x0:dp (.tup [c.av,.int .i64 n]) 0=some c.av:=rfl;have x1:dp (.tup [c.av,.int .i64 n]) 1=some (.int .i64 n):=rfl;have e1:ar T .neq 3 (.int .i64 c.n) (.int .i64 e.n)=some (.bool (!(c.n== e.n))):=rfl;have e2:ar T .neq 9 (.str c.s) (.str e.s)=some (.bool (!(c.s== e.s))):=rfl;have e3:ar T .neq 9 (.str c.m) (.str e.m)=some (.bool (!(c.m== e.m))):=rfl;have e4:ar T .neq 3 (.int .i64 c.names.length) (.int .i64 e.names.length)=some (.bool (!((c.names.length:Int)== (e.names.length:Int)))):=rfl;have e5:ar T .neq 3 (.int .i64 n) (.int .i64 e.args.length)=some (.bool (!(n== (e.args.length:Int)))):=rfl;have e6:ar T .geq 3 (.int .i64 n) (.int .i64 0)=some (.bool (!(decide (n<0)))):=by
   have:ar T .geq 3 (.int .i64 n) (.int .i64 0)=some (.bool (decide (0<=n))):=rfl;rw[this,<- decide_not];exact Dz (fun b=>some (AV.bool b)) (ER.2 (by omega))
  have e7:ar T .lss 3 (.int .i64 e.op) (.int .i64 0)=some (.bool (!(decide (0<=e.op)))):=by
   have:ar T .lss 3 (.int .i64 e.op) (.int .i64 0)=some (.bool (decide (e.op<0))):=rfl;rw[this,<- decide_not];exact Dz (fun b=>some (AV.bool b)) (ER.2 (by omega))
  have e8:ar T .geq 3 (.int .i64 e.op) (.int .i64 19)=some (.bool (!(decide (e.op<19)))):=by
   have:ar T .geq 3 (.int .i64 e.op) (.int .i64 19)=some (.bool (decide (19<=e.op))):=rfl;rw[this,<- decide_not];exact Dz (fun b=>some (AV.bool b)) (ER.2 (by omega))
  generalize (c.n== e.n)=b1 at e1 |-;generalize (c.s== e.s)=b2 at e2 |-;generalize (c.m== e.m)=b3 at e3 |-;generalize ((c.names.length:Int)== (e.names.length:Int))=b4 at e4 |-;generalize (n== (e.args.length:Int))=b5 at e5 |-;generalize decide (n<0)=b6 at e6 |-;generalize decide (0<=e.op)=b7 at e7 |-;generalize decide (e.op<19)=b8 at e8 |-;generalize ey e=bl at hl |-;generalize e.args.all (cS d)=bx at hx' |-;cases b7 with
  |false=>simp[S178,g1,e7,-bL]
  | true=>
   cases b8 with
   |false=>simp[S178,g1,e7,e8,-bL,-r9]
   |true=>
    cases b6<;>cases b5<;>cases b1<;>cases b2<;>cases b3<;>cases b4<;>cases bl<;>simp[S178,g1,hc,x0,x1,qZ,hl,hx',e1,e2,e3,e4,e5,e6,e7,e8,-bL,-r9,-wW]
def t118(e:Exp)(he:e.Lim):ak pg 118 [e.av]=M.pure (.bool (sK e)):=by
 have hb':ak pg 178 [e.av,.int .i64 12]=M.pure (.bool (cS 12 e)):=t178 12 (by omega) e he;rw[C118];simp[S118,hb']
def setRow(ns:List bT):List AV:=ns.map fun s=>.tup [.str s,.bool true]
theorem zD(a b:bT):tZ T 20 9 (.str a) (.str b)=some (a== b):=rfl
theorem jx(s:bT):(ns:List bT)->(i:Nat)->(ns.contains s=false/\eY T 9 (.str s) (setRow ns) i=some none)\/(ns.contains s=true/\∃(j:Nat)(k:AV),eY T 9 (.str s) (setRow ns) i=some (some (j,k,.bool true)))
 |[],i=>.inl ⟨rfl,rfl⟩
 | x:: ns,i=>by
  show (_/\eY T 9 (.str s) (.tup [.str x,.bool true]:: setRow ns) i=_)\/(_/\∃(j:Nat)(k:AV),eY T 9 (.str s) (.tup [.str x,.bool true]:: setRow ns) i=_);unfold eY;rw[zD,List.contains_cons];cases h:s== x with
  |true=>exact .inr ⟨rfl,i,.str x,rfl⟩
  |false=>
   rcases jx s ns (i+1)with⟨h1,h2⟩|⟨h1,j,k,h2⟩
   ·exact .inl ⟨by rw[h1];rfl,h2⟩
   ·exact .inr ⟨by rw[h1];rfl,j,k,h2⟩
theorem lM{h:Hp}{l:Nat}{ns:List bT}(hl:h[l]? = some [.tup (setRow ns)])(s:bT):fJ T 130 (.mp l) (.str s) false h= .ok (.bool (ns.contains s)) h:=by
 have e:lJ T 130 (setRow ns) (.str s) false=(match eY T 9 (.str s) (setRow ns) 0 with
   |some (some (_,_,v))=>some v
   |some none=>some (.bool false)
   |none=>none):=rfl
 unfold fJ iL;simp only[hl];rw[e];rcases jx s ns 0 with⟨h1,h2⟩|⟨h1,j,k,h2⟩
 ·rw[h2,h1]
 ·rw[h2,h1]
theorem oC{h:Hp}{l:Nat}{ns:List bT}(hl:h[l]? = some [.tup (setRow ns)])(s:bT)(hs:ns.contains s=false):mG T 130 (.mp l) (.str s) (.bool true) h= .ok (.tup []) (h.set l [.tup (setRow (ns++[s]))]):=by
 have e:mG T 130 (.mp l) (.str s) (.bool true) h=(match h[l]? with
   |some [.tup es]=>(match tR T 9 es (.str s) (.bool true)with
    |some es'=>.ok (.tup []) (h.set l [.tup es'])
    |none=>.fail)
   |_=>.fail):=rfl
 rw[e,hl];simp only;unfold tR;rcases jx s ns 0 with⟨h1,h2⟩|⟨h1,j,k,h2⟩
 ·rw[h2];simp[setRow]
 ·rw[h1]at hs;cases hs
theorem xF(l:List eQ)(hb:l.length<=140737488355328)(ht:∀f∈l,f.2.Lim)(most:Int)(q:Nat):∀(n i:Nat),l.length-i=n->i<=l.length->∀(seen:List bT)(h:Hp),h[q]? = some [.tup (setRow seen)]->
  ∃h',aj (L117_0 (ak pg) aj) [aN l,.int .i64 most,.mp q,aN l,.int .i64 l.length,.int .i64 i] h= .ok (.bool (qf seen (l.drop i)&&decide ((l.length:Int)<=most))) h':=by
 intro n
 induction n with
 |zero=>
  intro i hn hi seen h hq;rw[FL117_0];have h1:¬((i:Int)<(l.length:Int)):=by omega
  have h2:l.drop i=[]:=EB (by omega);rw[h2];exact⟨h,by simp[L117_0,h1,qf,M.pure]⟩
 | succ n ih=>
  intro i hn hi seen h hq;have hlt:i<l.length:=by omega
  have h1:(i:Int)<(l.length:Int):=by omega
  have h2:l.drop i=l[i]:: l.drop (i+1):=Et hlt;have hw:IntKind.i64.wrap ((i:Int)+1)=((i+1:Nat):Int):=aU (by omega);have hix:=nJ (l:=l) (n:=(i:Int)) (by omega) h1;rw[DT,D2 l i hlt]at hix;have hfl:=ht _ (DV hlt);have ih':=fun s=>ih (i+1) (by omega) (by omega) (seen++[s]) (h.set q [.tup (setRow (seen++[s]))]);have hql:q<h.length:=(El.1 hq).1;rw[h2];generalize l[i]=f at hix hfl |-;have hlk:=lM hq f.1;have hnm:=t76 f.1;have hty:=t47 f.2 hfl;have hcf:aZ 3 (be f)=M.pure (be f):=by rw[bv (gM f),ct,e9]
  generalize hcode:aj (L117_0 (ak pg) aj) [aN l,.int .i64 most,.mp q,aN l,.int .i64 l.length,.int .i64 i] h=code;rw[FL117_0]at hcode;simp -implicitDefEqProofs only[L117_0,aY,a7,bL,aO,h1,EN,bb,Ep,hix,ct,LD76,D4,D3,DW,Nat.reduceAdd,DD,Eo,Eu,e9,hcf,aX,FA76_0,FA76_1,Ev,EJ,LD9]at hcode;rw[bM hlk]at hcode;have eo:qf seen (f:: l.drop (i+1))=(!(seen.contains f.1)&&bw f.1&&cO f.2&&qf (seen++[f.1]) (l.drop (i+1))):=rfl;rw[eo];cases hc:seen.contains f.1 with
  |true=>
   rw[hc]at hcode;refine⟨h,?_⟩;rw[<- hcode];simp[M.pure]
  | false=>
   rw[hc]at hcode;cases hn2:bw f.1 with
   |false=>
    rw[hn2]at hnm;refine⟨h,?_⟩;rw[<- hcode];simp[hnm,M.pure]
   | true=>
    rw[hn2]at hnm;cases hr:cO f.2 with
    |false=>
     rw[hr]at hty;refine⟨h,?_⟩;rw[<- hcode];simp[hnm,hty,M.pure]
    |true=>
     rw[hr]at hty;obtain⟨h',e'⟩:=ih' f.1 (by rw[Fa hql]);refine⟨h',?_⟩;have hp:=oC hq f.1 hc;rw[<- hcode];simp -implicitDefEqProofs only[hnm,hty,aX,dM,kH,E4,Gd,aY,qg,bb,Ee,EH,LD27,D4,D3,DW,Nat.reduceAdd,DD,Ep,Eo,Eu,de,aO];rw[bM hp];simp only[ej,aO,hw,e',E5]
theorem t117(l:List eQ)(hb:l.length<=140737488355328)(ht:∀f∈l,f.2.Lim)(most:Int):ak pg 117 [aN l,.int .i64 most]=M.pure (.bool (dR l most)):=by
 obtain⟨h',e⟩:=xF l hb ht most 0 l.length 0 rfl (Ef _) [] ([]++[[.tup []]]) rfl;rw[Ev]at e;rw[C117];funext hp;have key:S117 (ak pg) aj (cl ax (aN l)) (cl ax (.int .i64 most)) []= .ok (.bool (dR l most)) h':=by
  rw[kA,uP];have hn:eM []= .ok (.mp 0) ([]++[[.tup []]]):=rfl;simp -implicitDefEqProofs only[S117];rw[bM hn];simp only[t7,aO];exact e
 show aH _ hp=R.ok (.bool (dR l most)) hp;unfold aH;rw[key];rfl
def t119(l:List Exp)(hb:l.length<=140737488355328)(ht:∀e∈l,e.Lim)(n:Int):ak pg 119 [bG l,.int .i64 n]=M.pure (.bool (l.all sK&&((l.length:Int)== n))):=by
 have hloop:∀(m i:Nat),l.length-i=m->i<=l.length->aj (L119_0 (ak pg) aj) [bG l,.int .i64 n,bG l,.int .i64 l.length,.int .i64 i]=M.pure (.bool ((l.drop i).all sK&&((l.length:Int)== n))):=by
  intro m
  induction m with
  |zero=>
   intro i hm hi;rw[FL119_0];have h1:¬((i:Int)<(l.length:Int)):=by omega
   have h2:l.drop i=[]:=EB (by omega);simp[L119_0,h1,h2]
  |succ m ih=>
   intro i hm hi;have hlt:i<l.length:=by omega
   have h1:(i:Int)<(l.length:Int):=by omega
   have h2:l.drop i=l[i]:: l.drop (i+1):=Et hlt;have hw:IntKind.i64.wrap ((i:Int)+1)=((i+1:Nat):Int):=aU (by omega);have hix:=wP (l:=l) (n:=(i:Int)) (by omega) h1;rw[DT,D2 l i hlt]at hix;have hr:=t118 l[i] (ht _ (DV hlt));have ih':=ih (i+1) (by omega) (by omega);rw[h2,ES,FL119_0];generalize l[i]=e at hix hr |-;cases hb2:sK e<;>rw[hb2]at hr <;>
   simp only[L119_0,aY,a7,bL,aO,h1,EN,bb,Ep,hix,cr,LD47,D4,D3,DW,Nat.reduceAdd,DD,Eo,Eu,dq,qZ,aX,hr,kH,E4,Gd,Ee,EH,ej,hw,ih',E5,GJ]
 have h:=hloop l.length 0 rfl (Ef _);rw[Ev]at h;have h':aj (L119_0 (ak pg) aj) [bG l,.int .i64 n,bG l,.int .i64 l.length,.int .i64 0]=M.pure (.bool (l.all sK&&((l.length:Int)== n))):=h;rw[C119];simp[S119,h']
def xr(f:Fun):aZ 12 f.av=M.pure f.av:=by rw[bv (fN f),dW,fa]
theorem xI(m:Ap.Mod)(hm:m.Lim)(q:Nat)(R:Bool)(hend:∀h:Hp,∃h',aj (L48_0 (ak pg) aj) [.ip (ab m.av),.mp q,bY m.funcs,.int .i64 m.funcs.length,.int .i64 m.funcs.length] h= .ok (.bool R) h'):∀(n i:Nat),m.funcs.length-i=n->i<=m.funcs.length->∀(seen:List bT)(h:Hp),h[q]? = some [.tup (setRow seen)]->
  ∃h',aj (L48_0 (ak pg) aj) [.ip (ab m.av),.mp q,bY m.funcs,.int .i64 m.funcs.length,.int .i64 i] h= .ok (.bool (ic seen (m.funcs.drop i)&&R)) h':=by
 have hb:=hm.funcs;intro n
 induction n with
 |zero=>
  intro i hn hi seen h hq;have h2:m.funcs.drop i=[]:=EB (by omega);obtain rfl:i=m.funcs.length:=by omega
  rw[h2];exact hend h
 | succ n ih=>
  intro i hn hi seen h hq;have hlt:i<m.funcs.length:=by omega
  have h1:(i:Int)<(m.funcs.length:Int):=by omega
  have h2:m.funcs.drop i=m.funcs[i]:: m.funcs.drop (i+1):=Et hlt;have hw:IntKind.i64.wrap ((i:Int)+1)=((i+1:Nat):Int):=aU (by omega);have hix:=wQ (l:=m.funcs) (n:=(i:Int)) (by omega) h1;rw[DT,D2 m.funcs i hlt]at hix;have hfl:=hm.fns _ (DV hlt);have ih':=fun s=>ih (i+1) (by omega) (by omega) (seen++[s]) (h.set q [.tup (setRow (seen++[s]))]);have hql:q<h.length:=(El.1 hq).1;rw[h2];generalize m.funcs[i]=f at hix hfl |-;have hlk:=lM hq f.name;have hnm:=t76 f.name;have hps:=t117 f.params hfl.params hfl.pty 6;have hty:=t47 f.result hfl.result;have hre:=t118 f.body hfl.body;have hex:ar T .andNot 3 (.int .i64 f.effects) (.int .i64 15)=some (.int .i64 (eL f.effects 15)):=rfl;generalize hcode:aj (L48_0 (ak pg) aj) [.ip (ab m.av),.mp q,bY m.funcs,.int .i64 m.funcs.length,.int .i64 i] h=code;rw[FL48_0]at hcode;simp -implicitDefEqProofs only[L48_0,aY,a7,bL,aO,h1,EN,bb,Ep,hix,dW,LD73,D4,D3,DW,Nat.reduceAdd,DD,Eo,Eu,fa,xr,aX,FA73_0,Ev,LD9]at hcode;rw[bM hlk]at hcode;have eo:ic seen (f:: m.funcs.drop (i+1))=(!(seen.contains f.name)&&kv f&&ic (seen++[f.name]) (m.funcs.drop (i+1))):=rfl;rw[eo];unfold kv;cases hc:seen.contains f.name with
  |true=>
   rw[hc]at hcode;refine⟨h,?_⟩;rw[<- hcode];simp[M.pure]
  | false=>
   rw[hc]at hcode;cases hn2:bw f.name with
   |false=>rw[hn2]at hnm;refine⟨h,?_⟩;rw[<- hcode];simp[hnm,M.pure]
   | true=>
    rw[hn2]at hnm;cases hp2:dR f.params 6 with
    |false=>rw[hp2]at hps;refine⟨h,?_⟩;rw[<- hcode];simp[hnm,hps,M.pure]
    | true=>
     rw[hp2]at hps;cases hr:cO f.result with
     |false=>rw[hr]at hty;refine⟨h,?_⟩;rw[<- hcode];simp[hnm,hps,hty,M.pure]
     | true=>
      rw[hr]at hty;cases hrb:sK f.body with
      |false=>rw[hrb]at hre;refine⟨h,?_⟩;rw[<- hcode];simp[hnm,hps,hty,hre,M.pure]
      | true=>
       rw[hrb]at hre;by_cases he:eL f.effects 15=0
       ·obtain⟨h',e'⟩:=ih' f.name (by rw[Fa hql]);refine⟨h',?_⟩;have hp:=oC hq f.name hc;rw[<- hcode];have e'':=e';simp only[cu]at e'';simp[hnm,hps,hty,hre,hex,he];rw[bM hp];simpa [hw]using e''
       ·refine⟨h,?_⟩;rw[<- hcode];have he':(eL f.effects 15== 0)=false:=EX.2 he;simp[hnm,hps,hty,hre,hex,he,he',M.pure]
def BG(m:Ap.Mod)(hm:m.Lim)(q:Nat)(h:Hp):∃h',aj (L48_0 (ak pg) aj) [.ip (ab m.av),.mp q,bY m.funcs,.int .i64 m.funcs.length,.int .i64 m.funcs.length] h= .ok (.bool (lY m)) h':=by
 have hnm:=t76 m.name;have hv:=t117 m.vars hm.vars hm.vty 8;have hi:=t119 m.init hm.init hm.ies m.vars.length;have ho:=t117 m.old hm.old hm.oty 8;have hf:=fun n=>t119 m.forward hm.forward hm.fes n;have hb:=t119 m.back hm.back hm.bes m.old.length;refine⟨h,?_⟩;rw[FL48_0];unfold lY;generalize dR m.vars 8=b1 at hv |-;generalize (m.init.all sK&&((m.init.length:Int)== (m.vars.length:Int)))=b2 at hi |-;generalize dR m.old 8=b3 at ho |-;generalize (m.back.all sK&&((m.back.length:Int)== (m.old.length:Int)))=b4 at hb |-;cases hn:bw m.name with
 |false=>rw[hn]at hnm;simp[L48_0,hnm,M.pure]
 | true =>
  rw[hn]at hnm;by_cases hu:m.uses.length<=12
  ·have hu':¬(12<(m.uses.length:Int)):=by omega
   by_cases hfn:m.funcs.length<=30
   ·have hfn':¬(30<(m.funcs.length:Int)):=by omega
    cases b1 with
    |false=>simp[L48_0,hnm,hu,hu',hfn,hfn',hv,M.pure]
    | true=>
     cases b2 with
     |false=>simp[L48_0,hnm,hu,hu',hfn,hfn',hv,hi,M.pure]
     | true=>
      cases hmv:m.moves with
      |true=>
       have hfv:=hf m.vars.length;rw[DG rfl];generalize (m.forward.all sK&&((m.forward.length:Int)== (m.vars.length:Int)))=b5 at hfv |-;cases b3<;>cases b5<;>cases b4<;>simp[L48_0,K48_0,hnm,hu,hu',hfn,hfn',hv,hi,ho,hfv,hb,hmv,M.pure]
      | false=>
       have hfv:=hf 0;rw[if_neg (by decide)];generalize (m.forward.all sK&&((m.forward.length:Int)== 0))=b5 at hfv |-;by_cases hz:0<m.old.length
       ·have hz':0<(m.old.length:Int):=by omega
        have hz2:¬m.old.length=0:=by omega
        simp[L48_0,K48_0,hnm,hu,hu',hfn,hfn',hv,hi,hmv,hz,hz',hz2,M.pure]
       ·have hz':¬0<(m.old.length:Int):=by omega
        have hz2:m.old.length=0:=by omega
        have hb0:ak pg 119 [bG m.back,.int .i64 0]=M.pure (.bool b4):=by
         rw[hz2]at hb;exact hb
        cases b3<;>cases b5<;>cases b4<;>simp[L48_0,K48_0,hnm,hu,hu',hfn,hfn',hv,hi,ho,hfv,hb0,hmv,hz,hz',hz2,M.pure]
   ·have hfn':30<(m.funcs.length:Int):=by omega
    simp[L48_0,hnm,hu,hu',hfn,hfn',M.pure]
  ·have hu':12<(m.uses.length:Int):=by omega
   simp[L48_0,hnm,hu,hu',M.pure]
theorem xJ(m:Ap.Mod)(hm:m.Lim)(q:Nat)(R:Bool)(hend:∀h:Hp,∃h',aj (L48_1 (ak pg) aj) [.ip (ab m.av),.mp q,strs m.uses,.int .i64 m.uses.length,.int .i64 m.uses.length] h= .ok (.bool R) h'):∀(n i:Nat),m.uses.length-i=n->i<=m.uses.length->∀(seen:List bT)(h:Hp),h[q]? = some [.tup (setRow seen)]->
  ∃h',aj (L48_1 (ak pg) aj) [.ip (ab m.av),.mp q,strs m.uses,.int .i64 m.uses.length,.int .i64 i] h= .ok (.bool (vZ seen (m.uses.drop i)&&R)) h':=by
 have hb:=hm.uses;intro n
 induction n with
 |zero=>
  intro i hn hi seen h hq;have h2:m.uses.drop i=[]:=EB (by omega);obtain rfl:i=m.uses.length:=by omega
  rw[h2];exact hend h
 | succ n ih=>
  intro i hn hi seen h hq;have hlt:i<m.uses.length:=by omega
  have h1:(i:Int)<(m.uses.length:Int):=by omega
  have h2:m.uses.drop i=m.uses[i]:: m.uses.drop (i+1):=Et hlt;have hw:IntKind.i64.wrap ((i:Int)+1)=((i+1:Nat):Int):=aU (by omega);have hix:=yD (l:=m.uses) (n:=(i:Int)) (by omega) h1;rw[DT,D2 m.uses i hlt]at hix;have ih':=fun s=>ih (i+1) (by omega) (by omega) (seen++[s]) (h.set q [.tup (setRow (seen++[s]))]);have hql:q<h.length:=(El.1 hq).1;rw[h2];generalize m.uses[i]=s at hix |-;have hlk:=lM hq s;have hnm:=t76 s;generalize hcode:aj (L48_1 (ak pg) aj) [.ip (ab m.av),.mp q,strs m.uses,.int .i64 m.uses.length,.int .i64 i] h=code;rw[FL48_1]at hcode;simp -implicitDefEqProofs only[L48_1,aY,a7,bL,aO,h1,EN,bb,Ep,hix,il,LD9]at hcode;rw[bM hlk]at hcode;have eo:vZ seen (s:: m.uses.drop (i+1))=(!(seen.contains s)&&bw s&&vZ (seen++[s]) (m.uses.drop (i+1))):=rfl;rw[eo];cases hc:seen.contains s with
  |true=>
   rw[hc]at hcode;refine⟨h,?_⟩;rw[<- hcode];simp[M.pure]
  | false=>
   rw[hc]at hcode;cases hn2:bw s with
   |false=>rw[hn2]at hnm;refine⟨h,?_⟩;rw[<- hcode];simp[hnm,M.pure]
   |true=>
    rw[hn2]at hnm;obtain⟨h',e'⟩:=ih' s (by rw[Fa hql]);refine⟨h',?_⟩;have hp:=oC hq s hc;rw[<- hcode];have e'':=e';simp only[cu]at e'';simp[hnm];rw[bM hp];simpa [hw]using e''
theorem t48(m:Ap.Mod)(hm:m.Lim):ak pg 48 [m.av]=M.pure (.bool (bO m)):=by
 have hend:∀h:Hp,∃h',aj (L48_1 (ak pg) aj) [.ip (ab m.av),.mp 0,strs m.uses,.int .i64 m.uses.length,.int .i64 m.uses.length] h= .ok (.bool (ic [] m.funcs&&lY m)) h':=fun h=>by
  have h1:¬((m.uses.length:Int)<(m.uses.length:Int)):=by omega
  obtain⟨h',e⟩:=xI m hm h.length (lY m) (fun h=>BG m hm _ h) m.funcs.length 0 rfl (Ef _) [] (h++[[.tup []]]) (by simp[setRow]);rw[Ev]at e;refine⟨h',?_⟩;rw[FL48_1];have hn:eM h= .ok (.mp h.length) (h++[[.tup []]]):=rfl;simp only[cu]at e;simp -implicitDefEqProofs only[L48_1,aY,a7,bL,aO,h1,Fw,bb,Ee,EH];rw[bM hn];simp only[cu,FA41_4,EJ,Ev,aO,LD37,yI];exact e
 obtain⟨h',e⟩:=xJ m hm 0 _ hend m.uses.length 0 rfl (Ef _) [] ([]++[[.tup []]]) rfl;rw[Ev]at e;rw[C48];funext hp;have key:S48 (ak pg) aj (cl ax m.av) []= .ok (.bool (bO m)) h':=by
  have hn:eM []= .ok (.mp 0) ([]++[[.tup []]]):=rfl;simp only[cu]at e;rw[kU];simp -implicitDefEqProofs only[S48];rw[bM hn];simp only[cu,FA41_1,EJ,Ev,aO,LD35,yG];exact e
 show aH _ hp=R.ok (.bool (bO m)) hp;unfold aH;rw[key];rfl
def B6(x:Sig):(ab x.av).length=5:=by simp
def sR(h:Hp)(v:AV)(l:List Sig):Prop:=(l=[]/\v= .hn)\/(l≠[]/\∃q,v= .hs q 0 l.length 5 true/\h[q]? = some (rowOf Sig.av l))
theorem rG:(l:List Sig)->(rowOf Sig.av l).all aL=true
 |[]=>rfl
 |f:: l=>by
  rw[ge,List.all_append,rG l,Gj,dx];rfl
def ua{h:Hp}{v:AV}{l:List Sig}(A:sR h v l)(hl:l.length<=1000000)(s:Sig):∃v' h',appH T 22 false v (sigs [s]) h= .ok v' h'/\sR h' v' (l++[s])/\bj v'=M.pure v':=by
 rcases A with⟨rfl,rfl⟩|⟨hne,q,rfl,hq⟩
 ·have e2:=Bo (T:=T) (t:=22) (e:=56) rfl rfl rfl (x:=s.av) (gO s) (by decide) (by decide) (by decide) h;refine⟨_,_,e2,.inr ⟨by simp,h.length,rfl,?_⟩,rfl⟩;simp[rowOf]
 ·have hln:=dj (f:=Sig.av) B6 l;have e2:=Bp (T:=T) (t:=22) (e:=56) rfl rfl rfl (x:=s.av) (gO s) (by decide) (by decide) hq (rG l) hln (E7.2 hne) (show (l.length+1)*80<=140737488355328 by omega);refine⟨_,_,e2,.inr ⟨by simp,h.length,by rw[Eb];rfl,?_⟩,rfl⟩;simp[rowOf]
theorem xQ(V:List AV->M AV)(m:Ap.Mod)(f:Fun)(hf:FunOk f)(i:Nat)(hv x3 x4:AV)(h:Hp):∀(k j:Nat)(acc:List Ty),f.params.length-j=k->j<=f.params.length->acc.length<=j->
  aj (L42_0 (ak pg) aj V) [bY m.funcs,.int .i64 m.funcs.length,.int .i64 i,aN f.params,.int .i64 f.params.length,.int .i64 j,x3,x4,.str m.name,hv,.str f.name,ky acc,.int .i64 f.result.kind,aN f.result.fields,.int .i64 f.effects] h=af (appH T 22 false hv (sigs [⟨f.name,acc++(f.params.drop j).map (·.2),f.result,f.effects⟩])) (fun v=>af (bj v) fun _=>V [bY m.funcs,.int .i64 m.funcs.length,.int .i64 (IntKind.i64.wrap ((i:Int)+1)),x3,x4,.str m.name,v]) h:=by
 have hpl:=hf.plen;intro k
 induction k with
 |zero=>
  intro j acc hk hj ha;have h1:¬((j:Int)<(f.params.length:Int)):=by omega
  have h2:f.params.drop j=[]:=EB (by omega);have b1:bp T 22 1 [(0,.agg [.str f.name,ky acc,.int .i64 f.result.kind,aN f.result.fields,.int .i64 f.effects])]=some (sigs [⟨f.name,acc,f.result,f.effects⟩]):=rfl;rw[FL42_0,h2];simp only[L42_0,aY,a7,bL,aO,h1,Fw,bb,Ee,EH,b1,ej,List.map_nil,Gb]
 |succ k ih=>
  intro j acc hk hj ha;have hlt:j<f.params.length:=by omega
  have h1:(j:Int)<(f.params.length:Int):=by omega
  have h2:f.params.drop j=f.params[j]:: f.params.drop (j+1):=Et hlt;have hw:IntKind.i64.wrap ((j:Int)+1)=(j:Int)+1:=aU (by omega);have hix:=nJ (l:=f.params) (n:=(j:Int)) (by omega) h1;rw[DT,D2 f.params j hlt]at hix;have hcl:=t104 f.params[j].2 (hf.pars _ (DV hlt));have ih':=ih (j+1) (acc++[f.params[j].2]) (by omega) (by omega) (by simp;omega);have hap:=Cz (a:=acc) (b:=[f.params[j].2]) (by simp;omega);rw[h2,D8];generalize f.params[j]=z at hix hcl hap ih' |-;have hsl:bp T 54 1 [(0,z.2.av)]=some (ky [z.2]):=by cases z.2;rfl
  have hc1:∀l:List Ty,bj (ky l)=M.pure (ky l):=fun l=>rfl;rw[show acc++z.2:: (f.params.drop (j+1)).map (·.2)=acc++[z.2]++(f.params.drop (j+1)).map (·.2) by simp,<- ih'];generalize hcode:aj (L42_0 (ak pg) aj V) [bY m.funcs,.int .i64 m.funcs.length,.int .i64 i,aN f.params,.int .i64 f.params.length,.int .i64 j,x3,x4,.str m.name,hv,.str f.name,ky acc,.int .i64 f.result.kind,aN f.result.fields,.int .i64 f.effects] h=code;rw[FL42_0]at hcode;simp -implicitDefEqProofs only[L42_0,aY,a7,bL,aO,h1,EN,bb,Ep,hix,ct,LD76,D4,D3,DW,Nat.reduceAdd,DD,Eo,Eu,e9,kR,aX,FA76_1,EJ,Ev,LD27,de,hcl,fe,hsl,hap,hc1,ej,hw]at hcode;rw[<- hcode];rfl
theorem xR(m:Ap.Mod)(MK:ModOk m):∀(k i:Nat)(hv x3 x4:AV)(h:Hp),m.funcs.length-i=k->i<=m.funcs.length->sR h hv (bZ (m.funcs.take i))->
  ∃hv' h',sR h' hv' (bZ m.funcs)/\aj (L42_1 (ak pg) aj) [bY m.funcs,.int .i64 m.funcs.length,.int .i64 i,x3,x4,.str m.name,hv] h=af (ak pg 107 [hv',.fn (.func 108) [] []]) (fun _=>af (ay 2 [] (.agg [.str m.name,hv'])) fun v=>M.pure (.agg [nth (ab v) 0,nth (ab v) 1])) h':=by
 have hfl:=MK.flen;intro k
 induction k with
 |zero=>
  intro i hv x3 x4 h hk hi A;have h1:¬((i:Int)<(m.funcs.length:Int)):=by omega
  have h2:m.funcs.take i=m.funcs:=EZ (by omega);rw[h2]at A;refine⟨hv,h,A,?_⟩;rw[FL42_1];simp only[L42_1,aY,a7,bL,aO,h1,Fw,bb,Ee,EH]
 | succ k ih=>
  intro i hv x3 x4 h hk hi A;have hlt:i<m.funcs.length:=by omega
  have h1:(i:Int)<(m.funcs.length:Int):=by omega
  have hw:IntKind.i64.wrap ((i:Int)+1)=((i+1:Nat):Int):=aU (by omega);have hix:=wQ (l:=m.funcs) (n:=(i:Int)) (by omega) h1;rw[DT,D2 m.funcs i hlt]at hix;have hf:=MK.fns _ (DV hlt);have ht:m.funcs.take (i+1)=m.funcs.take i++[m.funcs[i]]:=List.take_succ_eq_append_getElem hlt;have ih0:=ih (i+1);rw[ht]at ih0;have cf:∀f:Fun,aZ 12 f.av=M.pure f.av:=fun f=>by rw[bv (fN f),dW,fa]
  rw[FL42_1];generalize m.funcs[i]=f at hix hf ih0 |-;cases hp:f.pub with
  |false=>
   have e:bZ (m.funcs.take i++[f])=bZ (m.funcs.take i):=by simp[bZ,hp]
   rw[e]at ih0;obtain⟨hv',h',A',e'⟩:=ih0 hv x3 x4 h (by omega) (by omega) A;refine⟨hv',h',A',?_⟩;rw[<- e'];simp[L42_1,h1,hix,cf,hw];simp[hp]
  | true=>
   have e:bZ (m.funcs.take i++[f])=bZ (m.funcs.take i)++[dI f]:=by simp[bZ,hp]
   rw[e]at ih0;have hlen:(bZ (m.funcs.take i)).length<=1000000:=by
    have:(bZ (m.funcs.take i)).length<=(m.funcs.take i).length:=by
     unfold bZ;rw[D7];exact EQ _ _
    rw[EA]at this;omega
   obtain⟨v1,h1',e1,A1,c1⟩:=ua A hlen (dI f);obtain⟨hv',h',A',e'⟩:=ih0 v1 x3 x4 h1' (by omega) (by omega) A1;refine⟨hv',h',A',?_⟩;rw[<- e'];have hin:=xQ (aj (L42_1 (ak pg) aj)) m f hf i hv x3 x4 h f.params.length 0 [] rfl (Ef _) (Ef _);rw[hw]at hin;have hin2:aj (L42_0 (ak pg) aj (aj (L42_1 (ak pg) aj))) [bY m.funcs,.int .i64 m.funcs.length,.int .i64 i,aN f.params,.int .i64 f.params.length,.int .i64 0,x3,x4,.str m.name,hv,.str f.name,.sl [],.int .i64 f.result.kind,aN f.result.fields,.int .i64 f.effects] h=aj (L42_1 (ak pg) aj) [bY m.funcs,.int .i64 m.funcs.length,.int .i64 ((i+1:Nat):Int),x3,x4,.str m.name,v1] h1':=by
    refine hin.trans ?_;show af (appH T 22 false hv (sigs [dI f])) _ h=_;rw[bM e1,c1,aX]
   have hcl:=t104 f.result hf.res;have bs1:∀(k:Int)(x:List eQ)(e:Int),cR T true 56 [(0,.str f.name),(2,(Ty.mk k x).av),(3,.int .i64 e)]=some (.agg [.str f.name,.hn,.int .i64 k,aN x,.int .i64 e]):=fun k x e=>rfl;have bs2:cR T true 56 [(0,.str f.name),(2,f.result.av),(3,.int .i64 f.effects)]=some (.agg [.str f.name,.hn,.int .i64 f.result.kind,aN f.result.fields,.int .i64 f.effects]):=by
    have:=bs1 f.result.kind f.result.fields f.effects
    rwa [Ty.eta]at this
   have bs3:ay 5 [1] (.agg [.str f.name,.hn,.int .i64 f.result.kind,aN f.result.fields,.int .i64 f.effects])=M.pure (.agg [.str f.name,.hn,.int .i64 f.result.kind,aN f.result.fields,.int .i64 f.effects]):=rfl;rw[<- hin2];simp[L42_1,h1,hix,cf,hcl,bs2,bs3];simp[hp]
def mW(l:List Sig)(i:Nat)(hi:i<l.length):cH 5 (rowOf Sig.av l) i=ab l[i].av:=da B6 l i hi
def rO(l:List Sig):rowOf Sig.av l=(l.map fun s=>ab s.av).flatten:=by
 unfold rowOf;rw[List.flatMap_def,Fy];rfl
def g9(l:List Sig):(cJ l).length=l.length:=(cP l).length_eq
theorem sS{h:Hp}{hv:AV}{l:List Sig}(A:sR h hv l)(hl:l.length<=1000):∃h',ak pg 107 [hv,.fn (.func 108) [] []] h= .ok (.tup []) h'/\sR h' hv (cJ l):=by
 have e0:ak pg 107 [hv,.fn (.func 108) [] []]=dZ 5 108 (ak pg) [hv,.fn (.func 108) [] []]:=eu hOther rfl _;rw[e0];rcases A with⟨rfl,rfl⟩|⟨hne,q,rfl,hq⟩
 ·exact⟨h,rfl,.inl ⟨DZ (g9 []),rfl⟩⟩
 ·have hln:=dj (f:=Sig.av) B6 l;have hpos:0<l.length:=E7.2 hne;have hrow:((rowOf Sig.av l).drop 0).take (l.length*5)=rowOf Sig.av l:=by rw[Ev,<- hln];exact Gs
  have hkeys:keysOf 5 l.length (rowOf Sig.av l)=some (l.map (·.name)):=by
   unfold keysOf;have e:(List.range l.length).map (fun i=>cH 5 (rowOf Sig.av l) i)=l.map fun s=>ab s.av:=by
    apply FU
    ·simp
    ·intro i h1 h2;simp only[FF,Gh];exact mW l i (by simpa using h2)
   rw[e]
   have:=pS (nm:=fun c=>match c with|.str s:: _=>s|_=>[]) (cs:=l.map fun s=>ab s.av) (fun c hc=>by
    obtain⟨s,_,rfl⟩:=Ey.1 hc;rfl)
   rw[this,Fy];rfl
  have hpl:(dH (l.map (·.name))).length=l.length:=by
   have:=(lV (l.map (·.name))).1.length_eq
   simpa using this
  have hflat:((dH (l.map (·.name))).map fun i=>cH 5 (rowOf Sig.av l) (i % l.length)).flatten=rowOf Sig.av (cJ l):=by
   rw[rO (cJ l)];unfold cJ;rw[Fy];congr 1;apply Fj;intro i _;have hm:=GK i hpos;simp only[Function.comp];rw[mW l _ hm,D2 l _ hm]
  have hlen2:(rowOf Sig.av (cJ l)).length=(rowOf Sig.av l).length:=by rw[dj (f:=Sig.av) B6,g9,hln]
  have hset:setCells (rowOf Sig.av l) 0 (rowOf Sig.av (cJ l))=rowOf Sig.av (cJ l):=by
   unfold setCells;rw[Eu,Ez,DW,hlen2,List.drop_length,Gb]
  have hok:=rG l;refine⟨h.set q (rowOf Sig.av (cJ l)),?_,.inr ⟨fun e=>hne (by have:=g9 l;rw[e]at this;exact DZ this.symm),q,by rw[g9],Fa (El.1 hq).1⟩⟩;unfold dZ;simp only[hq,hrow,hkeys,hflat,hset];have hb:Nat.beq 108 108=true:=rfl;have hb5:Nat.beq 5 5=true:=rfl;have hall:((rowOf Sig.av l).all aL)=true:=hok;have hcond:(Nat.beq 108 108&&Nat.beq 5 5&&decide (0<l.length)&&decide (0<5)&&decide (0+l.length*5<=(rowOf Sig.av l).length)&&decide ((l.map (·.name)).length=l.length)&&decide (l.length<4611686018427387904)&&decide ((dH (l.map (·.name))).length=l.length)&&(rowOf Sig.av l).all aL)=true:=by
   have g1:decide (0<l.length)=true:=EO hpos;have g2:decide (0+l.length*5<=(rowOf Sig.av l).length)=true:=EO (by omega);have g3:decide ((l.map (·.name)).length=l.length)=true:=EO (D7 ..);have g4:decide (l.length<4611686018427387904)=true:=EO (by omega);have g5:decide ((dH (l.map (·.name))).length=l.length)=true:=EO hpl;rw[g1,g2,g3,g4,g5,hall,hb,hb5];rfl
  rw[hcond];rfl
theorem C0(m:Ap.Mod)(hm:m.Lim):ak pg 42 [m.av]=M.pure (mo m).av:=by
 have hR:=t48 m hm;have lm:ai T 41 (.ip (ab m.av))=some m.av:=rfl;simp only[cu]at lm;rw[C42,kU];unfold mo;by_cases hr:bO m=true
 ·rw[hr]at hR;rw[DG hr];have MK:=f4 hr;obtain⟨hv,h',A,e'⟩:=xR m MK m.funcs.length 0 .hn (.str []) (.sl []) [] rfl (Ef _) (.inl ⟨rfl,rfl⟩);have hpl:(bZ m.funcs).length<=1000:=by
   have:(bZ m.funcs).length<=m.funcs.length:=by
    unfold bZ;rw[D7];exact EQ _ _
   have:=MK.flen
   omega
  obtain⟨h2,e2,A2⟩:=sS A hpl;have b1:cR T true 24 [(0,.str m.name)]=some (.agg [.str m.name,.hn]):=rfl;have b2:ay 2 [1] (.agg [.str m.name,.hn])=M.pure (.agg [.str m.name,.hn]):=rfl;have b2':ay 2 [] (.agg [.str m.name,.hn])=M.pure (.agg [.str m.name,.hn]):=rfl;have hcn:ay 2 [] (.agg [.str m.name,hv])=M.pure (.agg [.str m.name,hv]):=by
   rcases A2 with⟨_,rfl⟩|⟨_,q,rfl,_⟩
   ·rfl
   ·exact aP rfl
  have hfz:gx 6 h2 (.agg [.str m.name,hv])=(Face.mk m.name (cJ (bZ m.funcs))).av:=by
   rcases A2 with⟨e,rfl⟩|⟨_,q,rfl,hq⟩
   ·rw[e];rfl
   ·have hfr:=jE (f:=Sig.av) B6 (fun x=>by rw[dx,fb]) (fun x g=>qX g x) (by decide) hq 5;have e:(Face.mk m.name (cJ (bZ m.funcs))).av= .agg [.str m.name,.sl ((cJ (bZ m.funcs)).map Sig.av)]:=rfl;rw[e,<- hfr];rfl
  refine pR (v:=.agg [.str m.name,hv]) (h':=h2) ?_ hfz;have e'':aj (L42_1 (ak pg) aj) [bY m.funcs,.int .i64 m.funcs.length,.int .i64 0,.str [],.sl [],.str m.name,.hn] []= .ok (.agg [.str m.name,hv]) h2:=by
   refine e'.trans ?_;rw[bM e2,hcn];rfl
  simp[S42,lm,hR,b1,b2,b2',e'']
 ·rw[if_neg hr];rw[FV]at hr;rw[hr]at hR;have b1:cR T false 24 []=some fq.av:=rfl;have b2:ay 2 [] fq.av=M.pure fq.av:=rfl;have hfz:gx 6 [] fq.av=fq.av:=rfl;refine pR (v:=fq.av) (h':=[]) ?_ hfz;simp[S42,lm,hR,b1,b2];rfl
@[simp] theorem Ao(a b:Bool):ar T .neq 4 (.bool a) (.bool b)=some (.bool (a != b)):=rfl
def dJ:Exp:=.mk 0 0 [] [] [] []
def rM:cS 12 dJ=true:=by decide +kernel
theorem pi(f:Fun):bp T 37 1 [(0,f.av)]=some (bY [f]):=by
 have h:bp T 37 1 [(0,f.av)]=(fX 12 [AV.agg [.str [],.bool false,.sl [],.int .i64 0,.sl [],.int .i64 0,.int .i64 0,.int .i64 0,.str [],.str [],.sl [],.sl []]] [(0,f.av)]).map .sl:=rfl;rw[h];simp[fX,bY]
def qR(f:Fun):bp T 37 1 [(0,.agg [.str f.name,.bool f.pub,aN f.params,.int .i64 f.result.kind,aN f.result.fields,.int .i64 f.effects,.int .i64 0,.int .i64 0,.str [],.str [],.sl [],.sl []])]=some (bY [bN dJ f]):=by
 have e:(AV.agg [.str f.name,.bool f.pub,aN f.params,.int .i64 f.result.kind,aN f.result.fields,.int .i64 f.effects,.int .i64 0,.int .i64 0,.str [],.str [],.sl [],.sl []])=(bN dJ f).av:=by
  rw[<- fa];rfl
 rw[e];exact pi _
theorem tB(call:FuncId->List AV->M AV)(K:List AV->M AV)(hS:∀t:Ty,t.Lim->call 49 [t.av,t.av]=M.pure (.bool true))(x:Fun)(hx:x.Lim)(hp:x.params.length<=1000)(s:Sig)(hs:s.params=x.params.map fun z:eQ=>z.2)(l0:List Fun)(h0:l0.length<=1000)(y0 y1 y2 y3 y4 y7 y8 y9 y10 y11 y12 y13 y14 y15 y16 y17 y18 y19 y21 y22 y23 y24 y31 y32 y33 y34 y35 y36:AV):∀(n j:Nat),x.params.length-j=n->j<=x.params.length->
  aj (L9_0 call aj K) [y0,y1,y2,y3,y4,.ip (ab s.av),.int .i64 (j:Int),y7,y8,y9,y10,y11,y12,y13,y14,y15,y16,y17,y18,y19,bY l0,y21,y22,y23,y24,.str x.name,.bool x.pub,aN x.params,.int .i64 x.result.kind,aN x.result.fields,.int .i64 x.effects,y31,y32,y33,y34,y35,y36]=K [y0,y1,y2,y3,y4,y7,y8,y9,y10,y11,y12,y13,y14,y15,y16,y17,y18,y19,bY (l0++[bN dJ x]),y21,y22,y23,y24]:=by
 have hsl:s.params.length=x.params.length:=by rw[hs,D7]
 intro n
 induction n with
 |zero=>
  intro j hn hj;have h1:¬(j:Int)<(x.params.length:Int):=by omega
  have e0:cR T false 47 [(0,.int .i64 0)]=some dJ.av:=rfl;have hce:ay 6 [] dJ.av=M.pure dJ.av:=by rw[aP (fM _),cr,dq]
  have ae:ab dJ.av=[.int .i64 0,.int .i64 0,.str [],.str [],.sl [],.sl []]:=rfl;have hb:=qR x;have hA:eE T 37 (bY l0) (bY [bN dJ x])=some (bY (l0++[bN dJ x])):=AW (by simp;omega);have hc1:∀l:List Fun,bj (bY l)=M.pure (bY l):=fun _=>rfl;generalize l0++[bN dJ x]=l1 at *;rw[FL9_0];simp -implicitDefEqProofs only[L9_0,aY,a7];simp -implicitDefEqProofs [h1,e0,hce,ae,hb,hA,hc1]
 |succ n ih=>
  intro j hn hj;have hlt:j<x.params.length:=by omega
  rw[<- ih (j+1) (by omega) (by omega)];have h1:(j:Int)<(x.params.length:Int):=by omega
  have i1:=yE (l:=s.params) (n:=(j:Int)) (by omega) (by omega);have i2:=nJ (l:=x.params) (n:=(j:Int)) (by omega) h1;rw[DT,D2 s.params j (by omega)]at i1;rw[DT,D2 x.params j hlt]at i2;have e:s.params[j]'(by omega)=x.params[j].2:=by simp only[hs,FF]
  rw[e]at i1;have hT:=hS x.params[j].2 (hx.pty _ (DV hlt));have hw:IntKind.i64.wrap ((j:Int)+1)=(j:Int)+1:=by rw[aU (by omega)];simp
  generalize x.params[j]=z at i1 i2 hT;rw[FL9_0];simp -implicitDefEqProofs only[L9_0,aY,a7];simp -implicitDefEqProofs [h1,hlt,i1,i2,hT,hw]
theorem tQ(call:FuncId->List AV->M AV)(hS:∀t:Ty,t.Lim->call 49 [t.av,t.av]=M.pure (.bool true))(m:Ap.Mod)(hm:m.Lim)(hfl:m.funcs.length<=1000)(hpl:∀x∈m.funcs,x.params.length<=1000)(f:Face)(hF:∀x∈m.funcs,call 37 [f.av,.str x.name]=M.pure (if x.pub=true then .tup [(dI x).av,.bool true]else .tup [sO.av,.bool false]))(y5 y6 y7 y8 y10 y11 y12 y13 y14 y15 y16 y17 y19 y20 y21 y22:AV):∀(n i:Nat),m.funcs.length-i=n->i<=m.funcs.length->
  aj (L9_1 call aj) [.ip (ab m.av),.bool true,.ip (ab f.av),.int .i64 ((((m.funcs.take i).filter (·.pub)).map (bN dJ)).length:Nat),.int .i64 (i:Nat),y5,y6,y7,y8,bY (m.funcs.take i).reverse,y10,y11,y12,y13,y14,y15,y16,y17,bY (((m.funcs.take i).filter (·.pub)).map (bN dJ)),y19,y20,y21,y22]=aj (L9_1 call aj) [.ip (ab m.av),.bool true,.ip (ab f.av),.int .i64 (((m.funcs.filter (·.pub)).map (bN dJ)).length:Nat),.int .i64 (m.funcs.length:Nat),y5,y6,y7,y8,bY m.funcs.reverse,y10,y11,y12,y13,y14,y15,y16,y17,bY ((m.funcs.filter (·.pub)).map (bN dJ)),y19,y20,y21,y22]:=by
 have hcs:∀s:Sig,aZ 5 s.av=M.pure s.av:=fun s=>qW s;intro n
 induction n with
 |zero=>
  intro i hn hi;obtain rfl:i=m.funcs.length:=by omega
  rw[EZ (DD _)]
 | succ n ih=>
  intro i hn hi;have hlt:i<m.funcs.length:=by omega
  refine Eq.trans ?_ (ih (i+1) (by omega) (by omega));have h1:(i:Int)<(m.funcs.length:Int):=by omega
  have hix:=wQ (l:=m.funcs) (n:=(i:Int)) (by omega) h1;rw[DT,D2 m.funcs i hlt]at hix;have hmem:=DV hlt;have hfind:=hF _ hmem;have hlx:=hm.fns _ hmem;have hpx:=hpl _ hmem;have ht:m.funcs.take (i+1)=m.funcs.take i++[m.funcs[i]]:=by rw[List.take_add_one,DR hlt];rfl
  have hti:(m.funcs.take i).length<=1000:=by rw[EA];omega
  rw[ht];generalize m.funcs.take i=P at *;generalize m.funcs[i]=x at *;have hlP:((P.filter (·.pub)).map (bN dJ)).length<=1000:=by rw[D7];exact EY (EQ _ _) hti
  have hcf:ay 12 [] x.av=M.pure x.av:=by rw[aP (fN x),dW,fa]
  have hb:=pi x;have hA:eE T 37 (bY [x]) (bY P.reverse)=some (bY (x:: P.reverse)):=AW (by simp;omega);have hr:(P++[x]).reverse=x:: P.reverse:=by simp
  have hw:IntKind.i64.wrap ((i:Int)+1)=((i+1:Nat):Int):=aU (by omega);have hc1:∀l:List Fun,bj (bY l)=M.pure (bY l):=fun _=>rfl;rw[hr];cases hp:x.pub with
  |false=>
   have e:(P++[x]).filter (·.pub)=P.filter (·.pub):=by simp[List.filter_append,hp]
   rw[e];rw[hp]at hfind;generalize (P.filter (·.pub)).map (bN dJ)=Q at *;generalize x:: P.reverse=R1 at *;generalize P.reverse=R0 at *;rw[FL9_1];simp -implicitDefEqProofs only[L9_1,K9_0,vH,aY,a7];simp -implicitDefEqProofs [h1,hlt,hix,hcf,hfind,hcs,hb,hA,hc1,hw];simp -implicitDefEqProofs [hp]
  |true=>
   have e:(P++[x]).filter (·.pub)=P.filter (·.pub)++[x]:=by simp[List.filter_append,hp]
   rw[e,GD];rw[hp]at hfind;have hin:=fun K=>tB call K hS x hlx hpx (dI x) rfl _ hlP;have hsr:=hS x.result hlx.result;have hw2:IntKind.i64.wrap ((((P.filter (·.pub)).map (bN dJ)).length:Int)+1)=((((P.filter (·.pub)).map (bN dJ)).length+1:Nat):Int):=aU (by omega);have hln:((P.filter (·.pub)).map (bN dJ)++[x].map (bN dJ)).length=((P.filter (·.pub)).map (bN dJ)).length+1:=by simp
   rw[hln];have hm1:[x].map (bN dJ)=[bN dJ x]:=rfl;rw[hm1];generalize (P.filter (·.pub)).map (bN dJ)=Q at *;generalize x:: P.reverse=R1 at *;generalize P.reverse=R0 at *;have hsp:(dI x).params.length=x.params.length:=by simp[dI]
   have hse:(dI x).effects=x.effects:=rfl;have hsx:(dI x).result=x.result:=rfl;have h9:=hin (K9_0 call aj (aj (L9_1 call aj))) (.ip (ab m.av)) (.bool true) (.ip (ab f.av)) (.int .i64 ((Q.length+1:Nat):Int)) (.int .i64 (i:Int)) y5 y6 y7 y8 (bY R1) y10 y11 y12 y13 y14 y15 y16 y17 y19 y20 y21 y22 (.int .i64 x.body.op) (.int .i64 x.body.n) (.str x.body.s) (.str x.body.m) (strs x.body.names) (bG x.body.args) x.params.length 0 rfl (Ef _);generalize dI x=s at *;rw[FL9_1];simp -implicitDefEqProofs only[L9_1,vH,aY,a7];simp -implicitDefEqProofs [h1,hlt,hix,hcf,hfind,hcs,hb,hA,hc1,hse,hsp,hsx,hsr,hw2];simp -implicitDefEqProofs [hp];simp -implicitDefEqProofs [hsx,hse,hp]at h9;refine h9.trans ?_;simp -implicitDefEqProofs only[K9_0,aY,a7];simp -implicitDefEqProofs [hw]
def ve(call:FuncId->List AV->M AV)(W:List AV->M AV)(m:Ap.Mod)(f:Face)(o0 o1 o2 o3 o4 o5 o6 o7 o8 l0 l1 l2 l3 l4 l5 l6 l7 l8:AV)(hn:f.module=m.name)(r1:call 27 [f.av]=M.pure (.bool true))(q1:call 42 [.agg [o0,o1,o2,o3,o4,o5,o6,o7,o8]]=M.pure f.av)(q2:call 42 [.agg [l0,l1,l2,l3,l4,l5,l6,l7,l8]]=M.pure f.av)(c1:call 39 [f.av,f.av]=M.pure (.bool true)):
  L9_1 call aj W [.ip (ab m.av),.bool true,.ip (ab f.av),.int .i64 (f.funcs.length:Nat),.int .i64 (m.funcs.length:Nat),o0,o1,o2,o3,o4,o5,o6,o7,o8,l0,l1,l2,l3,l4,l5,l6,l7,l8]=M.pure (.bool true):=by
 simp -implicitDefEqProofs only[L9_1,aY,a7];simp -implicitDefEqProofs [r1,q1,q2,c1];simp -implicitDefEqProofs [hn]
def tf(call:FuncId->List AV->M AV)(m:Ap.Mod)(f:Face)(sm:call 29 []=M.pure (.bool true))(hp:call 30 [m.av]=M.pure (.bool true))(hR:call 48 [m.av]=M.pure (.bool true))(hO:call 42 [m.av]=M.pure f.av):
  S9 call aj m.av=aj (L9_1 call aj) [.ip (ab m.av),.bool true,.ip (ab f.av),.int .i64 0,.int .i64 0,.str m.name,strs m.uses,aN m.vars,bG m.init,.sl [],.bool m.moves,aN m.old,bG m.forward,bG m.back,.str m.name,strs m.uses,aN m.vars,bG m.init,.sl [],.bool m.moves,aN m.old,bG m.forward,bG m.back]:=by
 have hcn:ay 9 [] m.av=M.pure m.av:=by rw[aP (i6 m),cu,lq]
 have hcf:aZ 2 f.av=M.pure f.av:=by rw[bv (nv f),fk,tq]
 simp -implicitDefEqProofs [S9,sm,hp,hR,hO,hcn,hcf]
def pZ{m:Ap.Mod}(hm:m.Lim)(l:List Fun)(h1:l.length<=140737488355328)(h2:∀f∈l,f.Lim):({ m with funcs:=l }:Ap.Mod).Lim:=⟨hm.uses,hm.vars,hm.vty,hm.init,hm.ies,h1,h2,hm.old,hm.oty,hm.forward,hm.fes,hm.back,hm.bes⟩
theorem vK{f:Fun}(h:f.Lim):(bN dJ f).Lim:=⟨h.params,h.pty,h.result,fun n=>by cases n with
 |zero=>trivial
 |succ n=>exact⟨by simp[bN,dJ,Exp.names],by simp[bN,dJ,Exp.args],fun x hx=>by simp[bN,dJ,Exp.args]at hx⟩⟩
theorem t9(m:Ap.Mod)(hm:m.Lim):ak pg 9 [m.av]=M.pure (.bool true):=by
 rw[C9];obtain⟨p,hp⟩:=CV m hm;have hR:=t48 m hm;have hO:=C0 m hm;cases p with
 |false=>simp[S9,jP,hp]
 | true=>
  cases hr:bO m with
  |false=>
   rw[hr]at hR;have e:mo m=fq:=by unfold mo;rw[hr];rfl
   rw[e]at hO;have hs:=t39 fq ⟨by simp[fq],fun s hs=>by simp[fq]at hs⟩;have e0:cR T false 24 []=some fq.av:=rfl;have hcf:aZ 2 fq.av=M.pure fq.av:=rfl;simp -implicitDefEqProofs [S9,jP,hp,hR,hO,hs,e0,hcf]
  | true=>
   rw[hr]at hR;have MK:=f4 hr;have hfl:=MK.flen;obtain⟨r1,r2⟩:=rF hr;obtain⟨r3,r4⟩:=tO hr rM;have limR:=pZ hm m.funcs.reverse (by simp;omega) (fun f hf=>hm.fns f (Gx.1 hf));have limP:=pZ hm ((m.funcs.filter (·.pub)).map (bN dJ)) (by
    rw[D7];exact EY (EQ _ _) (by omega)) (fun f hf=>by
    obtain⟨g,hg,rfl⟩:=Ey.1 hf;exact vK (hm.fns g (EW.1 hg).1))
   have q1:=C0 _ limR;have q2:=C0 _ limP;rw[r2]at q1;rw[r4]at q2;have lf:=xN hm;have fr:=xO hr;have g1:=t27 (mo m) lf;rw[fr]at g1;have hF:∀x∈m.funcs,ak pg 37 [(mo m).av,.str x.name]=M.pure (if x.pub=true then .tup [(dI x).av,.bool true]else .tup [sO.av,.bool false]):=fun x hx=>by
    have h:=t37 (mo m) lf fr x.name;rw[vo hr hx]at h;rw[h];cases x.pub<;>rfl
   have key:S9 (ak pg) aj m.av=M.pure (.bool true):=by
    rw[tf (ak pg) m (mo m) jP hp hR hO];have hlp:=tQ (ak pg) (fun t ht=>t49 _ t (DD _) ht) m hm (by omega) (fun x hx=>by have:=(MK.fns x hx).plen;omega) (mo m) hF (.str m.name) (strs m.uses) (aN m.vars) (bG m.init) (.bool m.moves) (aN m.old) (bG m.forward) (bG m.back) (.str m.name) (strs m.uses) (aN m.vars) (bG m.init) (.bool m.moves) (aN m.old) (bG m.forward) (bG m.back) m.funcs.length 0 rfl (Ef _);refine Eq.trans hlp ?_;rw[FL9_1,<- tN hr];exact ve (ak pg) _ m (mo m) _ _ _ _ _ _ _ _ _ _ _ _ _ _ _ _ _ _ (by rw[fL hr]) g1 q1 q2 (t39 _ lf)
   simp only[kU,key];exact fG true
end Go.Proofs.YteemeakjlfnapaaGreatDoor
namespace Go.Proofs.YteemeakjlfnapaaGreatDoor.faceOf
open Go Go.Av Go.Av.Ap Go.ChangeShapes Go.WideShapes Go.ChangeAt Go.RowKit Go.Joins Go.Deep
set_option maxRecDepth 1000000
def kids:Kids Tryz.prog (· < Tryz.prog.types.size):=kids_rows (by kernel_rfl) (by kernel_rfl)
def qx:∀t e,t<Tryz.prog.types.size->Tryz.prog.underlying t=some (.slice e)->0<Tryz.prog.cellsOf e:=slices_full_of Tryz.prog (by kernel_rfl)
def uT(H:Type)(enc:TypeId×Value->H)(W:World)(base:Nat)(args:Array Value)(ds gs:List (DataW H))(before:List MemPlace)(hval:∀(j:Nat) t v,Tryz.f9.params[j]? = some t->args[j]? = some v->Value.okWide Tryz.prog W .any base t v)(hW:DataW.Whole enc Tryz.prog Tryz.f9.params.toList Rows.faceOfSpec.vars false W args.toList ds gs before)(hz:(DataW.weightsEach Tryz.prog (Tryz.f9.params.toList++Rows.faceOfSpec.plain.varTypes Tryz.prog) (ds++gs)).all (· <=reachBytes)=true)(hL:laidMetH Tryz.prog Rows.faceOfRow.laid W)(hS:W.ShapedOpen Tryz.prog):
  Calls Tryz.prog 9 args W fun e W'=>∃v,e= .returned v/\Rows.faceOfSpec.post enc Tryz.prog Tryz.f9 false true false false W args v W':=by
 have hW':=hW;obtain⟨p,q,hA0,hV,rfl,hfz,hnd⟩:=hW;have hA:DataW.TrodAll enc Tryz.prog W 0 (fun _=>true) true Tryz.f9.params.toList args.toList ds p:=hA0;have hA1:=hA;rw[Tryz.params9]at hA hval hz;obtain⟨v0,vs0,d0,ds0,p0,q0,ha0,rfl,rfl,h0,r0⟩:=trodAll_cons hA;obtain⟨hnil,rfl,rfl⟩:=trodAll_nil r0;subst hnil;obtain rfl:args= #[v0]:=by cases args;simp_all
 obtain⟨rfl,rfl⟩:=trodVars_none hV;obtain⟨x0,k0,o0⟩:=qN (fun N=>(Ah N).le (Gf N)) (fun a=>rfl) Tryz.underlying41 (hval 0 41 v0 rfl rfl) h0 (q8 hz (j:=0) rfl rfl);clear hA0;simp only[Gb]at hW' hA1;have hlt:=hW'.lt;have hv:aG (hM W) [] [x0.av] [v0]:=by
  simp only[aG];exact⟨_,_,rfl,k0,rfl⟩
 refine (tG good hOther (zJ hL hS) hv (by rw[t9 x0 o0];rfl)).mono fun e W' ⟨he,hb⟩=>?_;subst he;exact⟨_,rfl,mE (pv:=[]) hW' (fun _ _ _=>trodAll_cons_mk (shut_bool Tryz.underlying4 _) trodAll_mk0) (fun sp hsp=>
   qO kids qx (by rw[Tryz.params9];decide +kernel) hA1 hlt hb sp hsp) (fun _ _=>rfl) (by simp)
  hb (ok_one (by kernel_rfl) rfl (okWide_bool_mk Tryz.underlying4 _))⟩
def reads(os:Os){H:Type}(enc:TypeId×Value->H):∃ds places,DataW.whole enc Tryz.prog ((jI os).forCall (fun _ _=>0) ⟨#[],#[.agg #[.string ⟨#[]⟩,.slice none 0 0,.slice none 0 0,.slice none 0 0,.slice none 0 0,.bool false,.slice none 0 0,.slice none 0 0,.slice none 0 0]],[]⟩).memory Tryz.f9.params.toList Rows.faceOfSpec.vars false #[.agg #[.string ⟨#[]⟩,.slice none 0 0,.slice none 0 0,.slice none 0 0,.slice none 0 0,.bool false,.slice none 0 0,.slice none 0 0,.slice none 0 0]].toList 8=some (ds,[],places):=
 ⟨[.agg [.lit (.string []),.nil,.nil,.nil,.nil,.lit (.bool false),.agg [.nil,.nil,.nil]]],[],by kernel_rfl⟩
def lifted(os:Os)(started:os.Started)(H:Type)(enc:TypeId×Value->H)(F:Stop.Interp):
  ReturnsInHanded {} Tryz.checked os 9 .any ((OpenSpec.ofChange Rows.faceOfSpec).preRow enc Tryz.prog Tryz.f9 Rows.faceOfRow.domain false Rows.faceOfRow.laid) (((OpenSpec.ofChange Rows.faceOfSpec).at F).post enc Tryz.prog Tryz.f9 false true false false):=by
 obtain⟨ds,places,hx⟩:=reads os enc;refine returnsInHanded_of_row (C:=Tryz.checked) (s:=OpenSpec.ofChange Rows.faceOfSpec) CY started (by kernel_rfl) Tryz.func9
  (witness_row_atRef (enc:=enc) (C:=Tryz.checked) false (jI os) #[.agg #[.string ⟨#[]⟩,.slice none 0 0,.slice none 0 0,.slice none 0 0,.slice none 0 0,.bool false,.slice none 0 0,.slice none 0 0,.slice none 0 0]] rfl (by kernel_rfl) (by kernel_rfl) (by kernel_rfl)
   (OpenSpec.preRow_of_cond 8 hx (by kernel_rfl) (fun k hk=>by cases hk) (by kernel_rfl) (vI os _))) ?_
 intro W base args ds gs before hval hW _ _ hz hL hS _;exact uT H enc W base args ds gs before hval hW hz hL hS
end Go.Proofs.YteemeakjlfnapaaGreatDoor.faceOf
