/- What the functions of the seat compute, part 5: the texts of the claim, one behind the other. Conditions: bounds, as each theorem names them. -/
import Derived.Test.YteemeakjlfnapaaGreatDoorTd
import Derived.Lib.SmallJoins
set_option linter.defProp false
set_option linter.unusedSimpArgs false
set_option linter.unusedVariables false
namespace Go.Proofs.YteemeakjlfnapaaGreatDoor
open Go Go.Av Go.Av.Ap
set_option maxRecDepth 100000
def qw{m:M AV}{v r:AV}{h':Hp}(e:m []= .ok v h')(f:ia 6 h' v=r):aE m=M.pure r:=by
 funext hp;unfold aE;rw[e];show R.ok (ia 6 h' v) hp=R.ok r hp;rw[f]
def cnt(t:Ty):az 2 [] (.agg [.int .i64 t.kind,aS t.fields])=M.pure (.agg [.int .i64 t.kind,aS t.fields]):=aV rfl
theorem we(k:Int)(es:List Exp):cE T false 47 [(0,.int .i64 k),(5,ca es)]=some (Exp.mk k 0 [] [] [] es).av:=rfl
def rI(e:Exp):aU 6 e.av=M.pure e.av:=by rw[bo (fS _),cv,dB]
def vS(e:Exp):az 6 [] e.av=M.pure e.av:=by rw[aV (fS _),cv,dB]
def f6(o n:Int)(s m:bG)(ns:List bG)(es:List Exp):AV.agg [.int .i64 o,.int .i64 n,.str s,.str m,strs ns,ca es]=(Exp.mk o n s m ns es).av:=dB (Exp.mk o n s m ns es)
def DF(o n:Int)(s m:bG)(es:List Exp):AV.agg [.int .i64 o,.int .i64 n,.str s,.str m,.sl [],ca es]=(Exp.mk o n s m [] es).av:=dB (Exp.mk o n s m [] es)
def sX(e:Exp)(n:Int):aE (M.pure (.tup [e.av,.int .i64 n]))=M.pure (.tup [e.av,.int .i64 n]):=bB fun g=>by simp[cl,dy]
def bm(o n:Int)(s m:bG)(ns:List bG)(es:List Exp):ab (Exp.mk o n s m ns es).av=[.int .i64 o,.int .i64 n,.str s,.str m,strs ns,ca es]:=cv _
def t226(e:Exp):ai pg 226 [e.av]=M.pure (.tup [(eU e).1.av,.int .i64 (eU e).2]):=by
 have hc1:∀n:Int,bu (.int .i64 n)=M.pure (.int .i64 n):=fun n=>rfl;have hc2:∀s:bG,bu (.str s)=M.pure (.str s):=fun s=>rfl;have hc3:∀s:List bG,bu (strs s)=M.pure (strs s):=fun s=>rfl;rw[C226];obtain⟨o,n,s,m,ns,es⟩:=e;have ho:o=0\/o=1\/o=2\/o=17\/o=18\/o=14\/o=16\/o=10\/o=12\/o=11\/o=13\/o=15\/(o≠0/\o≠1/\o≠2/\o≠17/\o≠18/\o≠14/\o≠16/\o≠10/\o≠12/\o≠11/\o≠13/\o≠15):=by omega
 rcases ho with rfl|rfl|rfl|rfl|rfl|rfl|rfl|rfl|rfl|rfl|rfl|rfl|⟨h0,h1,h2,h17,h18,h14,h16,h10,h12,h11,h13,h15⟩
 all_goals first
  | (simp[S226,K226_0,K226_1,K226_2,we,vS,bm,f6,DF,hc1,hc2,hc3,eU,Exp.op,Exp.n,Exp.s,Exp.m,Exp.names,Exp.args]
     exact sX _ _)
  | (simp[S226,K226_0,K226_1,K226_2,we,vS,bm,f6,DF,hc1,hc2,hc3,eU,Exp.op,Exp.n,Exp.s,Exp.m,Exp.names,Exp.args,h0,h1,h2,h17,h18,h14,h16,h10,h12,h11,h13,h15]
     exact sX _ _)
theorem wI(e:Exp)(he:e.Lim):ak (L227_0 (ai pg) ak) [.ip (ab e.av),strs e.names,.int .i64 e.names.length,.int .i64 0]=M.pure (.bool (wJ e.names)):=by
 have hlen:=he.names
 have hloop:∀(m i:Nat),e.names.length-i=m->i<=e.names.length->ak (L227_0 (ai pg) ak) [.ip (ab e.av),strs e.names,.int .i64 e.names.length,.int .i64 i]=M.pure (.bool ((List.range' i (e.names.length-i)).all (fun k=>bv e.names[k]! && (decide (k=0)||db e.names[k-1]! e.names[k]!))&&decide (e.names.length<=8))):=by
  intro m
  induction m with
  |zero=>
   intro i hm hi;rw[FL227_0,hm];have h1:¬((i:Int)<(e.names.length:Int)):=by omega
   have h2:decide ((e.names.length:Int)<=8)=decide (e.names.length<=8):=by rw[Fv];omega
   simp[L227_0,h1,h2]
  | succ m ih=>
   intro i hm hi;have hlt:i<e.names.length:=by omega
   have h1:(i:Int)<(e.names.length:Int):=by omega
   have ih':=ih (i+1) (by omega) (by omega);have er:List.range' i (e.names.length-i)=i:: List.range' (i+1) (e.names.length-(i+1)):=by
    rw[show e.names.length-i=(e.names.length-(i+1))+1 by omega,Gx]
   have hix:=uG (l:=e.names) (n:=(i:Int)) (by omega) h1;rw[En]at hix;have hw:IntKind.i64.wrap ((i:Int)+1)=((i+1:Nat):Int):=aX (by omega);have h2:=t76 e.names[i]!;rw[FL227_0,er,Fp];generalize e.names[i]! = s at hix h2 |-;cases hn:bv s with
   |false=>
    rw[hn]at h2;simp[L227_0,h1,hix,h2]
   | true=>
    rw[hn]at h2;rcases EO i with hk0|hk0
    ·subst hk0;have hix0:au T 35 (strs e.names) (.int .i64 0)=some (.ip (ab (.str s))):=hix;have hw0:IntKind.i64.wrap 1=1:=rfl;have hlt':0<e.names.length:=hlt;simpa [L227_0,h1,hlt',hix0,h2,hw0]using ih'
    ·have hp:IntKind.i64.wrap ((i:Int)-1)=((i-1:Nat):Int):=by
      rw[dw (by omega) (by omega)];omega
     have h4:((i-1:Nat):Int)<(e.names.length:Int):=by omega
     have hix2:=uG (l:=e.names) (n:=((i-1:Nat):Int)) (by omega) h4;rw[En]at hix2;generalize e.names[i-1]! = g at hix2 |-;have hk2:0<(i:Int):=by omega
     have hk3:¬i=0:=by omega
     have hle:ar T .leq 9 (.str s) (.str g)=some (.bool (!(db g s))):=by
      have:ar T .leq 9 (.str s) (.str g)=some (.bool (aC s g||s== g)):=rfl;rw[this];simp[db]
     cases hs:db g s with
     |false=>
      rw[hs]at hle;simp[L227_0,h1,hix,h2,hp,hix2,hk0,hk2,hk3,hle,-tr]
     |true=>
      rw[hs]at hle;simpa [L227_0,h1,hix,h2,hp,hix2,hk0,hk2,hk3,hle,hw,-tr]using ih'
 have h:=hloop e.names.length 0 rfl (EG _);rw[Gn,oB]at h;exact h
theorem t227(e:Exp)(he:e.Lim):ai pg 227 [e.av]=M.pure (.bool (eL e)):=by
 rw[C227];have hs:=t76 e.s;have hm:=t76 e.m;have hbn:=wI e he;obtain⟨o,n,s,m,ns,es⟩:=e;simp only[bm,Exp.names]at hbn;simp only[Exp.s,Exp.m]at hs hm;have ho:o=0\/o=1\/o=2\/o=17\/o=18\/o=14\/o=16\/o=12\/o=13\/o=15\/(o≠0/\o≠1/\o≠2/\o≠17/\o≠18/\o≠14/\o≠16/\o≠12/\o≠13/\o≠15):=by omega
 rcases ho with rfl|rfl|rfl|rfl|rfl|rfl|rfl|rfl|rfl|rfl|⟨h0,h1,h2,h17,h18,h14,h16,h12,h13,h15⟩
 ·simp[S227,K227_0,bm,eL,Exp.op,Exp.n,Exp.s,Exp.m,Exp.names,Exp.args];rfl
 ·simp[S227,K227_0,bm,eL,Exp.op,Exp.n,Exp.s,Exp.m,Exp.names,Exp.args]
 ·simp[S227,K227_0,bm,eL,Exp.op,Exp.n,Exp.s,Exp.m,Exp.names,Exp.args,hs]
 ·simp[S227,K227_0,bm,eL,Exp.op,Exp.n,Exp.s,Exp.m,Exp.names,Exp.args,hs]
 ·simp[S227,K227_0,bm,eL,Exp.op,Exp.n,Exp.s,Exp.m,Exp.names,Exp.args,hs]
 ·simp[S227,K227_0,bm,eL,Exp.op,Exp.n,Exp.s,Exp.m,Exp.names,Exp.args,hs]
 ·simp[S227,K227_0,bm,eL,Exp.op,Exp.n,Exp.s,Exp.m,Exp.names,Exp.args]
 ·simp[S227,K227_0,bm,eL,Exp.op,Exp.n,Exp.s,Exp.m,Exp.names,Exp.args,hs]
 ·simp[S227,K227_0,bm,eL,Exp.op,Exp.n,Exp.s,Exp.m,Exp.names,Exp.args,hbn]
 ·have e6:ar T .leq 3 (.int .i64 es.length) (.int .i64 6)=some (.bool (decide (es.length<=6))):=by
   have:ar T .leq 3 (.int .i64 es.length) (.int .i64 6)=some (.bool (decide ((es.length:Int)<=6))):=rfl;rw[this];exact Ee (fun b=>some (AV.bool b)) (Fv.2 (by omega))
  cases ha:bv s with
  |false=>rw[ha]at hs;simp[S227,K227_0,bm,eL,Exp.op,Exp.n,Exp.s,Exp.m,Exp.names,Exp.args,hs,ha]
  | true=>
   rw[ha]at hs;by_cases hme:m=[]
   ·simp[S227,K227_0,bm,eL,Exp.op,Exp.n,Exp.s,Exp.m,Exp.names,Exp.args,hs,ha,hme,e6,-iV];try rfl
   ·cases hb:bv m with
    |false=>rw[hb]at hm;simp[S227,K227_0,bm,eL,Exp.op,Exp.n,Exp.s,Exp.m,Exp.names,Exp.args,hs,hm,ha,hb,hme,e6,-iV];try rfl
    |true=>rw[hb]at hm;simp[S227,K227_0,bm,eL,Exp.op,Exp.n,Exp.s,Exp.m,Exp.names,Exp.args,hs,hm,ha,hb,hme,e6,-iV];try rfl
 ·simp[S227,K227_0,bm,eL,Exp.op,Exp.n,Exp.s,Exp.m,Exp.names,Exp.args,h0,h1,h2,h17,h18,h14,h16,h12,h13,h15]
theorem t178:∀(d:Nat),d<=100->∀(e:Exp),e.Lim->ai pg 178 [e.av,.int .i64 d]=M.pure (.bool (cW d e))
 |0,_,e,_=>by
  rw[C178];simp[S178,cW]
 | d+1,hd,e,he=>by
  have hlen:=he.len;have hd1:IntKind.i64.wrap (((d+1:Nat):Int)-1)=(d:Int):=oq (by omega);have hloop:∀(m i:Nat),e.args.length-i=m->i<=e.args.length->ak (L178_0 (ai pg) ak) [.int .i64 ((d+1:Nat):Int),ca e.args,.int .i64 e.args.length,.int .i64 i]=M.pure (.bool ((e.args.drop i).all (cW d))):=by
   intro m
   induction m with
   |zero=>
    intro i hm hi;have h1:¬((i:Int)<(e.args.length:Int)):=by omega
    have h2:e.args.drop i=[]:=E0 (by omega);rw[FL178_0,h2];simp[L178_0,h1]
   |succ m ih=>
    intro i hm hi;have hlt:i<e.args.length:=by omega
    have h1:(i:Int)<(e.args.length:Int):=by omega
    have h2:e.args.drop i=e.args[i]:: e.args.drop (i+1):=EI hlt;have hix:=uH (l:=e.args) (n:=(i:Int)) (by omega) h1;rw[En,Eu e.args i hlt]at hix;have hw:IntKind.i64.wrap ((i:Int)+1)=((i+1:Nat):Int):=aX (by omega);have hb:=t178 d (by omega) e.args[i] (he.kid (Es hlt));have ih':=ih (i+1) (by omega) (by omega);rw[h2,Fp,FL178_0];generalize e.args[i]=x at hix hb |-;cases hr:cW d x<;>rw[hr]at hb <;>
    simp only[L178_0,bd,bw,bP,aT,h1,Ff,bb,EW,hix,cv,LD47,Et,Ex,Er,Nat.reduceAdd,Eb,EL,EY,dB,rI,aY,oE,hd1,hb,kZ,GO,FG,EN,Fc,e9,hw,ih',GN,Fi]
  have hx':ak (L178_0 (ai pg) ak) [.int .i64 ((d:Int)+1),ca e.args,.int .i64 e.args.length,.int .i64 0]=M.pure (.bool (e.args.all (cW d))):=hloop e.args.length 0 rfl (EG _);have hc:=t226 e;have hl:=t227 e he;rw[C178,qO];unfold sD;generalize (eU e).1=c at hc |-;generalize (eU e).2=n at hc |-;have g1:(((d:Int)+1)== 0)=false:=by rw[E4];omega
  have x0:bh (.tup [c.av,.int .i64 n]) 0=some c.av:=rfl;have x1:bh (.tup [c.av,.int .i64 n]) 1=some (.int .i64 n):=rfl;have e1:ar T .neq 3 (.int .i64 c.n) (.int .i64 e.n)=some (.bool (!(c.n== e.n))):=rfl;have e2:ar T .neq 9 (.str c.s) (.str e.s)=some (.bool (!(c.s== e.s))):=rfl;have e3:ar T .neq 9 (.str c.m) (.str e.m)=some (.bool (!(c.m== e.m))):=rfl;have e4:ar T .neq 3 (.int .i64 c.names.length) (.int .i64 e.names.length)=some (.bool (!((c.names.length:Int)== (e.names.length:Int)))):=rfl;have e5:ar T .neq 3 (.int .i64 n) (.int .i64 e.args.length)=some (.bool (!(n== (e.args.length:Int)))):=rfl;have e6:ar T .geq 3 (.int .i64 n) (.int .i64 0)=some (.bool (!(decide (n<0)))):=by
   have:ar T .geq 3 (.int .i64 n) (.int .i64 0)=some (.bool (decide (0<=n))):=rfl;rw[this,<- decide_not];exact Ee (fun b=>some (AV.bool b)) (Fv.2 (by omega))
  have e7:ar T .lss 3 (.int .i64 e.op) (.int .i64 0)=some (.bool (!(decide (0<=e.op)))):=by
   have:ar T .lss 3 (.int .i64 e.op) (.int .i64 0)=some (.bool (decide (e.op<0))):=rfl;rw[this,<- decide_not];exact Ee (fun b=>some (AV.bool b)) (Fv.2 (by omega))
  have e8:ar T .geq 3 (.int .i64 e.op) (.int .i64 19)=some (.bool (!(decide (e.op<19)))):=by
   have:ar T .geq 3 (.int .i64 e.op) (.int .i64 19)=some (.bool (decide (19<=e.op))):=rfl;rw[this,<- decide_not];exact Ee (fun b=>some (AV.bool b)) (Fv.2 (by omega))
  generalize (c.n== e.n)=b1 at e1 |-;generalize (c.s== e.s)=b2 at e2 |-;generalize (c.m== e.m)=b3 at e3 |-;generalize ((c.names.length:Int)== (e.names.length:Int))=b4 at e4 |-;generalize (n== (e.args.length:Int))=b5 at e5 |-;generalize decide (n<0)=b6 at e6 |-;generalize decide (0<=e.op)=b7 at e7 |-;generalize decide (e.op<19)=b8 at e8 |-;generalize eL e=bl at hl |-;generalize e.args.all (cW d)=bx at hx' |-;cases b7 with
  |false=>simp[S178,g1,e7,-bP]
  | true=>
   cases b8 with
   |false=>simp[S178,g1,e7,e8,-bP,-sQ]
   |true=>
    cases b6<;>cases b5<;>cases b1<;>cases b2<;>cases b3<;>cases b4<;>cases bl<;>simp[S178,g1,hc,x0,x1,rI,hl,hx',e1,e2,e3,e4,e5,e6,e7,e8,-bP,-sQ,-xE]
def t118(e:Exp)(he:e.Lim):ai pg 118 [e.av]=M.pure (.bool (tj e)):=by
 have hb':ai pg 178 [e.av,.int .i64 12]=M.pure (.bool (cW 12 e)):=t178 12 (by omega) e he;rw[C118];simp[S118,hb']
def setRow(ns:List bG):List AV:=ns.map fun s=>.tup [.str s,.bool true]
theorem Ai(a b:bG):uE T 20 9 (.str a) (.str b)=some (a== b):=rfl
theorem jU(s:bG):(ns:List bG)->(i:Nat)->(ns.contains s=false/\fo T 9 (.str s) (setRow ns) i=some none)\/(ns.contains s=true/\∃(j:Nat)(k:AV),fo T 9 (.str s) (setRow ns) i=some (some (j,k,.bool true)))
 |[],i=>.inl ⟨rfl,rfl⟩
 | x:: ns,i=>by
  show (_/\fo T 9 (.str s) (.tup [.str x,.bool true]:: setRow ns) i=_)\/(_/\∃(j:Nat)(k:AV),fo T 9 (.str s) (.tup [.str x,.bool true]:: setRow ns) i=_);unfold fo;rw[Ai,List.contains_cons];cases h:s== x with
  |true=>exact .inr ⟨rfl,i,.str x,rfl⟩
  |false=>
   rcases jU s ns (i+1)with⟨h1,h2⟩|⟨h1,j,k,h2⟩
   ·exact .inl ⟨by rw[h1];rfl,h2⟩
   ·exact .inr ⟨by rw[h1];rfl,j,k,h2⟩
theorem md{h:Hp}{l:Nat}{ns:List bG}(hl:h[l]? = some [.tup (setRow ns)])(s:bG):fQ T 130 (.mp l) (.str s) false h= .ok (.bool (ns.contains s)) h:=by
 have e:ma T 130 (setRow ns) (.str s) false=(match fo T 9 (.str s) (setRow ns) 0 with
   |some (some (_,_,v))=>some v
   |some none=>some (.bool false)
   |none=>none):=rfl
 unfold fQ i6;simp only[hl];rw[e];rcases jU s ns 0 with⟨h1,h2⟩|⟨h1,j,k,h2⟩
 ·rw[h2,h1]
 ·rw[h2,h1]
theorem pb{h:Hp}{l:Nat}{ns:List bG}(hl:h[l]? = some [.tup (setRow ns)])(s:bG)(hs:ns.contains s=false):mZ T 130 (.mp l) (.str s) (.bool true) h= .ok (.tup []) (h.set l [.tup (setRow (ns++[s]))]):=by
 have e:mZ T 130 (.mp l) (.str s) (.bool true) h=(match h[l]? with
   |some [.tup es]=>(match uv T 9 es (.str s) (.bool true)with
    |some es'=>.ok (.tup []) (h.set l [.tup es'])
    |none=>.fail)
   |_=>.fail):=rfl
 rw[e,hl];simp only;unfold uv;rcases jU s ns 0 with⟨h1,h2⟩|⟨h1,j,k,h2⟩
 ·rw[h2];simp[setRow]
 ·rw[h1]at hs;cases hs
theorem ym(l:List eC)(hb:l.length<=140737488355328)(ht:∀f∈l,f.2.Lim)(most:Int)(q:Nat):∀(n i:Nat),l.length-i=n->i<=l.length->∀(seen:List bG)(h:Hp),h[q]? = some [.tup (setRow seen)]->
  ∃h',ak (L117_0 (ai pg) ak) [aS l,.int .i64 most,.mp q,aS l,.int .i64 l.length,.int .i64 i] h= .ok (.bool (o6 seen (l.drop i)&&decide ((l.length:Int)<=most))) h':=by
 intro n
 induction n with
 |zero=>
  intro i hn hi seen h hq;rw[FL117_0];have h1:¬((i:Int)<(l.length:Int)):=by omega
  have h2:l.drop i=[]:=E0 (by omega);rw[h2];exact⟨h,by simp[L117_0,h1,o6,M.pure]⟩
 | succ n ih=>
  intro i hn hi seen h hq;have hlt:i<l.length:=by omega
  have h1:(i:Int)<(l.length:Int):=by omega
  have h2:l.drop i=l[i]:: l.drop (i+1):=EI hlt;have hw:IntKind.i64.wrap ((i:Int)+1)=((i+1:Nat):Int):=aX (by omega);have hix:=py (l:=l) (n:=(i:Int)) (by omega) h1;rw[En,Eu l i hlt]at hix;have hfl:=ht _ (Es hlt);have ih':=fun s=>ih (i+1) (by omega) (by omega) (seen++[s]) (h.set q [.tup (setRow (seen++[s]))]);have hql:q<h.length:=(ES.1 hq).1;rw[h2];generalize l[i]=f at hix hfl |-;have hlk:=md hq f.1;have hnm:=t76 f.1;have hty:=t47 f.2 hfl;have hcf:aU 3 (cq f)=M.pure (cq f):=by rw[bo (jq f),d9,gP]
  generalize hcode:ak (L117_0 (ai pg) ak) [aS l,.int .i64 most,.mp q,aS l,.int .i64 l.length,.int .i64 i] h=code;rw[FL117_0]at hcode;simp -implicitDefEqProofs only[L117_0,bd,bw,bP,aT,h1,Ff,bb,EW,hix,d9,LD76,Et,Ex,Er,Nat.reduceAdd,Eb,EL,EY,gP,hcf,aY,FA76_0,FA76_1,ER,Fu,LD9]at hcode;rw[cB hlk]at hcode;have eo:o6 seen (f:: l.drop (i+1))=(!(seen.contains f.1)&&bv f.1&&bM f.2&&o6 (seen++[f.1]) (l.drop (i+1))):=rfl;rw[eo];cases hc:seen.contains f.1 with
  |true=>
   rw[hc]at hcode;refine⟨h,?_⟩;rw[<- hcode];simp[M.pure]
  | false=>
   rw[hc]at hcode;cases hn2:bv f.1 with
   |false=>
    rw[hn2]at hnm;refine⟨h,?_⟩;rw[<- hcode];simp[hnm,M.pure]
   | true=>
    rw[hn2]at hnm;cases hr:bM f.2 with
    |false=>
     rw[hr]at hty;refine⟨h,?_⟩;rw[<- hcode];simp[hnm,hty,M.pure]
    |true=>
     rw[hr]at hty;obtain⟨h',e'⟩:=ih' f.1 (by rw[FM hql]);refine⟨h',?_⟩;have hp:=pb hq f.1 hc;rw[<- hcode];simp -implicitDefEqProofs only[hnm,hty,aY,cO,kZ,FG,GO,bd,kM,bb,EN,Fc,LD27,Et,Ex,Er,Nat.reduceAdd,Eb,EW,EL,EY,eE,aT];rw[cB hp];simp only[e9,aT,hw,e',Fi]
theorem t117(l:List eC)(hb:l.length<=140737488355328)(ht:∀f∈l,f.2.Lim)(most:Int):ai pg 117 [aS l,.int .i64 most]=M.pure (.bool (dC l most)):=by
 obtain⟨h',e⟩:=ym l hb ht most 0 l.length 0 rfl (EG _) [] ([]++[[.tup []]]) rfl;rw[ER]at e;rw[C117];funext hp;have key:S117 (ai pg) ak (cl ax (aS l)) (cl ax (.int .i64 most)) []= .ok (.bool (dC l most)) h':=by
  rw[kU,oG];have hn:fa []= .ok (.mp 0) ([]++[[.tup []]]):=rfl;simp -implicitDefEqProofs only[S117];rw[cB hn];simp only[uJ,aT];exact e
 show aE _ hp=R.ok (.bool (dC l most)) hp;unfold aE;rw[key];rfl
def t119(l:List Exp)(hb:l.length<=140737488355328)(ht:∀e∈l,e.Lim)(n:Int):ai pg 119 [ca l,.int .i64 n]=M.pure (.bool (l.all tj&&((l.length:Int)== n))):=by
 have hloop:∀(m i:Nat),l.length-i=m->i<=l.length->ak (L119_0 (ai pg) ak) [ca l,.int .i64 n,ca l,.int .i64 l.length,.int .i64 i]=M.pure (.bool ((l.drop i).all tj&&((l.length:Int)== n))):=by
  intro m
  induction m with
  |zero=>
   intro i hm hi;rw[FL119_0];have h1:¬((i:Int)<(l.length:Int)):=by omega
   have h2:l.drop i=[]:=E0 (by omega);simp[L119_0,h1,h2]
  |succ m ih=>
   intro i hm hi;have hlt:i<l.length:=by omega
   have h1:(i:Int)<(l.length:Int):=by omega
   have h2:l.drop i=l[i]:: l.drop (i+1):=EI hlt;have hw:IntKind.i64.wrap ((i:Int)+1)=((i+1:Nat):Int):=aX (by omega);have hix:=uH (l:=l) (n:=(i:Int)) (by omega) h1;rw[En,Eu l i hlt]at hix;have hr:=t118 l[i] (ht _ (Es hlt));have ih':=ih (i+1) (by omega) (by omega);rw[h2,Fp,FL119_0];generalize l[i]=e at hix hr |-;cases hb2:tj e<;>rw[hb2]at hr <;>
   simp only[L119_0,bd,bw,bP,aT,h1,Ff,bb,EW,hix,cv,LD47,Et,Ex,Er,Nat.reduceAdd,Eb,EL,EY,dB,rI,aY,hr,kZ,FG,GO,EN,Fc,e9,hw,ih',Fi,GN]
 have h:=hloop l.length 0 rfl (EG _);rw[ER]at h;have h':ak (L119_0 (ai pg) ak) [ca l,.int .i64 n,ca l,.int .i64 l.length,.int .i64 0]=M.pure (.bool (l.all tj&&((l.length:Int)== n))):=h;rw[C119];simp[S119,h']
def xX(f:Fun):aU 12 f.av=M.pure f.av:=by rw[bo (eO f),dE,eJ]
theorem yq(m:Ap.Mod)(hm:m.Lim)(q:Nat)(R:Bool)(hend:∀h:Hp,∃h',ak (L48_0 (ai pg) ak) [.ip (ab m.av),.mp q,bI m.funcs,.int .i64 m.funcs.length,.int .i64 m.funcs.length] h= .ok (.bool R) h'):∀(n i:Nat),m.funcs.length-i=n->i<=m.funcs.length->∀(seen:List bG)(h:Hp),h[q]? = some [.tup (setRow seen)]->
  ∃h',ak (L48_0 (ai pg) ak) [.ip (ab m.av),.mp q,bI m.funcs,.int .i64 m.funcs.length,.int .i64 i] h= .ok (.bool (iz seen (m.funcs.drop i)&&R)) h':=by
 have hb:=hm.funcs;intro n
 induction n with
 |zero=>
  intro i hn hi seen h hq;have h2:m.funcs.drop i=[]:=E0 (by omega);obtain rfl:i=m.funcs.length:=by omega
  rw[h2];exact hend h
 | succ n ih=>
  intro i hn hi seen h hq;have hlt:i<m.funcs.length:=by omega
  have h1:(i:Int)<(m.funcs.length:Int):=by omega
  have h2:m.funcs.drop i=m.funcs[i]:: m.funcs.drop (i+1):=EI hlt;have hw:IntKind.i64.wrap ((i:Int)+1)=((i+1:Nat):Int):=aX (by omega);have hix:=uI (l:=m.funcs) (n:=(i:Int)) (by omega) h1;rw[En,Eu m.funcs i hlt]at hix;have hfl:=hm.fns _ (Es hlt);have ih':=fun s=>ih (i+1) (by omega) (by omega) (seen++[s]) (h.set q [.tup (setRow (seen++[s]))]);have hql:q<h.length:=(ES.1 hq).1;rw[h2];generalize m.funcs[i]=f at hix hfl |-;have hlk:=md hq f.name;have hnm:=t76 f.name;have hps:=t117 f.params hfl.params hfl.pty 6;have hty:=t47 f.result hfl.result;have hre:=t118 f.body hfl.body;have hex:ar T .andNot 3 (.int .i64 f.effects) (.int .i64 15)=some (.int .i64 (dn f.effects 15)):=rfl;generalize hcode:ak (L48_0 (ai pg) ak) [.ip (ab m.av),.mp q,bI m.funcs,.int .i64 m.funcs.length,.int .i64 i] h=code;rw[FL48_0]at hcode;simp -implicitDefEqProofs only[L48_0,bd,bw,bP,aT,h1,Ff,bb,EW,hix,dE,LD73,Et,Ex,Er,Nat.reduceAdd,Eb,EL,EY,eJ,xX,aY,FA73_0,ER,LD9]at hcode;rw[cB hlk]at hcode;have eo:iz seen (f:: m.funcs.drop (i+1))=(!(seen.contains f.name)&&je f&&iz (seen++[f.name]) (m.funcs.drop (i+1))):=rfl;rw[eo];unfold je;cases hc:seen.contains f.name with
  |true=>
   rw[hc]at hcode;refine⟨h,?_⟩;rw[<- hcode];simp[M.pure]
  | false=>
   rw[hc]at hcode;cases hn2:bv f.name with
   |false=>rw[hn2]at hnm;refine⟨h,?_⟩;rw[<- hcode];simp[hnm,M.pure]
   | true=>
    rw[hn2]at hnm;cases hp2:dC f.params 6 with
    |false=>rw[hp2]at hps;refine⟨h,?_⟩;rw[<- hcode];simp[hnm,hps,M.pure]
    | true=>
     rw[hp2]at hps;cases hr:bM f.result with
     |false=>rw[hr]at hty;refine⟨h,?_⟩;rw[<- hcode];simp[hnm,hps,hty,M.pure]
     | true=>
      rw[hr]at hty;cases hrb:tj f.body with
      |false=>rw[hrb]at hre;refine⟨h,?_⟩;rw[<- hcode];simp[hnm,hps,hty,hre,M.pure]
      | true=>
       rw[hrb]at hre;by_cases he:dn f.effects 15=0
       ·obtain⟨h',e'⟩:=ih' f.name (by rw[FM hql]);refine⟨h',?_⟩;have hp:=pb hq f.name hc;rw[<- hcode];have e'':=e';simp only[bZ]at e'';simp[hnm,hps,hty,hre,hex,he];rw[cB hp];simpa [hw]using e''
       ·refine⟨h,?_⟩;rw[<- hcode];have he':(dn f.effects 15== 0)=false:=E4.2 he;simp[hnm,hps,hty,hre,hex,he,he',M.pure]
def B5(m:Ap.Mod)(hm:m.Lim)(q:Nat)(h:Hp):∃h',ak (L48_0 (ai pg) ak) [.ip (ab m.av),.mp q,bI m.funcs,.int .i64 m.funcs.length,.int .i64 m.funcs.length] h= .ok (.bool (kN m)) h':=by
 have hnm:=t76 m.name;have hv:=t117 m.vars hm.vars hm.vty 8;have hi:=t119 m.init hm.init hm.ies m.vars.length;have ho:=t117 m.old hm.old hm.oty 8;have hf:=fun n=>t119 m.forward hm.forward hm.fes n;have hb:=t119 m.back hm.back hm.bes m.old.length;refine⟨h,?_⟩;rw[FL48_0];unfold kN;generalize dC m.vars 8=b1 at hv |-;generalize (m.init.all tj&&((m.init.length:Int)== (m.vars.length:Int)))=b2 at hi |-;generalize dC m.old 8=b3 at ho |-;generalize (m.back.all tj&&((m.back.length:Int)== (m.old.length:Int)))=b4 at hb |-;cases hn:bv m.name with
 |false=>rw[hn]at hnm;simp[L48_0,hnm,M.pure]
 | true =>
  rw[hn]at hnm;by_cases hu:m.uses.length<=12
  ·have hu':¬(12<(m.uses.length:Int)):=by omega
   by_cases hfn:m.funcs.length<=30
   ·have hfn':¬(30<(m.funcs.length:Int)):=by omega
    cases b1 with
    |false=>simp[L48_0,hnm,hu,hu',hfn,hfn',hv,M.pure]
    | true=>
     cases b2 with
     |false=>simp[L48_0,hnm,hu,hu',hfn,hfn',hv,hi,M.pure]
     | true=>
      cases hmv:m.moves with
      |true=>
       have hfv:=hf m.vars.length;rw[Ef rfl];generalize (m.forward.all tj&&((m.forward.length:Int)== (m.vars.length:Int)))=b5 at hfv |-;cases b3<;>cases b5<;>cases b4<;>simp[L48_0,K48_0,hnm,hu,hu',hfn,hfn',hv,hi,ho,hfv,hb,hmv,M.pure]
      | false=>
       have hfv:=hf 0;rw[if_neg (by decide)];generalize (m.forward.all tj&&((m.forward.length:Int)== 0))=b5 at hfv |-;by_cases hz:0<m.old.length
       ·have hz':0<(m.old.length:Int):=by omega
        have hz2:¬m.old.length=0:=by omega
        simp[L48_0,K48_0,hnm,hu,hu',hfn,hfn',hv,hi,hmv,hz,hz',hz2,M.pure]
       ·have hz':¬0<(m.old.length:Int):=by omega
        have hz2:m.old.length=0:=by omega
        have hb0:ai pg 119 [ca m.back,.int .i64 0]=M.pure (.bool b4):=by
         rw[hz2]at hb;exact hb
        cases b3<;>cases b5<;>cases b4<;>simp[L48_0,K48_0,hnm,hu,hu',hfn,hfn',hv,hi,ho,hfv,hb0,hmv,hz,hz',hz2,M.pure]
   ·have hfn':30<(m.funcs.length:Int):=by omega
    simp[L48_0,hnm,hu,hu',hfn,hfn',M.pure]
  ·have hu':12<(m.uses.length:Int):=by omega
   simp[L48_0,hnm,hu,hu',M.pure]
theorem yr(m:Ap.Mod)(hm:m.Lim)(q:Nat)(R:Bool)(hend:∀h:Hp,∃h',ak (L48_1 (ai pg) ak) [.ip (ab m.av),.mp q,strs m.uses,.int .i64 m.uses.length,.int .i64 m.uses.length] h= .ok (.bool R) h'):∀(n i:Nat),m.uses.length-i=n->i<=m.uses.length->∀(seen:List bG)(h:Hp),h[q]? = some [.tup (setRow seen)]->
  ∃h',ak (L48_1 (ai pg) ak) [.ip (ab m.av),.mp q,strs m.uses,.int .i64 m.uses.length,.int .i64 i] h= .ok (.bool (ut seen (m.uses.drop i)&&R)) h':=by
 have hb:=hm.uses;intro n
 induction n with
 |zero=>
  intro i hn hi seen h hq;have h2:m.uses.drop i=[]:=E0 (by omega);obtain rfl:i=m.uses.length:=by omega
  rw[h2];exact hend h
 | succ n ih=>
  intro i hn hi seen h hq;have hlt:i<m.uses.length:=by omega
  have h1:(i:Int)<(m.uses.length:Int):=by omega
  have h2:m.uses.drop i=m.uses[i]:: m.uses.drop (i+1):=EI hlt;have hw:IntKind.i64.wrap ((i:Int)+1)=((i+1:Nat):Int):=aX (by omega);have hix:=uG (l:=m.uses) (n:=(i:Int)) (by omega) h1;rw[En,Eu m.uses i hlt]at hix;have ih':=fun s=>ih (i+1) (by omega) (by omega) (seen++[s]) (h.set q [.tup (setRow (seen++[s]))]);have hql:q<h.length:=(ES.1 hq).1;rw[h2];generalize m.uses[i]=s at hix |-;have hlk:=md hq s;have hnm:=t76 s;generalize hcode:ak (L48_1 (ai pg) ak) [.ip (ab m.av),.mp q,strs m.uses,.int .i64 m.uses.length,.int .i64 i] h=code;rw[FL48_1]at hcode;simp -implicitDefEqProofs only[L48_1,bd,bw,bP,aT,h1,Ff,bb,EW,hix,iD,LD9]at hcode;rw[cB hlk]at hcode;have eo:ut seen (s:: m.uses.drop (i+1))=(!(seen.contains s)&&bv s&&ut (seen++[s]) (m.uses.drop (i+1))):=rfl;rw[eo];cases hc:seen.contains s with
  |true=>
   rw[hc]at hcode;refine⟨h,?_⟩;rw[<- hcode];simp[M.pure]
  | false=>
   rw[hc]at hcode;cases hn2:bv s with
   |false=>rw[hn2]at hnm;refine⟨h,?_⟩;rw[<- hcode];simp[hnm,M.pure]
   |true=>
    rw[hn2]at hnm;obtain⟨h',e'⟩:=ih' s (by rw[FM hql]);refine⟨h',?_⟩;have hp:=pb hq s hc;rw[<- hcode];have e'':=e';simp only[bZ]at e'';simp[hnm];rw[cB hp];simpa [hw]using e''
theorem t48(m:Ap.Mod)(hm:m.Lim):ai pg 48 [m.av]=M.pure (.bool (bJ m)):=by
 have hend:∀h:Hp,∃h',ak (L48_1 (ai pg) ak) [.ip (ab m.av),.mp 0,strs m.uses,.int .i64 m.uses.length,.int .i64 m.uses.length] h= .ok (.bool (iz [] m.funcs&&kN m)) h':=fun h=>by
  have h1:¬((m.uses.length:Int)<(m.uses.length:Int)):=by omega
  obtain⟨h',e⟩:=yq m hm h.length (kN m) (fun h=>B5 m hm _ h) m.funcs.length 0 rfl (EG _) [] (h++[[.tup []]]) (by simp[setRow]);rw[ER]at e;refine⟨h',?_⟩;rw[FL48_1];have hn:fa h= .ok (.mp h.length) (h++[[.tup []]]):=rfl;simp only[bZ]at e;simp -implicitDefEqProofs only[L48_1,bd,bw,bP,aT,h1,Gl,bb,EN,Fc];rw[cB hn];simp only[bZ,FA41_4,Fu,ER,aT,LD37,zp];exact e
 obtain⟨h',e⟩:=yr m hm 0 _ hend m.uses.length 0 rfl (EG _) [] ([]++[[.tup []]]) rfl;rw[ER]at e;rw[C48];funext hp;have key:S48 (ai pg) ak (cl ax m.av) []= .ok (.bool (bJ m)) h':=by
  have hn:fa []= .ok (.mp 0) ([]++[[.tup []]]):=rfl;simp only[bZ]at e;rw[jQ];simp -implicitDefEqProofs only[S48];rw[cB hn];simp only[bZ,FA41_1,Fu,ER,aT,LD35,zn];exact e
 show aE _ hp=R.ok (.bool (bJ m)) hp;unfold aE;rw[key];rfl
def Cq(x:Sig):(ab x.av).length=5:=by simp
def tv(h:Hp)(v:AV)(l:List Sig):Prop:=(l=[]/\v= .hn)\/(l≠[]/\∃q,v= .hs q 0 l.length 5 true/\h[q]? = some (rowOf Sig.av l))
theorem sg:(l:List Sig)->(rowOf Sig.av l).all aL=true
 |[]=>rfl
 |f:: l=>by
  rw[gm,List.all_append,sg l,Gw,dF];rfl
def uL{h:Hp}{v:AV}{l:List Sig}(A:tv h v l)(hl:l.length<=1000000)(s:Sig):∃v' h',appH T 22 false v (sigs [s]) h= .ok v' h'/\tv h' v' (l++[s])/\bu v'=M.pure v':=by
 rcases A with⟨rfl,rfl⟩|⟨hne,q,rfl,hq⟩
 ·have e2:=BN (T:=T) (t:=22) (e:=56) rfl rfl rfl (x:=s.av) (gW s) (by decide) (by decide) (by decide) h;refine⟨_,_,e2,.inr ⟨by simp,h.length,rfl,?_⟩,rfl⟩;simp[rowOf]
 ·have hln:=ew (f:=Sig.av) Cq l;have e2:=BO (T:=T) (t:=22) (e:=56) rfl rfl rfl (x:=s.av) (gW s) (by decide) (by decide) hq (sg l) hln (FI.2 hne) (show (l.length+1)*80<=140737488355328 by omega);refine⟨_,_,e2,.inr ⟨by simp,h.length,by rw[EJ];rfl,?_⟩,rfl⟩;simp[rowOf]
theorem yy(V:List AV->M AV)(m:Ap.Mod)(f:Fun)(hf:FunOk f)(i:Nat)(hv x3 x4:AV)(h:Hp):∀(k j:Nat)(acc:List Ty),f.params.length-j=k->j<=f.params.length->acc.length<=j->
  ak (L42_0 (ai pg) ak V) [bI m.funcs,.int .i64 m.funcs.length,.int .i64 i,aS f.params,.int .i64 f.params.length,.int .i64 j,x3,x4,.str m.name,hv,.str f.name,jK acc,.int .i64 f.result.kind,aS f.result.fields,.int .i64 f.effects] h=af (appH T 22 false hv (sigs [⟨f.name,acc++(f.params.drop j).map (·.2),f.result,f.effects⟩])) (fun v=>af (bu v) fun _=>V [bI m.funcs,.int .i64 m.funcs.length,.int .i64 (IntKind.i64.wrap ((i:Int)+1)),x3,x4,.str m.name,v]) h:=by
 have hpl:=hf.plen;intro k
 induction k with
 |zero=>
  intro j acc hk hj ha;have h1:¬((j:Int)<(f.params.length:Int)):=by omega
  have h2:f.params.drop j=[]:=E0 (by omega);have b1:bn T 22 1 [(0,.agg [.str f.name,jK acc,.int .i64 f.result.kind,aS f.result.fields,.int .i64 f.effects])]=some (sigs [⟨f.name,acc,f.result,f.effects⟩]):=rfl;rw[FL42_0,h2];simp only[L42_0,bd,bw,bP,aT,h1,Gl,bb,EN,Fc,b1,e9,List.map_nil,GI]
 |succ k ih=>
  intro j acc hk hj ha;have hlt:j<f.params.length:=by omega
  have h1:(j:Int)<(f.params.length:Int):=by omega
  have h2:f.params.drop j=f.params[j]:: f.params.drop (j+1):=EI hlt;have hw:IntKind.i64.wrap ((j:Int)+1)=(j:Int)+1:=aX (by omega);have hix:=py (l:=f.params) (n:=(j:Int)) (by omega) h1;rw[En,Eu f.params j hlt]at hix;have hcl:=t104 f.params[j].2 (hf.pars _ (Es hlt));have ih':=ih (j+1) (acc++[f.params[j].2]) (by omega) (by omega) (by simp;omega);have hap:=C3 (a:=acc) (b:=[f.params[j].2]) (by simp;omega);rw[h2,EA];generalize f.params[j]=z at hix hcl hap ih' |-;have hsl:bn T 54 1 [(0,z.2.av)]=some (jK [z.2]):=by cases z.2;rfl
  have hc1:∀l:List Ty,bu (jK l)=M.pure (jK l):=fun l=>rfl;rw[show acc++z.2:: (f.params.drop (j+1)).map (·.2)=acc++[z.2]++(f.params.drop (j+1)).map (·.2) by simp,<- ih'];generalize hcode:ak (L42_0 (ai pg) ak V) [bI m.funcs,.int .i64 m.funcs.length,.int .i64 i,aS f.params,.int .i64 f.params.length,.int .i64 j,x3,x4,.str m.name,hv,.str f.name,jK acc,.int .i64 f.result.kind,aS f.result.fields,.int .i64 f.effects] h=code;rw[FL42_0]at hcode;simp -implicitDefEqProofs only[L42_0,bd,bw,bP,aT,h1,Ff,bb,EW,hix,d9,LD76,Et,Ex,Er,Nat.reduceAdd,Eb,EL,EY,gP,rC,aY,FA76_1,Fu,ER,LD27,eE,hcl,ge,hsl,hap,hc1,e9,hw]at hcode;rw[<- hcode];rfl
theorem yz(m:Ap.Mod)(MK:ModOk m):∀(k i:Nat)(hv x3 x4:AV)(h:Hp),m.funcs.length-i=k->i<=m.funcs.length->tv h hv (cG (m.funcs.take i))->
  ∃hv' h',tv h' hv' (cG m.funcs)/\ak (L42_1 (ai pg) ak) [bI m.funcs,.int .i64 m.funcs.length,.int .i64 i,x3,x4,.str m.name,hv] h=af (ai pg 107 [hv',.fn (.func 108) [] []]) (fun _=>af (az 2 [] (.agg [.str m.name,hv'])) fun v=>M.pure (.agg [nth (ab v) 0,nth (ab v) 1])) h':=by
 have hfl:=MK.flen;intro k
 induction k with
 |zero=>
  intro i hv x3 x4 h hk hi A;have h1:¬((i:Int)<(m.funcs.length:Int)):=by omega
  have h2:m.funcs.take i=m.funcs:=Fz (by omega);rw[h2]at A;refine⟨hv,h,A,?_⟩;rw[FL42_1];simp only[L42_1,bd,bw,bP,aT,h1,Gl,bb,EN,Fc]
 | succ k ih=>
  intro i hv x3 x4 h hk hi A;have hlt:i<m.funcs.length:=by omega
  have h1:(i:Int)<(m.funcs.length:Int):=by omega
  have hw:IntKind.i64.wrap ((i:Int)+1)=((i+1:Nat):Int):=aX (by omega);have hix:=uI (l:=m.funcs) (n:=(i:Int)) (by omega) h1;rw[En,Eu m.funcs i hlt]at hix;have hf:=MK.fns _ (Es hlt);have ht:m.funcs.take (i+1)=m.funcs.take i++[m.funcs[i]]:=List.take_succ_eq_append_getElem hlt;have ih0:=ih (i+1);rw[ht]at ih0;have cf:∀f:Fun,aU 12 f.av=M.pure f.av:=fun f=>by rw[bo (eO f),dE,eJ]
  rw[FL42_1];generalize m.funcs[i]=f at hix hf ih0 |-;cases hp:f.pub with
  |false=>
   have e:cG (m.funcs.take i++[f])=cG (m.funcs.take i):=by simp[cG,hp]
   rw[e]at ih0;obtain⟨hv',h',A',e'⟩:=ih0 hv x3 x4 h (by omega) (by omega) A;refine⟨hv',h',A',?_⟩;rw[<- e'];simp[L42_1,h1,hix,cf,hw];simp[hp]
  | true=>
   have e:cG (m.funcs.take i++[f])=cG (m.funcs.take i)++[d7 f]:=by simp[cG,hp]
   rw[e]at ih0;have hlen:(cG (m.funcs.take i)).length<=1000000:=by
    have:(cG (m.funcs.take i)).length<=(m.funcs.take i).length:=by
     unfold cG;rw[EH];exact Gc _ _
    rw[E9]at this;omega
   obtain⟨v1,h1',e1,A1,c1⟩:=uL A hlen (d7 f);obtain⟨hv',h',A',e'⟩:=ih0 v1 x3 x4 h1' (by omega) (by omega) A1;refine⟨hv',h',A',?_⟩;rw[<- e'];have hin:=yy (ak (L42_1 (ai pg) ak)) m f hf i hv x3 x4 h f.params.length 0 [] rfl (EG _) (EG _);rw[hw]at hin;have hin2:ak (L42_0 (ai pg) ak (ak (L42_1 (ai pg) ak))) [bI m.funcs,.int .i64 m.funcs.length,.int .i64 i,aS f.params,.int .i64 f.params.length,.int .i64 0,x3,x4,.str m.name,hv,.str f.name,.sl [],.int .i64 f.result.kind,aS f.result.fields,.int .i64 f.effects] h=ak (L42_1 (ai pg) ak) [bI m.funcs,.int .i64 m.funcs.length,.int .i64 ((i+1:Nat):Int),x3,x4,.str m.name,v1] h1':=by
    refine hin.trans ?_;show af (appH T 22 false hv (sigs [d7 f])) _ h=_;rw[cB e1,c1,aY]
   have hcl:=t104 f.result hf.res;have bs1:∀(k:Int)(x:List eC)(e:Int),cE T true 56 [(0,.str f.name),(2,(Ty.mk k x).av),(3,.int .i64 e)]=some (.agg [.str f.name,.hn,.int .i64 k,aS x,.int .i64 e]):=fun k x e=>rfl;have bs2:cE T true 56 [(0,.str f.name),(2,f.result.av),(3,.int .i64 f.effects)]=some (.agg [.str f.name,.hn,.int .i64 f.result.kind,aS f.result.fields,.int .i64 f.effects]):=by
    have:=bs1 f.result.kind f.result.fields f.effects
    rwa [Ty.eta]at this
   have bs3:az 5 [1] (.agg [.str f.name,.hn,.int .i64 f.result.kind,aS f.result.fields,.int .i64 f.effects])=M.pure (.agg [.str f.name,.hn,.int .i64 f.result.kind,aS f.result.fields,.int .i64 f.effects]):=rfl;rw[<- hin2];simp[L42_1,h1,hix,cf,hcl,bs2,bs3];simp[hp]
def nr(l:List Sig)(i:Nat)(hi:i<l.length):cI 5 (rowOf Sig.av l) i=ab l[i].av:=eR Cq l i hi
def sC(l:List Sig):rowOf Sig.av l=(l.map fun s=>ab s.av).flatten:=by
 unfold rowOf;rw[List.flatMap_def,FD];rfl
def iq(l:List Sig):(cR l).length=l.length:=(dl l).length_eq
theorem tw{h:Hp}{hv:AV}{l:List Sig}(A:tv h hv l)(hl:l.length<=1000):∃h',ai pg 107 [hv,.fn (.func 108) [] []] h= .ok (.tup []) h'/\tv h' hv (cR l):=by
 have e0:ai pg 107 [hv,.fn (.func 108) [] []]=ef 5 108 (ai pg) [hv,.fn (.func 108) [] []]:=eH hOther rfl _;rw[e0];rcases A with⟨rfl,rfl⟩|⟨hne,q,rfl,hq⟩
 ·exact⟨h,rfl,.inl ⟨Ew (iq []),rfl⟩⟩
 ·have hln:=ew (f:=Sig.av) Cq l;have hpos:0<l.length:=FI.2 hne;have hrow:((rowOf Sig.av l).drop 0).take (l.length*5)=rowOf Sig.av l:=by rw[ER,<- hln];exact G2
  have hkeys:keysOf 5 l.length (rowOf Sig.av l)=some (l.map (·.name)):=by
   unfold keysOf;have e:(List.range l.length).map (fun i=>cI 5 (rowOf Sig.av l) i)=l.map fun s=>ab s.av:=by
    apply Gy
    ·simp
    ·intro i h1 h2;simp only[Gz,GT];exact nr l i (by simpa using h2)
   rw[e]
   have:=qx (nm:=fun c=>match c with|.str s:: _=>s|_=>[]) (cs:=l.map fun s=>ab s.av) (fun c hc=>by
    obtain⟨s,_,rfl⟩:=E3.1 hc;rfl)
   rw[this,FD];rfl
  have hpl:(dP (l.map (·.name))).length=l.length:=by
   have:=(mo (l.map (·.name))).1.length_eq
   simpa using this
  have hflat:((dP (l.map (·.name))).map fun i=>cI 5 (rowOf Sig.av l) (i % l.length)).flatten=rowOf Sig.av (cR l):=by
   rw[sC (cR l)];unfold cR;rw[FD];congr 1;apply FJ;intro i _;have hm:=Hh i hpos;simp only[Function.comp];rw[nr l _ hm,Eu l _ hm]
  have hlen2:(rowOf Sig.av (cR l)).length=(rowOf Sig.av l).length:=by rw[ew (f:=Sig.av) Cq,iq,hln]
  have hset:setCells (rowOf Sig.av l) 0 (rowOf Sig.av (cR l))=rowOf Sig.av (cR l):=by
   unfold setCells;rw[EY,E5,Er,hlen2,List.drop_length,GI]
  have hok:=sg l;refine⟨h.set q (rowOf Sig.av (cR l)),?_,.inr ⟨fun e=>hne (by have:=iq l;rw[e]at this;exact Ew this.symm),q,by rw[iq],FM (ES.1 hq).1⟩⟩;unfold ef;simp only[hq,hrow,hkeys,hflat,hset];have hb:Nat.beq 108 108=true:=rfl;have hb5:Nat.beq 5 5=true:=rfl;have hall:((rowOf Sig.av l).all aL)=true:=hok;have hcond:(Nat.beq 108 108&&Nat.beq 5 5&&decide (0<l.length)&&decide (0<5)&&decide (0+l.length*5<=(rowOf Sig.av l).length)&&decide ((l.map (·.name)).length=l.length)&&decide (l.length<4611686018427387904)&&decide ((dP (l.map (·.name))).length=l.length)&&(rowOf Sig.av l).all aL)=true:=by
   have g1:decide (0<l.length)=true:=Fq hpos;have g2:decide (0+l.length*5<=(rowOf Sig.av l).length)=true:=Fq (by omega);have g3:decide ((l.map (·.name)).length=l.length)=true:=Fq (EH ..);have g4:decide (l.length<4611686018427387904)=true:=Fq (by omega);have g5:decide ((dP (l.map (·.name))).length=l.length)=true:=Fq hpl;rw[g1,g2,g3,g4,g5,hall,hb,hb5];rfl
  rw[hcond];rfl
theorem DC(m:Ap.Mod)(hm:m.Lim):ai pg 42 [m.av]=M.pure (ic m).av:=by
 have hR:=t48 m hm;have lm:aj T 41 (.ip (ab m.av))=some m.av:=rfl;simp only[bZ]at lm;rw[C42,jQ];unfold ic;by_cases hr:bJ m=true
 ·rw[hr]at hR;rw[Ef hr];have MK:=gb hr;obtain⟨hv,h',A,e'⟩:=yz m MK m.funcs.length 0 .hn (.str []) (.sl []) [] rfl (EG _) (.inl ⟨rfl,rfl⟩);have hpl:(cG m.funcs).length<=1000:=by
   have:(cG m.funcs).length<=m.funcs.length:=by
    unfold cG;rw[EH];exact Gc _ _
   have:=MK.flen
   omega
  obtain⟨h2,e2,A2⟩:=tw A hpl;have b1:cE T true 24 [(0,.str m.name)]=some (.agg [.str m.name,.hn]):=rfl;have b2:az 2 [1] (.agg [.str m.name,.hn])=M.pure (.agg [.str m.name,.hn]):=rfl;have b2':az 2 [] (.agg [.str m.name,.hn])=M.pure (.agg [.str m.name,.hn]):=rfl;have hcn:az 2 [] (.agg [.str m.name,hv])=M.pure (.agg [.str m.name,hv]):=by
   rcases A2 with⟨_,rfl⟩|⟨_,q,rfl,_⟩
   ·rfl
   ·exact aV rfl
  have hfz:ia 6 h2 (.agg [.str m.name,hv])=(Face.mk m.name (cR (cG m.funcs))).av:=by
   rcases A2 with⟨e,rfl⟩|⟨_,q,rfl,hq⟩
   ·rw[e];rfl
   ·have hfr:=nI (f:=Sig.av) Cq (fun x=>by rw[dF,eK]) (fun x g=>rF g x) (by decide) hq 5;have e:(Face.mk m.name (cR (cG m.funcs))).av= .agg [.str m.name,.sl ((cR (cG m.funcs)).map Sig.av)]:=rfl;rw[e,<- hfr];rfl
  refine qw (v:=.agg [.str m.name,hv]) (h':=h2) ?_ hfz;have e'':ak (L42_1 (ai pg) ak) [bI m.funcs,.int .i64 m.funcs.length,.int .i64 0,.str [],.sl [],.str m.name,.hn] []= .ok (.agg [.str m.name,hv]) h2:=by
   refine e'.trans ?_;rw[cB e2,hcn];rfl
  simp[S42,lm,hR,b1,b2,b2',e'']
 ·rw[if_neg hr];rw[Gi]at hr;rw[hr]at hR;have b1:cE T false 24 []=some lF.av:=rfl;have b2:az 2 [] lF.av=M.pure lF.av:=rfl;have hfz:ia 6 [] lF.av=lF.av:=rfl;refine qw (v:=lF.av) (h':=[]) ?_ hfz;simp[S42,lm,hR,b1,b2];rfl
def dZ:Exp:=.mk 0 0 [] [] [] []
def sx:cW 12 dZ=true:=by decide +kernel
def Ds(l:List Fun){n:Nat}(h1:n<=l.length):dJ T 37 (bI l) none (some (.int .i64 (n:Int))) none=some (bI (l.take n)):=by
 have:=uy (T:=T) (t:=37) (e:=73) rfl rfl rfl (l.map Fun.av) (n:=(n:Int)) (by omega) (by simp;omega)
 rw[En,<- List.map_take]at this;exact this
def Dw(l:List Fun){n:Nat}(h1:n<=l.length):dJ T 37 (bI l) (some (.int .i64 (n:Int))) none none=some (bI (l.drop n)):=by
 have:=uz (T:=T) (t:=37) (e:=73) rfl rfl rfl (l.map Fun.av) (cd eO l) (n:=(n:Int)) (by omega) (by simp;omega)
 rw[En,<- List.map_drop]at this;exact this
theorem rt(f:Fun):bn T 37 1 [(0,.agg [.str f.name,.bool f.pub,aS f.params,.int .i64 f.result.kind,aS f.result.fields,.int .i64 f.effects,.int .i64 0,.int .i64 0,.str [],.str [],.sl [],.sl []])]=some (bI [b9 dZ f]):=by
 have e:(AV.agg [.str f.name,.bool f.pub,aS f.params,.int .i64 f.result.kind,aS f.result.fields,.int .i64 f.effects,.int .i64 0,.int .i64 0,.str [],.str [],.sl [],.sl []])=(b9 dZ f).av:=by
  rw[<- eJ];rfl
 rw[e];have h:bn T 37 1 [(0,(b9 dZ f).av)]=(f8 12 [AV.agg [.str [],.bool false,.sl [],.int .i64 0,.sl [],.int .i64 0,.int .i64 0,.int .i64 0,.str [],.str [],.sl [],.sl []]] [(0,(b9 dZ f).av)]).map .sl:=rfl;rw[h];simp[f8,bI]
theorem Aw(m:Ap.Mod)(hm:m.funcs.length<=1000)(x0 x2 x4 x5 x6 x7 x8 x9 x10 x11 x12 x13 x14 x15 x16 x18 x19 x20 x21:AV):∀(n i:Nat),m.funcs.length-i=n->i<=m.funcs.length->
  ak (L12_0 (ai pg) ak) [x0,.ip (ab m.av),x2,.int .i64 i,x4,x5,x6,x7,x8,x9,x10,x11,x12,x13,x14,x15,x16,bI ((m.funcs.map (b9 dZ)).reverse.take i),x18,x19,x20,x21]=
  ak (L12_0 (ai pg) ak) [x0,.ip (ab m.av),x2,.int .i64 m.funcs.length,x4,x5,x6,x7,x8,x9,x10,x11,x12,x13,x14,x15,x16,bI (m.funcs.map (b9 dZ)).reverse,x18,x19,x20,x21]:=by
 intro n
 induction n with
 |zero=>
  intro i hn hi;obtain rfl:i=m.funcs.length:=by omega
  rw[Fz (by simp)]
 | succ n ih=>
  intro i hn hi;have hlt:i<m.funcs.length:=by omega
  rw[<- ih (i+1) (by omega) (by omega)];have h1:(i:Int)<(m.funcs.length:Int):=by omega
  have hk:m.funcs.length-1-i<m.funcs.length:=by omega
  have w1:IntKind.i64.wrap ((m.funcs.length:Int)-1)=((m.funcs.length-1:Nat):Int):=by rw[dw (by omega) (by omega)];omega
  have w2:IntKind.i64.wrap (((m.funcs.length-1:Nat):Int)-(i:Int))=((m.funcs.length-1-i:Nat):Int):=by rw[dw (by omega) (by omega)];omega
  have w3:IntKind.i64.wrap ((i:Int)+1)=((i+1:Nat):Int):=aX (by omega);have hix:=uI (l:=m.funcs) (n:=((m.funcs.length-1-i:Nat):Int)) (by omega) (by omega);rw[En,Eu m.funcs _ hk]at hix;have ht:(m.funcs.map (b9 dZ)).reverse.take (i+1)=(m.funcs.map (b9 dZ)).reverse.take i++[b9 dZ m.funcs[m.funcs.length-1-i]]:=by
   rw[List.take_add_one,Ek (by simp;omega)];simp
  have hA:eb T 37 (bI ((m.funcs.map (b9 dZ)).reverse.take i)) (bI [b9 dZ m.funcs[m.funcs.length-1-i]])=some (bI ((m.funcs.map (b9 dZ)).reverse.take (i+1))):=by
   rw[ht];exact zi (by simp;omega)
  have hb:=rt m.funcs[m.funcs.length-1-i];generalize m.funcs[m.funcs.length-1-i]=f at hix hA hb;generalize (m.funcs.map (b9 dZ)).reverse.take (i+1)=l1 at *;generalize (m.funcs.map (b9 dZ)).reverse.take i=l0 at *;have hcf:az 12 [] f.av=M.pure f.av:=by rw[aV (eO f),dE,eJ]
  have e0:cE T false 47 []=some dZ.av:=rfl;have hce:az 6 [] dZ.av=M.pure dZ.av:=by rw[aV (fS _),cv,dB]
  have ae:ab dZ.av=[.int .i64 0,.int .i64 0,.str [],.str [],.sl [],.sl []]:=rfl;rw[FL12_0];simp only[L12_0];have hc1:∀l:List Fun,bu (bI l)=M.pure (bI l):=fun _=>rfl;simp -implicitDefEqProofs [h1,hlt,w1,w2,w3,hix,hcf,e0,hce,ae,hb,hA,hc1]
def p8(call:FuncId->List AV->M AV)(W:List AV->M AV)(m:Ap.Mod)(k:Nat)(hk:k<m.funcs.length)(hl:m.funcs.length<=1000)(l4 l5 l6 l7 l8 l9 l10 l11 l12 b13 b14 b15 b16 b17 b18 b19 b20 b21:AV)(A L:Face)(n1 n2:Int)(s1:bG)(q1:call 42 [m.av]=M.pure A.av)(q2:call 42 [.agg [l4,l5,l6,l7,l8,l9,l10,l11,l12]]=M.pure L.av)(q3:call 42 [.agg [b13,b14,b15,b16,b17,b18,b19,b20,b21]]=M.pure A.av)(c1:call 17 [A.av,L.av]=M.pure (.tup [.int .i64 n1,.str s1]))(c2:call 17 [L.av,A.av]=M.pure (.tup [.int .i64 n2,.str []]))(c3:call 17 [A.av,A.av]=M.pure (.tup [.int .i64 0,.str []]))(hh:(m.funcs[k].pub=true/\n1=2/\s1=m.funcs[k].name/\n2=1)\/(m.funcs[k].pub=false/\n1=0/\s1=[]/\n2=0)):
  L12_0 call ak W [.int .i64 (k:Int),.ip (ab m.av),.bool true,.int .i64 m.funcs.length,l4,l5,l6,l7,l8,l9,l10,l11,l12,b13,b14,b15,b16,b17,b18,b19,b20,b21]=M.pure (.bool true):=by
 have hix:=uI (l:=m.funcs) (n:=(k:Int)) (by omega) (by omega);rw[En,Eu m.funcs k hk]at hix;have hcf:∀f:Face,aU 2 f.av=M.pure f.av:=fun f=>by rw[bo (nW f),dM,hP]
 generalize m.funcs[k]=f at hix hh;simp -implicitDefEqProofs only[L12_0,bd,bw];rcases hh with⟨h1,rfl,rfl,rfl⟩|⟨h1,rfl,rfl,rfl⟩
 ·simp -implicitDefEqProofs [q1,hcf,q2,c1,c2,q3,c3,hix,h1]
 ·simp -implicitDefEqProofs [q1,hcf,q2,c1,c2,q3,c3,hix,h1]
theorem tT(call:FuncId->List AV->M AV)(m:Ap.Mod)(k:Nat)(hk:k<m.funcs.length)(hl:m.funcs.length<=1000)(sm:call 14 []=M.pure (.bool true))(hp:call 51 [m.av]=M.pure (.bool true))(hR:call 48 [m.av]=M.pure (.bool true)):
  S12 call ak m.av (.int .i64 (k:Int))=ak (L12_0 call ak) [.int .i64 (k:Int),.ip (ab m.av),.bool true,.int .i64 0,.str m.name,strs m.uses,aS m.vars,ca m.init,bI (m.funcs.take k++m.funcs.drop (k+1)),.bool m.moves,aS m.old,ca m.forward,ca m.back,.str m.name,.hn,.hn,.hn,.sl [],.bool false,.hn,.hn,.hn]:=by
 have h0:¬(k:Int)<0:=by omega
 have h1:¬(m.funcs.length:Int)<=(k:Int):=by omega
 have hcn:az 9 [] m.av=M.pure m.av:=by rw[aV (jr m),bZ,jf]
 have b0:bn T 37 0 []=some (bI []):=rfl;have s1:=Ds m.funcs (n:=k) (by omega);have s2:=Dw m.funcs (n:=k+1) (by omega);have a1:eb T 37 (bI []) (bI (m.funcs.take k))=some (bI (m.funcs.take k)):=by
  have:=zi (a:=[]) (b:=m.funcs.take k) (by simp;omega)
  simpa using this
 have a2:eb T 37 (bI (m.funcs.take k)) (bI (m.funcs.drop (k+1)))=some (bI (m.funcs.take k++m.funcs.drop (k+1))):=zi (by simp;omega);have w1:IntKind.i64.wrap ((k:Int)+1)=(k:Int)+1:=dw (by omega) (by omega);have ek:((k+1:Nat):Int)=(k:Int)+1:=by omega
 rw[ek]at s2;have b1:cE T true 41 [(0,.str m.name)]=some (.agg [.str m.name,.hn,.hn,.hn,.hn,.bool false,.hn,.hn,.hn]):=rfl;have b2:az 9 [4] (.agg [.str m.name,.hn,.hn,.hn,.hn,.bool false,.hn,.hn,.hn])=M.pure (.agg [.str m.name,.hn,.hn,.hn,.hn,.bool false,.hn,.hn,.hn]):=rfl;have hc1:∀l:List Fun,bu (bI l)=M.pure (bI l):=fun _=>rfl;generalize hF:m.funcs.take k++m.funcs.drop (k+1)=F1 at *;generalize m.funcs.take k=F2 at *;generalize m.funcs.drop (k+1)=F3 at *;simp -implicitDefEqProofs [S12,sm,hp,hR,h0,h1,hcn,b0,s1,s2,a1,a2,w1,b1,b2,hc1]
theorem t12(m:Ap.Mod)(at_:Int)(hm:m.Lim):ai pg 12 [m.av,.int .i64 at_]=M.pure (.bool true):=by
 rw[C12];obtain⟨p,hp⟩:=Do m hm;have hR:=t48 m hm;cases p with
 |false=>simp[S12,fV,hp]
 | true=>
  cases hr:bJ m with
  |false=>rw[hr]at hR;simp[S12,fV,hp,hR]
  | true=>
   rw[hr]at hR;by_cases h0:at_<0
   ·simp[S12,fV,hp,hR,h0]
   by_cases h1:(m.funcs.length:Int)<=at_
   ·simp[S12,fV,hp,hR,h0,h1]
   obtain⟨k,rfl⟩:∃k:Nat,at_=k:=⟨at_.toNat,by omega⟩;have hk:k<m.funcs.length:=by omega
   have MK:=gb hr;have hfl:=MK.flen;obtain⟨r1,r2,r3⟩:=oI hr hk;obtain⟨r4,r5⟩:=yw hr sx;have hself:df (ic m) (ic m)=(0,[]):=by rw[iX,Ef (o4 hr)]
   have limL:({ m with funcs:=m.funcs.take k++m.funcs.drop (k+1) }:Ap.Mod).Lim:=⟨hm.uses,hm.vars,hm.vty,hm.init,hm.ies,by simp;omega,fun f hf=>hm.fns f (by
    rcases EF.1 hf with h|h
    ·exact Fw h
    ·exact Ge h),hm.old,hm.oty,hm.forward,hm.fes,hm.back,hm.bes⟩
   have limB:(fG m.name (m.funcs.map (b9 dZ)).reverse).Lim:=⟨by simp[fG],by simp[fG],by simp[fG],by simp[fG],by simp[fG],by simp[fG];omega,fun f hf=>by
    have hf:f∈(m.funcs.map (b9 dZ)).reverse:=hf;obtain⟨g,hg,rfl⟩:=E3.1 (G6.1 hf);have G:=hm.fns g hg;exact⟨G.params,G.pty,G.result,fun n=>by cases n with
     |zero=>trivial
     |succ n=>exact⟨by simp[b9,dZ,Exp.names],by simp[b9,dZ,Exp.args],fun x hx=>by simp[b9,dZ,Exp.args]at hx⟩⟩,by simp[fG],by simp[fG],by simp[fG],by simp[fG],by simp[fG],by simp[fG]⟩
   have q1:=DC m hm;have q2:=DC _ limL;have q3:=DC _ limB;have l1:=o3 hm;have l2:=o3 limL;have l3:=o3 limB;have c1:=t17 _ _ l1 l2;have c2:=t17 _ _ l2 l1;have c3:=t17 _ _ l1 l3;rw[r5,hself]at c3;rw[r5]at q3;have hless:AV.agg [.str m.name,strs m.uses,aS m.vars,ca m.init,bI (m.funcs.take k++m.funcs.drop (k+1)),.bool m.moves,aS m.old,ca m.forward,ca m.back]=({ m with funcs:=m.funcs.take k++m.funcs.drop (k+1) }:Ap.Mod).av:=rfl;have hbare:ai pg 42 [.agg [.str m.name,.hn,.hn,.hn,bI (m.funcs.map (b9 dZ)).reverse,.bool false,.hn,.hn,.hn]]=ai pg 42 [(fG m.name (m.funcs.map (b9 dZ)).reverse).av]:=by
    have e:cl ax (.agg [.str m.name,.hn,.hn,.hn,bI (m.funcs.map (b9 dZ)).reverse,.bool false,.hn,.hn,.hn])=(fG m.name (m.funcs.map (b9 dZ)).reverse).av:=by
     simp[cl,dy,<- jf];simp[fG];exact⟨rfl,rfl,rfl,rfl,rfl⟩
    rw[C42,C42,jQ,e]
   rw[<- hless]at q2;rw[<- hbare]at q3;have key:S12 (ai pg) ak m.av (.int .i64 (k:Int))=M.pure (.bool true):=by
    rw[tT (ai pg) m k hk (by omega) fV hp hR];have hlp:=Aw m (by omega) (.int .i64 (k:Int)) (.bool true) (.str m.name) (strs m.uses) (aS m.vars) (ca m.init) (bI (m.funcs.take k++m.funcs.drop (k+1))) (.bool m.moves) (aS m.old) (ca m.forward) (ca m.back) (.str m.name) .hn .hn .hn (.bool false) .hn .hn .hn m.funcs.length 0 rfl (EG _);refine Eq.trans hlp ?_;rw[FL12_0];cases hpub:m.funcs[k].pub with
    |true=>
     obtain⟨g1,g2⟩:=r2 hpub;rw[g1]at c1;rw[g2]at c2;exact p8 (ai pg) _ m k hk (by omega) _ _ _ _ _ _ _ _ _ _ _ _ _ _ _ _ _ _ _ _ _ _ _ q1 q2 q3 c1 c2 c3 (.inl ⟨hpub,rfl,rfl,rfl⟩)
    |false=>
     obtain⟨g1,g2⟩:=r3 hpub;rw[g1]at c1;rw[g2]at c2;exact p8 (ai pg) _ m k hk (by omega) _ _ _ _ _ _ _ _ _ _ _ _ _ _ _ _ _ _ _ _ _ _ _ q1 q2 q3 c1 c2 c3 (.inr ⟨hpub,rfl,rfl,rfl⟩)
   simp only[jQ,oG,key];exact dq true
end Go.Proofs.YteemeakjlfnapaaGreatDoor
namespace Go.Proofs.YteemeakjlfnapaaGreatDoor.compatModules
open Go Go.Av Go.Av.Ap Go.ChangeShapes Go.WideShapes Go.ChangeAt Go.RowKit Go.Joins Go.Deep
set_option maxRecDepth 1000000
def kids:Kids Tryz.prog (· < Tryz.prog.types.size):=kids_rows (by kernel_rfl) (by kernel_rfl)
def qY:∀t e,t<Tryz.prog.types.size->Tryz.prog.underlying t=some (.slice e)->0<Tryz.prog.cellsOf e:=slices_full_of Tryz.prog (by kernel_rfl)
def vT(H:Type)(enc:TypeId×Value->H)(W:World)(base:Nat)(args:Array Value)(ds gs:List (DataW H))(before:List MemPlace)(hval:∀(j:Nat) t v,Tryz.f12.params[j]? = some t->args[j]? = some v->Value.okWide Tryz.prog W .any base t v)(hW:DataW.Whole enc Tryz.prog Tryz.f12.params.toList Rows.compatModulesSpec.vars false W args.toList ds gs before)(hz:(DataW.weightsEach Tryz.prog (Tryz.f12.params.toList++Rows.compatModulesSpec.plain.varTypes Tryz.prog) (ds++gs)).all (· <=reachBytes)=true)(hL:laidMetH Tryz.prog Rows.compatModulesRow.laid W)(hS:W.ShapedOpen Tryz.prog):
  Calls Tryz.prog 12 args W fun e W'=>∃v,e= .returned v/\Rows.compatModulesSpec.post enc Tryz.prog Tryz.f12 false true false false W args v W':=by
 have hW':=hW;obtain⟨p,q,hA0,hV,rfl,hfz,hnd⟩:=hW;have hA:DataW.TrodAll enc Tryz.prog W 0 (fun _=>true) true Tryz.f12.params.toList args.toList ds p:=hA0;have hA1:=hA;rw[Tryz.params12]at hA hval hz;obtain⟨v0,vs0,d0,ds0,p0,q0,ha0,rfl,rfl,h0,r0⟩:=trodAll_cons hA;obtain⟨v1,vs1,d1,ds1,p1,q1,ha1,rfl,rfl,h1,r1⟩:=trodAll_cons r0;obtain⟨hnil,rfl,rfl⟩:=trodAll_nil r1;subst hnil;subst ha1;obtain rfl:args= #[v0,v1]:=by cases args;simp_all
 obtain⟨rfl,rfl⟩:=trodVars_none hV;obtain⟨x0,k0,o0⟩:=rm (fun N=>(AR N).le (GQ N)) (fun a=>rfl) Tryz.underlying41 (hval 0 41 v0 rfl rfl) h0 (lB hz (j:=0) rfl rfl);obtain⟨x1,k1,o1⟩:=xD (fun N=>mu Tryz.underlying3) Tryz.underlying3 (hval 1 3 v1 rfl rfl) h1 (lB hz (j:=1) rfl rfl);clear hA0;simp only[GI]at hW' hA1;have hlt:=hW'.lt;have hv:aG (gD W) [] [x0.av,.int .i64 x1] [v0,v1]:=by
  simp only[aG];exact⟨_,_,rfl,k0,_,_,rfl,k1,rfl⟩
 refine (uh good hOther (Am hL hS) hv (by rw[t12 x0 x1 o0];rfl)).mono fun e W' ⟨he,hb⟩=>?_;subst he;exact⟨_,rfl,mX (pv:=[]) hW' (fun _ _ _=>trodAll_cons_mk (shut_bool Tryz.underlying4 _) trodAll_mk0) (fun sp hsp=>
   rn kids qY (by rw[Tryz.params12];decide +kernel) hA1 hlt hb sp hsp) (fun _ _=>rfl) (by simp)
  hb (ok_one (by kernel_rfl) rfl (okWide_bool_mk Tryz.underlying4 _))⟩
def reads(os:Os){H:Type}(enc:TypeId×Value->H):∃ds places,DataW.whole enc Tryz.prog ((jZ os).forCall (fun _ _=>0) ⟨#[],#[.agg #[.string ⟨#[]⟩,.slice none 0 0,.slice none 0 0,.slice none 0 0,.slice none 0 0,.bool false,.slice none 0 0,.slice none 0 0,.slice none 0 0],.int .i64 0],[]⟩).memory Tryz.f12.params.toList Rows.compatModulesSpec.vars false #[.agg #[.string ⟨#[]⟩,.slice none 0 0,.slice none 0 0,.slice none 0 0,.slice none 0 0,.bool false,.slice none 0 0,.slice none 0 0,.slice none 0 0],.int .i64 0].toList 8=some (ds,[],places):=
 ⟨[.agg [.lit (.string []),.nil,.nil,.nil,.nil,.lit (.bool false),.agg [.nil,.nil,.nil]],.lit (.int .i64 0)],[],by kernel_rfl⟩
def lifted(os:Os)(started:os.Started)(H:Type)(enc:TypeId×Value->H)(F:Stop.Interp):
  ReturnsInHanded {} Tryz.checked os 12 .any ((OpenSpec.ofChange Rows.compatModulesSpec).preRow enc Tryz.prog Tryz.f12 Rows.compatModulesRow.domain false Rows.compatModulesRow.laid) (((OpenSpec.ofChange Rows.compatModulesSpec).at F).post enc Tryz.prog Tryz.f12 false true false false):=by
 obtain⟨ds,places,hx⟩:=reads os enc;refine returnsInHanded_of_row (C:=Tryz.checked) (s:=OpenSpec.ofChange Rows.compatModulesSpec) Dy started (by kernel_rfl) Tryz.func12
  (witness_row_atRef (enc:=enc) (C:=Tryz.checked) false (jZ os) #[.agg #[.string ⟨#[]⟩,.slice none 0 0,.slice none 0 0,.slice none 0 0,.slice none 0 0,.bool false,.slice none 0 0,.slice none 0 0,.slice none 0 0],.int .i64 0] rfl (by kernel_rfl) (by kernel_rfl) (by kernel_rfl)
   (OpenSpec.preRow_of_cond 8 hx (by kernel_rfl) (fun k hk=>by cases hk) (by kernel_rfl) (wB os _))) ?_
 intro W base args ds gs before hval hW _ _ hz hL hS _;exact vT H enc W base args ds gs before hval hW hz hL hS
end Go.Proofs.YteemeakjlfnapaaGreatDoor.compatModules
