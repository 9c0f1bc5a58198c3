/- What the functions of the seat compute, part 6: the texts of the claim, one behind the other. Conditions: bounds, as each theorem names them. -/
import Derived.Test.YteemeakjlfnapaaGreatDoorTe
import Derived.Lib.SmallJoins
set_option linter.defProp false
set_option linter.unusedSimpArgs false
set_option linter.unusedVariables false
namespace Go.Proofs.YteemeakjlfnapaaGreatDoor
open Go Go.Av Go.Av.Ap
set_option maxRecDepth 100000
def dO(name:bn):Ap.Mod:=⟨name,[],[],[],[],false,[],[],[]⟩
def Gs(name:bn):CxOk (dO name) [] where
 vlen:=by simp[dO]
 vars:=nofun
 flen:=by simp[dO]
 ulen:=by simp[dO]
 plen:=nofun
 pars:=nofun
 res:=nofun
 slen:=nofun
 splen:=nofun
 spars:=nofun
 sres:=nofun
theorem CM(name:bn)(ls:List bN)(hls:∀z∈ls,dm z.2)(hll:ls.length<=1000)(e:Exp)(hr:bQ 12 e=true)(he:e.Lim)(want:Ty)(hw:aX want=true):ai pg 180 [.str name,aB ls,e.av,want.av]=M.pure (.int .i64 (iD ls e want)):=by
 have R:JR [aT (dO name) .nilm 0] 0 (dO name) .nilm [] 0:=⟨rfl,.inl ⟨rfl,rfl⟩,by simp⟩;obtain⟨p1,p2⟩:=CL (Gs name) 12 ls e 0 _ hr he hls (by omega) R;have hc:c7 (dO name) []=Ai:=rfl;rw[hc]at p1 p2;have b0:aN T false 41 [(0,.str name)]=some (dO name).av:=rfl;have b1:aN T true 141 [(0,(dO name).av)]=some (.agg (aT (dO name) .nilm 0)):=rfl;have n1:∀f:AV->M AV,ae (newH (aT (dO name) .nilm 0)) f []=f (.hp 0 0) [aT (dO name) .nilm 0]:=fun f=>rfl;have fin:∀(h:Hp)(n:Int),fU 6 h (.int .i64 n)= .int .i64 n:=fun h n=>rfl;have hne:=fB Ai 12 ls e 0;rw[C180];unfold iD;cases ht:bh Ai 12 ls e 0 with
 |er b n=>
  rw[ht]at p1;have hb:(b != 0)=true:=Ib.2 (hne b n ht);have k1:∀f:AV->M AV,ae (ai pg 124 [.hp 0 0,aB ls,e.av]) f [aT (dO name) .nilm 0]=f (.tup [ty0.av,.int .i64 b]) [aT (dO name) .nilm n]:=fun f=>aE p1 f;refine bC (v:=.int .i64 b) (h':=[aT (dO name) .nilm n]) ?_ (fin _ _);simp[S180,b0,b1,n1,k1,hb];rfl
 | ok t n=>
  rw[ht]at p1;have hts:=p2 t n ht;have k1:∀f:AV->M AV,ae (ai pg 124 [.hp 0 0,aB ls,e.av]) f [aT (dO name) .nilm 0]=f (.tup [t.av,.int .i64 0]) [aT (dO name) .nilm n]:=fun f=>aE p1 f;have l1:∀f:AV->M AV,ae (bi T 3 (.hp 0 10)) f [aT (dO name) .nilm n]=f (.int .i64 n) [aT (dO name) .nilm n]:=fun f=>rfl;have hbl:=gw hts hw;dsimp only;by_cases hn:n=0
  ·subst hn;rw[if_neg (by simp)];cases hb:bu t want with
   |true=>
    rw[hb]at hbl;rw[GR rfl];refine bC (v:=.int .i64 0) (h':=[aT (dO name) .nilm 0]) ?_ (fin _ _);simp[S180,b0,b1,n1,k1,l1,hbl];rfl
   |false=>
    rw[hb]at hbl;rw[if_neg (by decide)];refine bC (v:=.int .i64 13) (h':=[aT (dO name) .nilm 0]) ?_ (fin _ _);simp[S180,b0,b1,n1,k1,l1,hbl];rfl
  ·rw[GR hn];have hn':(n != 0)=true:=Ib.2 hn;refine bC (v:=.int .i64 14) (h':=[aT (dO name) .nilm n]) ?_ (fin _ _);simp[S180,b0,b1,n1,k1,l1,hn'];rfl
def jy(x:bn×Int):AV:=.tup [.str x.1,.int .i64 x.2]
def jp(ls vs:List bN)(es:List Exp)(i:Nat)(hl:es.length=vs.length)(h:i<vs.length):(eD ls vs es).drop i=(vs[i].1,iD ls (es[i]'(by omega)) vs[i].2):: (eD ls vs es).drop (i+1):=by
 have hi:i<(eD ls vs es).length:=by simp[eD,Iw];omega
 rw[G2 hi];congr 1;simp[eD]
def kW(ls vs:List bN)(es:List Exp)(i:Nat)(h:vs.length<=i):(eD ls vs es).drop i=[]:=G6 (by simp[eD,Iw];omega)
structure MvOk (m:Ap.Mod):Prop where
 lim:m.Lim
 vlen:m.vars.length<=8
 vars:∀z∈m.vars,aX z.2=true
 ilen:m.init.length=m.vars.length
 init:∀e∈m.init,bQ 12 e=true
 olen:m.old.length<=8
 old:∀z∈m.old,aX z.2=true
 wlen:m.moves=true->m.forward.length=m.vars.length
 forw:∀e∈m.forward,bQ 12 e=true
 blen:m.back.length=m.old.length
 back:∀e∈m.back,bQ 12 e=true
def Gw{m:Ap.Mod}(K:MvOk m):∀(k i:Nat),m.old.length-i=k->i<=m.old.length->
  aj (L123_0 (ai pg) aj) [.ip (ab m.av),aB m.old,.int .i64 m.old.length,.int .i64 i]=M.pure (jy (bo ((eD m.vars m.old m.back).drop i))):=by
 intro k
 induction k with
 |zero=>
  intro i hk hi;have h1:¬((i:Int)<(m.old.length:Int)):=by omega
  rw[FL123_0,kW _ _ _ _ (by omega)];simp[L123_0,h1,bo,jy]
 | succ k ih=>
  intro i hk hi;have hlt:i<m.old.length:=by omega
  have h1:(i:Int)<(m.old.length:Int):=by omega
  have hw:IntKind.i64.wrap ((i:Int)+1)=(i:Int)+1:=aS (by have:=K.olen;omega);have hix:=lU (l:=m.old) (n:=(i:Int)) (by omega) h1;rw[GZ,Hd m.old i hlt]at hix;have hlt2:i<m.back.length:=by rw[K.blen];exact hlt
  have hix2:=pm (l:=m.back) (n:=(i:Int)) (by omega) (by have:=K.blen;omega);rw[GZ,Hd m.back i hlt2]at hix2;have hp:=CM m.name m.vars (fun z hz=>dZ (K.vars z hz)) (by have:=K.vlen;omega) m.back[i] (K.back _ (GY _)) (K.lim.bes _ (GY _)) m.old[i].2 (K.old _ (GY _));have ih':aj (L123_0 (ai pg) aj) [.ip (ab m.av),aB m.old,.int .i64 m.old.length,.int .i64 ((i:Int)+1)]=_:=ih (i+1) (by omega) (by omega);rw[FL123_0,jp _ _ _ _ K.blen hlt,bo];simp only[ba]at ih' |-;generalize m.old[i]=z at hix hp |-;generalize m.back[i]=e at hix2 hp |-;by_cases hb:iD m.vars e z.2=0
  ·rw[hb]at hp;rw[GR hb];simp[L123_0,h1,hix,hix2,hp,hw,ih']
  ·rw[if_neg hb];have hb':(iD m.vars e z.2 != 0)=true:=Ib.2 hb;simp[L123_0,h1,hix,hix2,hp,hb',jy]
def Gx{m:Ap.Mod}(K:MvOk m)(hm:m.moves=true):∀(k i:Nat),m.vars.length-i=k->i<=m.vars.length->
  aj (L123_1 (ai pg) aj) [.ip (ab m.av),aB m.vars,.int .i64 m.vars.length,.int .i64 i]=M.pure (jy (bo ((eD m.old m.vars m.forward).drop i++eD m.vars m.old m.back))):=by
 intro k
 induction k with
 |zero=>
  intro i hk hi;have h1:¬((i:Int)<(m.vars.length:Int)):=by omega
  have h0:=Gw K m.old.length 0 rfl (Hi _);have h0':aj (L123_0 (ai pg) aj) [.ip (ab m.av),aB m.old,.int .i64 m.old.length,.int .i64 0]=M.pure (jy (bo (eD m.vars m.old m.back))):=h0;rw[FL123_1,kW _ _ _ _ (by omega),Hv];simp only[ba]at h0' |-;simp[L123_1,h1,h0']
 | succ k ih=>
  intro i hk hi;have hlt:i<m.vars.length:=by omega
  have h1:(i:Int)<(m.vars.length:Int):=by omega
  have hw:IntKind.i64.wrap ((i:Int)+1)=(i:Int)+1:=aS (by have:=K.vlen;omega);have hix:=lU (l:=m.vars) (n:=(i:Int)) (by omega) h1;rw[GZ,Hd m.vars i hlt]at hix;have hwl:=K.wlen hm;have hlt2:i<m.forward.length:=by omega
  have hix2:=pm (l:=m.forward) (n:=(i:Int)) (by omega) (by omega);rw[GZ,Hd m.forward i hlt2]at hix2;have hp:=CM m.name m.old (fun z hz=>dZ (K.old z hz)) (by have:=K.olen;omega) m.forward[i] (K.forw _ (GY _)) (K.lim.fes _ (GY _)) m.vars[i].2 (K.vars _ (GY _));have ih':aj (L123_1 (ai pg) aj) [.ip (ab m.av),aB m.vars,.int .i64 m.vars.length,.int .i64 ((i:Int)+1)]=_:=ih (i+1) (by omega) (by omega);rw[FL123_1,jp _ _ _ _ hwl hlt,Ht,bo];simp only[ba]at ih' |-;generalize m.vars[i]=z at hix hp |-;generalize m.forward[i]=e at hix2 hp |-;by_cases hb:iD m.old e z.2=0
  ·rw[hb]at hp;rw[GR hb];simp[L123_1,h1,hix,hix2,hp,hw,ih']
  ·rw[if_neg hb];have hb':(iD m.old e z.2 != 0)=true:=Ib.2 hb;simp[L123_1,h1,hix,hix2,hp,hb',jy]
def Gy{m:Ap.Mod}(K:MvOk m):∀(k i:Nat),m.vars.length-i=k->i<=m.vars.length->
  aj (L123_2 (ai pg) aj) [.ip (ab m.av),aB m.vars,.int .i64 m.vars.length,.int .i64 i]=M.pure (jy (bo ((eD [] m.vars m.init).drop i++if m.moves=true then eD m.old m.vars m.forward++eD m.vars m.old m.back else[]))):=by
 intro k
 induction k with
 | zero=>
  intro i hk hi;have h1:¬((i:Int)<(m.vars.length:Int)):=by omega
  rw[FL123_2,kW _ _ _ _ (by omega),Hv];cases hm:m.moves with
  |true=>
   have h0:=Gx K hm m.vars.length 0 rfl (Hi _);have h0':aj (L123_1 (ai pg) aj) [.ip (ab m.av),aB m.vars,.int .i64 m.vars.length,.int .i64 0]=M.pure (jy (bo (eD m.old m.vars m.forward++eD m.vars m.old m.back))):=h0;simp only[ba,hm]at h0' |-;simp[L123_2,h1,h0']
  |false=>
   simp only[ba,hm];simp[L123_2,h1,jy,bo]
 | succ k ih=>
  intro i hk hi;have hlt:i<m.vars.length:=by omega
  have h1:(i:Int)<(m.vars.length:Int):=by omega
  have hw:IntKind.i64.wrap ((i:Int)+1)=(i:Int)+1:=aS (by have:=K.vlen;omega);have hix:=lU (l:=m.vars) (n:=(i:Int)) (by omega) h1;rw[GZ,Hd m.vars i hlt]at hix;have hwl:=K.ilen;have hlt2:i<m.init.length:=by omega
  have hix2:=pm (l:=m.init) (n:=(i:Int)) (by omega) (by omega);rw[GZ,Hd m.init i hlt2]at hix2;have hp0:=CM m.name [] (fun z hz=>by cases hz) (by simp) m.init[i] (K.init _ (GY _)) (K.lim.ies _ (GY _)) m.vars[i].2 (K.vars _ (GY _));have hp:ai pg 180 [.str m.name,.sl [],m.init[i].av,m.vars[i].2.av]=M.pure (.int .i64 (iD [] m.init[i] m.vars[i].2)):=hp0;have ih':aj (L123_2 (ai pg) aj) [.ip (ab m.av),aB m.vars,.int .i64 m.vars.length,.int .i64 ((i:Int)+1)]=_:=ih (i+1) (by omega) (by omega);rw[FL123_2,jp _ _ _ _ hwl hlt,Ht,bo];simp only[ba]at ih' |-;generalize m.vars[i]=z at hix hp |-;generalize m.init[i]=e at hix2 hp |-;by_cases hb:iD [] e z.2=0
  ·rw[hb]at hp;rw[GR hb];simp[L123_2,h1,hix,hix2,hp,hw,ih']
  ·rw[if_neg hb];have hb':(iD [] e z.2 != 0)=true:=Ib.2 hb;simp[L123_2,h1,hix,hix2,hp,hb',jy]
def F5{m:Ap.Mod}(K:MvOk m):ai pg 123 [m.av]=M.pure (jy (iw m)):=by
 have h0:=Gy K m.vars.length 0 rfl (Hi _);have h0':aj (L123_2 (ai pg) aj) [.ip (ab m.av),aB m.vars,.int .i64 m.vars.length,.int .i64 0]=M.pure (jy (iw m)):=h0;rw[C123];simp only[ba]at h0';simp[S123,h0'];exact bH fun g=>by simp[jy,cl,c5]
def setRow(ns:List bn):List AV:=ns.map fun s=>.tup [.str s,.bool true]
theorem Ce(a b:bn):uY T 20 9 (.str a) (.str b)=some (a== b):=rfl
theorem kF(s:bn):(ns:List bn)->(i:Nat)->(ns.contains s=false/\dU T 9 (.str s) (setRow ns) i=some none)\/(ns.contains s=true/\∃(j:Nat)(k:AV),dU T 9 (.str s) (setRow ns) i=some (some (j,k,.bool true)))
 |[],i=>.inl ⟨rfl,rfl⟩
 | x:: ns,i=>by
  show (_/\dU T 9 (.str s) (.tup [.str x,.bool true]:: setRow ns) i=_)\/(_/\∃(j:Nat)(k:AV),dU T 9 (.str s) (.tup [.str x,.bool true]:: setRow ns) i=_);unfold dU;rw[Ce,List.contains_cons];cases h:s== x with
  |true=>exact .inr ⟨rfl,i,.str x,rfl⟩
  |false=>
   rcases kF s ns (i+1)with⟨h1,h2⟩|⟨h1,j,k,h2⟩
   ·exact .inl ⟨by rw[h1];rfl,h2⟩
   ·exact .inr ⟨by rw[h1];rfl,j,k,h2⟩
theorem mZ{h:Hp}{l:Nat}{ns:List bn}(hl:h[l]? = some [.tup (setRow ns)])(s:bn):dN T 130 (.mp l) (.str s) false h= .ok (.bool (ns.contains s)) h:=by
 have e:lE T 130 (setRow ns) (.str s) false=(match dU T 9 (.str s) (setRow ns) 0 with
   |some (some (_,_,v))=>some v
   |some none=>some (.bool false)
   |none=>none):=rfl
 unfold dN ij;simp only[hl];rw[e];rcases kF s ns 0 with⟨h1,h2⟩|⟨h1,j,k,h2⟩
 ·rw[h2,h1]
 ·rw[h2,h1]
theorem qa{h:Hp}{l:Nat}{ns:List bn}(hl:h[l]? = some [.tup (setRow ns)])(s:bn)(hs:ns.contains s=false):kg T 130 (.mp l) (.str s) (.bool true) h= .ok (.tup []) (h.set l [.tup (setRow (ns++[s]))]):=by
 have e:kg T 130 (.mp l) (.str s) (.bool true) h=(match h[l]? with
   |some [.tup es]=>(match rI T 9 es (.str s) (.bool true)with
    |some es'=>.ok (.tup []) (h.set l [.tup es'])
    |none=>.fail)
   |_=>.fail):=rfl
 rw[e,hl];simp only;unfold rI;rcases kF s ns 0 with⟨h1,h2⟩|⟨h1,j,k,h2⟩
 ·rw[h2];simp[setRow]
 ·rw[h1]at hs;cases hs
theorem zR(l:List bN)(hb:l.length<=140737488355328)(ht:∀f∈l,f.2.Lim)(most:Int)(q:Nat):∀(n i:Nat),l.length-i=n->i<=l.length->∀(seen:List bn)(h:Hp),h[q]? = some [.tup (setRow seen)]->
  ∃h',aj (L117_0 (ai pg) aj) [aB l,.int .i64 most,.mp q,aB l,.int .i64 l.length,.int .i64 i] h= .ok (.bool (nS seen (l.drop i)&&decide ((l.length:Int)<=most))) h':=by
 intro n
 induction n with
 |zero=>
  intro i hn hi seen h hq;rw[FL117_0];have h1:¬((i:Int)<(l.length:Int)):=by omega
  have h2:l.drop i=[]:=G6 (by omega);rw[h2];exact⟨h,by simp[L117_0,h1,nS,M.pure]⟩
 | succ n ih=>
  intro i hn hi seen h hq;have hlt:i<l.length:=by omega
  have h1:(i:Int)<(l.length:Int):=by omega
  have h2:l.drop i=l[i]:: l.drop (i+1):=G2 hlt;have hw:IntKind.i64.wrap ((i:Int)+1)=((i+1:Nat):Int):=aS (by omega);have hix:=lU (l:=l) (n:=(i:Int)) (by omega) h1;rw[GZ,Hd l i hlt]at hix;have hfl:=ht _ (GY hlt);have ih':=fun s=>ih (i+1) (by omega) (by omega) (seen++[s]) (h.set q [.tup (setRow (seen++[s]))]);have hql:q<h.length:=(Hc.1 hq).1;rw[h2];generalize l[i]=f at hix hfl |-;have hlk:=mZ hq f.1;have hnm:=t76 f.1;have hty:=t47 f.2 hfl;have hcf:aC 3 (a7 f)=M.pure (a7 f):=by rw[bG (fl f),cg,ew]
  generalize hcode:aj (L117_0 (ai pg) aj) [aB l,.int .i64 most,.mp q,aB l,.int .i64 l.length,.int .i64 i] h=code;rw[FL117_0]at hcode;simp -implicitDefEqProofs only[L117_0,aZ,be,bF,aF,h1,HF,aR,Hn,hix,cg,LD76,G4,G8,G5,Nat.reduceAdd,GQ,He,Hq,ew,hcf,aK,FA76_0,FA76_1,Hk,HK,LD9]at hcode;rw[aE hlk]at hcode;have eo:nS seen (f:: l.drop (i+1))=(!(seen.contains f.1)&&bE f.1&&aX f.2&&nS (seen++[f.1]) (l.drop (i+1))):=rfl;rw[eo];cases hc:seen.contains f.1 with
  |true=>
   rw[hc]at hcode;refine⟨h,?_⟩;rw[<- hcode];simp[M.pure]
  | false=>
   rw[hc]at hcode;cases hn2:bE f.1 with
   |false=>
    rw[hn2]at hnm;refine⟨h,?_⟩;rw[<- hcode];simp[hnm,M.pure]
   | true=>
    rw[hn2]at hnm;cases hr:aX f.2 with
    |false=>
     rw[hr]at hty;refine⟨h,?_⟩;rw[<- hcode];simp[hnm,hty,M.pure]
    |true=>
     rw[hr]at hty;obtain⟨h',e'⟩:=ih' f.1 (by rw[H6 hql]);refine⟨h',?_⟩;have hp:=qa hq f.1 hc;rw[<- hcode];simp -implicitDefEqProofs only[hnm,hty,aK,dI,gP,H8,I4,aZ,lK,aR,Hl,HL,LD27,G4,G8,G5,Nat.reduceAdd,GQ,Hn,He,Hq,cb,aF];rw[aE hp];simp only[dF,aF,hw,e',HM]
theorem t117(l:List bN)(hb:l.length<=140737488355328)(ht:∀f∈l,f.2.Lim)(most:Int):ai pg 117 [aB l,.int .i64 most]=M.pure (.bool (dM l most)):=by
 obtain⟨h',e⟩:=zR l hb ht most 0 l.length 0 rfl (Hi _) [] ([]++[[.tup []]]) rfl;rw[Hk]at e;rw[C117];funext hp;have key:S117 (ai pg) aj (cl az (aB l)) (cl az (.int .i64 most)) []= .ok (.bool (dM l most)) h':=by
  rw[pB,xu];have hn:ey []= .ok (.mp 0) ([]++[[.tup []]]):=rfl;simp -implicitDefEqProofs only[S117];rw[aE hn];simp only[vW,aF];exact e
 show aH _ hp=R.ok (.bool (dM l most)) hp;unfold aH;rw[key];rfl
def t119(l:List Exp)(hb:l.length<=140737488355328)(ht:∀e∈l,e.Lim)(n:Int):ai pg 119 [bO l,.int .i64 n]=M.pure (.bool (l.all ut&&((l.length:Int)== n))):=by
 have hloop:∀(m i:Nat),l.length-i=m->i<=l.length->aj (L119_0 (ai pg) aj) [bO l,.int .i64 n,bO l,.int .i64 l.length,.int .i64 i]=M.pure (.bool ((l.drop i).all ut&&((l.length:Int)== n))):=by
  intro m
  induction m with
  |zero=>
   intro i hm hi;rw[FL119_0];have h1:¬((i:Int)<(l.length:Int)):=by omega
   have h2:l.drop i=[]:=G6 (by omega);simp[L119_0,h1,h2]
  |succ m ih=>
   intro i hm hi;have hlt:i<l.length:=by omega
   have h1:(i:Int)<(l.length:Int):=by omega
   have h2:l.drop i=l[i]:: l.drop (i+1):=G2 hlt;have hw:IntKind.i64.wrap ((i:Int)+1)=((i+1:Nat):Int):=aS (by omega);have hix:=pm (l:=l) (n:=(i:Int)) (by omega) h1;rw[GZ,Hd l i hlt]at hix;have hr:=t118 l[i] (ht _ (GY hlt));have ih':=ih (i+1) (by omega) (by omega);rw[h2,HY,FL119_0];generalize l[i]=e at hix hr |-;cases hb2:ut e<;>rw[hb2]at hr <;>
   simp only[L119_0,aZ,be,bF,aF,h1,HF,aR,Hn,hix,bA,LD47,G4,G8,G5,Nat.reduceAdd,GQ,He,Hq,c8,pE,aK,hr,gP,H8,I4,Hl,HL,dF,hw,ih',HM,I3]
 have h:=hloop l.length 0 rfl (Hi _);rw[Hk]at h;have h':aj (L119_0 (ai pg) aj) [bO l,.int .i64 n,bO l,.int .i64 l.length,.int .i64 0]=M.pure (.bool (l.all ut&&((l.length:Int)== n))):=h;rw[C119];simp[S119,h']
def zD(f:Fun):aC 12 f.av=M.pure f.av:=by rw[bG (j0 f),gq,io]
theorem zX(m:Ap.Mod)(hm:m.Lim)(q:Nat)(R:Bool)(hend:∀h:Hp,∃h',aj (L48_0 (ai pg) aj) [.ip (ab m.av),.mp q,fV m.funcs,.int .i64 m.funcs.length,.int .i64 m.funcs.length] h= .ok (.bool R) h'):∀(n i:Nat),m.funcs.length-i=n->i<=m.funcs.length->∀(seen:List bn)(h:Hp),h[q]? = some [.tup (setRow seen)]->
  ∃h',aj (L48_0 (ai pg) aj) [.ip (ab m.av),.mp q,fV m.funcs,.int .i64 m.funcs.length,.int .i64 i] h= .ok (.bool (j9 seen (m.funcs.drop i)&&R)) h':=by
 have hb:=hm.funcs;intro n
 induction n with
 |zero=>
  intro i hn hi seen h hq;have h2:m.funcs.drop i=[]:=G6 (by omega);obtain rfl:i=m.funcs.length:=by omega
  rw[h2];exact hend h
 | succ n ih=>
  intro i hn hi seen h hq;have hlt:i<m.funcs.length:=by omega
  have h1:(i:Int)<(m.funcs.length:Int):=by omega
  have h2:m.funcs.drop i=m.funcs[i]:: m.funcs.drop (i+1):=G2 hlt;have hw:IntKind.i64.wrap ((i:Int)+1)=((i+1:Nat):Int):=aS (by omega);have hix:=y6 (l:=m.funcs) (n:=(i:Int)) (by omega) h1;rw[GZ,Hd m.funcs i hlt]at hix;have hfl:=hm.fns _ (GY hlt);have ih':=fun s=>ih (i+1) (by omega) (by omega) (seen++[s]) (h.set q [.tup (setRow (seen++[s]))]);have hql:q<h.length:=(Hc.1 hq).1;rw[h2];generalize m.funcs[i]=f at hix hfl |-;have hlk:=mZ hq f.name;have hnm:=t76 f.name;have hps:=t117 f.params hfl.params hfl.pty 6;have hty:=t47 f.result hfl.result;have hre:=t118 f.body hfl.body;have hex:am T .andNot 3 (.int .i64 f.effects) (.int .i64 15)=some (.int .i64 (ca f.effects 15)):=rfl;generalize hcode:aj (L48_0 (ai pg) aj) [.ip (ab m.av),.mp q,fV m.funcs,.int .i64 m.funcs.length,.int .i64 i] h=code;rw[FL48_0]at hcode;simp -implicitDefEqProofs only[L48_0,aZ,be,bF,aF,h1,HF,aR,Hn,hix,gq,LD73,G4,G8,G5,Nat.reduceAdd,GQ,He,Hq,io,zD,aK,FA73_0,Hk,LD9]at hcode;rw[aE hlk]at hcode;have eo:j9 seen (f:: m.funcs.drop (i+1))=(!(seen.contains f.name)&&q6 f&&j9 (seen++[f.name]) (m.funcs.drop (i+1))):=rfl;rw[eo];unfold q6;cases hc:seen.contains f.name with
  |true=>
   rw[hc]at hcode;refine⟨h,?_⟩;rw[<- hcode];simp[M.pure]
  | false=>
   rw[hc]at hcode;cases hn2:bE f.name with
   |false=>rw[hn2]at hnm;refine⟨h,?_⟩;rw[<- hcode];simp[hnm,M.pure]
   | true=>
    rw[hn2]at hnm;cases hp2:dM f.params 6 with
    |false=>rw[hp2]at hps;refine⟨h,?_⟩;rw[<- hcode];simp[hnm,hps,M.pure]
    | true=>
     rw[hp2]at hps;cases hr:aX f.result with
     |false=>rw[hr]at hty;refine⟨h,?_⟩;rw[<- hcode];simp[hnm,hps,hty,M.pure]
     | true=>
      rw[hr]at hty;cases hrb:ut f.body with
      |false=>rw[hrb]at hre;refine⟨h,?_⟩;rw[<- hcode];simp[hnm,hps,hty,hre,M.pure]
      | true=>
       rw[hrb]at hre;by_cases he:ca f.effects 15=0
       ·obtain⟨h',e'⟩:=ih' f.name (by rw[H6 hql]);refine⟨h',?_⟩;have hp:=qa hq f.name hc;rw[<- hcode];have e'':=e';simp only[ba]at e'';simp[hnm,hps,hty,hre,hex,he];rw[aE hp];simpa [hw]using e''
       ·refine⟨h,?_⟩;rw[<- hcode];have he':(ca f.effects 15== 0)=false:=GX.2 he;simp[hnm,hps,hty,hre,hex,he,he',M.pure]
def Ec(m:Ap.Mod)(hm:m.Lim)(q:Nat)(h:Hp):∃h',aj (L48_0 (ai pg) aj) [.ip (ab m.av),.mp q,fV m.funcs,.int .i64 m.funcs.length,.int .i64 m.funcs.length] h= .ok (.bool (nk m)) h':=by
 have hnm:=t76 m.name;have hv:=t117 m.vars hm.vars hm.vty 8;have hi:=t119 m.init hm.init hm.ies m.vars.length;have ho:=t117 m.old hm.old hm.oty 8;have hf:=fun n=>t119 m.forward hm.forward hm.fes n;have hb:=t119 m.back hm.back hm.bes m.old.length;refine⟨h,?_⟩;rw[FL48_0];unfold nk;generalize dM m.vars 8=b1 at hv |-;generalize (m.init.all ut&&((m.init.length:Int)== (m.vars.length:Int)))=b2 at hi |-;generalize dM m.old 8=b3 at ho |-;generalize (m.back.all ut&&((m.back.length:Int)== (m.old.length:Int)))=b4 at hb |-;cases hn:bE m.name with
 |false=>rw[hn]at hnm;simp[L48_0,hnm,M.pure]
 | true =>
  rw[hn]at hnm;by_cases hu:m.uses.length<=12
  ·have hu':¬(12<(m.uses.length:Int)):=by omega
   by_cases hfn:m.funcs.length<=30
   ·have hfn':¬(30<(m.funcs.length:Int)):=by omega
    cases b1 with
    |false=>simp[L48_0,hnm,hu,hu',hfn,hfn',hv,M.pure]
    | true=>
     cases b2 with
     |false=>simp[L48_0,hnm,hu,hu',hfn,hfn',hv,hi,M.pure]
     | true=>
      cases hmv:m.moves with
      |true=>
       have hfv:=hf m.vars.length;rw[GR rfl];generalize (m.forward.all ut&&((m.forward.length:Int)== (m.vars.length:Int)))=b5 at hfv |-;cases b3<;>cases b5<;>cases b4<;>simp[L48_0,K48_0,hnm,hu,hu',hfn,hfn',hv,hi,ho,hfv,hb,hmv,M.pure]
      | false=>
       have hfv:=hf 0;rw[if_neg (by decide)];generalize (m.forward.all ut&&((m.forward.length:Int)== 0))=b5 at hfv |-;by_cases hz:0<m.old.length
       ·have hz':0<(m.old.length:Int):=by omega
        have hz2:¬m.old.length=0:=by omega
        simp[L48_0,K48_0,hnm,hu,hu',hfn,hfn',hv,hi,hmv,hz,hz',hz2,M.pure]
       ·have hz':¬0<(m.old.length:Int):=by omega
        have hz2:m.old.length=0:=by omega
        have hb0:ai pg 119 [bO m.back,.int .i64 0]=M.pure (.bool b4):=by
         rw[hz2]at hb;exact hb
        cases b3<;>cases b5<;>cases b4<;>simp[L48_0,K48_0,hnm,hu,hu',hfn,hfn',hv,hi,ho,hfv,hb0,hmv,hz,hz',hz2,M.pure]
   ·have hfn':30<(m.funcs.length:Int):=by omega
    simp[L48_0,hnm,hu,hu',hfn,hfn',M.pure]
  ·have hu':12<(m.uses.length:Int):=by omega
   simp[L48_0,hnm,hu,hu',M.pure]
theorem zY(m:Ap.Mod)(hm:m.Lim)(q:Nat)(R:Bool)(hend:∀h:Hp,∃h',aj (L48_1 (ai pg) aj) [.ip (ab m.av),.mp q,strs m.uses,.int .i64 m.uses.length,.int .i64 m.uses.length] h= .ok (.bool R) h'):∀(n i:Nat),m.uses.length-i=n->i<=m.uses.length->∀(seen:List bn)(h:Hp),h[q]? = some [.tup (setRow seen)]->
  ∃h',aj (L48_1 (ai pg) aj) [.ip (ab m.av),.mp q,strs m.uses,.int .i64 m.uses.length,.int .i64 i] h= .ok (.bool (vK seen (m.uses.drop i)&&R)) h':=by
 have hb:=hm.uses;intro n
 induction n with
 |zero=>
  intro i hn hi seen h hq;have h2:m.uses.drop i=[]:=G6 (by omega);obtain rfl:i=m.uses.length:=by omega
  rw[h2];exact hend h
 | succ n ih=>
  intro i hn hi seen h hq;have hlt:i<m.uses.length:=by omega
  have h1:(i:Int)<(m.uses.length:Int):=by omega
  have h2:m.uses.drop i=m.uses[i]:: m.uses.drop (i+1):=G2 hlt;have hw:IntKind.i64.wrap ((i:Int)+1)=((i+1:Nat):Int):=aS (by omega);have hix:=uD (l:=m.uses) (n:=(i:Int)) (by omega) h1;rw[GZ,Hd m.uses i hlt]at hix;have ih':=fun s=>ih (i+1) (by omega) (by omega) (seen++[s]) (h.set q [.tup (setRow (seen++[s]))]);have hql:q<h.length:=(Hc.1 hq).1;rw[h2];generalize m.uses[i]=s at hix |-;have hlk:=mZ hq s;have hnm:=t76 s;generalize hcode:aj (L48_1 (ai pg) aj) [.ip (ab m.av),.mp q,strs m.uses,.int .i64 m.uses.length,.int .i64 i] h=code;rw[FL48_1]at hcode;simp -implicitDefEqProofs only[L48_1,aZ,be,bF,aF,h1,HF,aR,Hn,hix,eI,LD9]at hcode;rw[aE hlk]at hcode;have eo:vK seen (s:: m.uses.drop (i+1))=(!(seen.contains s)&&bE s&&vK (seen++[s]) (m.uses.drop (i+1))):=rfl;rw[eo];cases hc:seen.contains s with
  |true=>
   rw[hc]at hcode;refine⟨h,?_⟩;rw[<- hcode];simp[M.pure]
  | false=>
   rw[hc]at hcode;cases hn2:bE s with
   |false=>rw[hn2]at hnm;refine⟨h,?_⟩;rw[<- hcode];simp[hnm,M.pure]
   |true=>
    rw[hn2]at hnm;obtain⟨h',e'⟩:=ih' s (by rw[H6 hql]);refine⟨h',?_⟩;have hp:=qa hq s hc;rw[<- hcode];have e'':=e';simp only[ba]at e'';simp[hnm];rw[aE hp];simpa [hw]using e''
theorem t48(m:Ap.Mod)(hm:m.Lim):ai pg 48 [m.av]=M.pure (.bool (gM m)):=by
 have hend:∀h:Hp,∃h',aj (L48_1 (ai pg) aj) [.ip (ab m.av),.mp 0,strs m.uses,.int .i64 m.uses.length,.int .i64 m.uses.length] h= .ok (.bool (j9 [] m.funcs&&nk m)) h':=fun h=>by
  have h1:¬((m.uses.length:Int)<(m.uses.length:Int)):=by omega
  obtain⟨h',e⟩:=zX m hm h.length (nk m) (fun h=>Ec m hm _ h) m.funcs.length 0 rfl (Hi _) [] (h++[[.tup []]]) (by simp[setRow]);rw[Hk]at e;refine⟨h',?_⟩;rw[FL48_1];have hn:ey h= .ok (.mp h.length) (h++[[.tup []]]):=rfl;simp only[ba]at e;simp -implicitDefEqProofs only[L48_1,aZ,be,bF,aF,h1,IB,aR,Hl,HL];rw[aE hn];simp only[ba,FA41_4,HK,Hk,aF,LD37,Bg];exact e
 obtain⟨h',e⟩:=zY m hm 0 _ hend m.uses.length 0 rfl (Hi _) [] ([]++[[.tup []]]) rfl;rw[Hk]at e;rw[C48];funext hp;have key:S48 (ai pg) aj (cl az m.av) []= .ok (.bool (gM m)) h':=by
  have hn:ey []= .ok (.mp 0) ([]++[[.tup []]]):=rfl;simp only[ba]at e;rw[sG];simp -implicitDefEqProofs only[S48];rw[aE hn];simp only[ba,FA41_1,HK,Hk,aF,LD35,vX];exact e
 show aH _ hp=R.ok (.bool (gM m)) hp;unfold aH;rw[key];rfl
def FX{m:Ap.Mod}(hm:m.Lim)(K:ModOk m):MvOk m:=⟨hm,K.vlen,K.vars,K.ilen,K.init,K.olen,K.old,K.wlen,K.forw,K.blen,K.back⟩
def FK{m:Ap.Mod}(K:ModOk m){fs:List Face}(hfs:∀f∈fs,f.Lim)(ha:∀f∈fs,eN f=true):CxOk m fs where
 vlen:=by have:=K.vlen;omega
 vars:=K.vars
 flen:=by have:=K.flen;omega
 ulen:=by have:=K.ulen;omega
 plen:=fun f hf=>by have:=(K.fns f hf).plen;omega
 pars:=fun f hf=>(K.fns f hf).pars
 res:=fun f hf=>(K.fns f hf).res
 slen:=fun f hf=>(hfs f hf).len
 splen:=fun f hf s hs=>((hfs f hf).sigs s hs).plen
 spars:=fun f hf s hs t ht=>by
  have:=ha f hf
  unfold eN at this;rw[GT]at this;have h2:=this s hs;simp only[GO,GT]at h2;exact h2.2 t ht
 sres:=fun f hf s hs=>by
  have:=ha f hf
  unfold eN at this;rw[GT]at this;have h2:=this s hs;simp only[GO]at h2;exact h2.1
theorem zp{m:Ap.Mod}(hm:m.Lim)(MK:ModOk m){fs:List Face}(K:CxOk m fs){q:Nat}{mp:AV}:∀(k i:Nat)(n:Int)(h:Hp),m.funcs.length-i=k->i<=m.funcs.length->JR h q m mp fs n->
  ∃h',aj (L50_0 (ai pg) aj) [.hp q 0,fV m.funcs,.int .i64 m.funcs.length,.int .i64 i] h= .ok (jy (bo ((vV m fs).drop i))) h':=by
 intro k;have hfl:=MK.flen
 induction k with
 |zero=>
  intro i n h hk hi R;have h1:¬((i:Int)<(m.funcs.length:Int)):=by omega
  have h2:(vV m fs).drop i=[]:=G6 (by simp[vV];omega);refine⟨h,?_⟩;rw[FL50_0,h2];simp[L50_0,h1];rfl
 | succ k ih=>
  intro i n h hk hi R;have hlt:i<m.funcs.length:=by omega
  have h1:(i:Int)<(m.funcs.length:Int):=by omega
  have h2:(vV m fs).drop i=(m.funcs[i].name,sZ (c7 m fs) m.funcs[i]):: (vV m fs).drop (i+1):=by
   rw[G2 (by simp[vV];exact hlt)];simp[vV]
  have hw:IntKind.i64.wrap ((i:Int)+1)=(i:Int)+1:=aS (by omega);have hix:=y6 (l:=m.funcs) (n:=(i:Int)) (by omega) h1;rw[GZ,Hd m.funcs i hlt]at hix;have hf:=MK.fns _ (GY hlt);have hfl2:=hm.fns _ (GY hlt);rw[h2,bo];generalize m.funcs[i]=f at hix hf hfl2 |-;have R1:=R.set 0;obtain⟨p1,p2⟩:=CL K 12 f.params f.body 0 _ hf.body hfl2.body (fun z hz=>dZ (hf.pars z hz)) (by have:=hf.plen;omega) R1;have s1:∀g:AV->M AV,ae (bI T 3 (.hp q 10) (.int .i64 0)) g h=g (.tup []) (h.set q (aT m mp 0)):=fun g=>aE (R.put 0) g;rw[FL50_0];have hne:=fB (c7 m fs) 12 f.params f.body 0;cases ht:bh (c7 m fs) 12 f.params f.body 0 with
  |er b n'=>
   rw[ht]at p1;have hb0:=hne b n' ht;have hb:(b != 0)=true:=Ib.2 hb0;have k1:∀g:AV->M AV,ae (ai pg 124 [.hp q 0,aB f.params,f.body.av]) g (h.set q (aT m mp 0))=g (.tup [ty0.av,.int .i64 b]) ((h.set q (aT m mp 0)).set q (aT m mp n')):=fun g=>aE p1 g;have hx:sZ (c7 m fs) f=b:=by unfold sZ;rw[ht]
   rw[hx];dsimp only;rw[if_neg hb0];refine⟨(h.set q (aT m mp 0)).set q (aT m mp n'),?_⟩;simp[L50_0,h1,hix,s1,k1,hb];rfl
  | ok t n'=>
   rw[ht]at p1;have k1:∀g:AV->M AV,ae (ai pg 124 [.hp q 0,aB f.params,f.body.av]) g (h.set q (aT m mp 0))=g (.tup [t.av,.int .i64 0]) ((h.set q (aT m mp 0)).set q (aT m mp n')):=fun g=>aE p1 g;have R2:=R1.set n';have l1:∀g:AV->M AV,ae (bi T 3 (.hp q 10)) g ((h.set q (aT m mp 0)).set q (aT m mp n'))=g (.int .i64 n') ((h.set q (aT m mp 0)).set q (aT m mp n')):=fun g=>aE R2.eff g;rw[GA]at l1;have hbl:=gw (p2 t n' ht) hf.res;have hex:am T .andNot 3 (.int .i64 n') (.int .i64 f.effects)=some (.int .i64 (ca n' f.effects)):=rfl;by_cases hb:bu t f.result=true
   case neg=>
    rw[Is]at hb;rw[hb]at hbl;have hx:sZ (c7 m fs) f=13:=by unfold sZ;rw[ht];simp[hb]
    rw[hx];dsimp only;rw[if_neg (by decide)];refine⟨(h.set q (aT m mp 0)).set q (aT m mp n'),?_⟩;simp[L50_0,h1,hix,s1,k1,hbl];rfl
   case pos=>
    rw[hb]at hbl;by_cases he:ca n' f.effects=0
    ·have hx:sZ (c7 m fs) f=0:=by unfold sZ;rw[ht];simp[hb,he]
     rw[hx];dsimp only;rw[GR rfl];obtain⟨h',e'⟩:=ih (i+1) n' _ (by omega) (by omega) R2;have e'':aj (L50_0 (ai pg) aj) [.hp q 0,fV m.funcs,.int .i64 m.funcs.length,.int .i64 ((i:Int)+1)] ((h.set q (aT m mp 0)).set q (aT m mp n'))=_:=e';rw[GA]at e'';refine⟨h',?_⟩;simp[L50_0,h1,hix,s1,k1,hbl,l1,hex,he,hw,-mn];exact e''
    ·have hx:sZ (c7 m fs) f=14:=by unfold sZ;rw[ht];simp[hb,he]
     rw[hx];dsimp only;rw[if_neg (by decide)];have he':(ca n' f.effects != 0)=true:=Ib.2 he;refine⟨(h.set q (aT m mp 0)).set q (aT m mp n'),?_⟩;simp[L50_0,h1,hix,s1,k1,hbl,l1,hex,he',-mn];rfl
def zq{m:Ap.Mod}(hm:m.Lim)(MK:ModOk m){fs:List Face}(K:CxOk m fs){q:Nat}{mp:AV}{h:Hp}(R:JR h q m mp fs 0):∀(k i:Nat),m.uses.length-i=k->i<=m.uses.length->
  ∃h',aj (L50_1 (ai pg) aj) [.ip (ab m.av),.hp q 0,strs m.uses,.int .i64 m.uses.length,.int .i64 i] h= .ok (jy (bo ((i7 m fs).drop i++iw m:: vV m fs))) h':=by
 intro k;have hul:=MK.ulen
 induction k with
 | zero=>
  intro i hk hi;have h1:¬((i:Int)<(m.uses.length:Int)):=by omega
  have h2:(i7 m fs).drop i=[]:=G6 (by simp[i7];omega);have hmv:=F5 (FX hm MK);rw[h2,Hv,bo,FL50_1];unfold jy at hmv;by_cases hb:(iw m).2=0
  ·rw[GR hb];obtain⟨h',e'⟩:=zp hm MK K m.funcs.length 0 0 h rfl (Hi _) R;have e'':aj (L50_0 (ai pg) aj) [.hp q 0,fV m.funcs,.int .i64 m.funcs.length,.int .i64 0] h= .ok (jy (bo (vV m fs))) h':=e';rw[hb]at hmv;refine⟨h',?_⟩;simp[L50_1,h1,hmv,e'']
  ·rw[if_neg hb];have hb':((iw m).2 != 0)=true:=Ib.2 hb;refine⟨h,?_⟩;simp[L50_1,h1,hmv,hb'];rfl
 | succ k ih=>
  intro i hk hi;have hlt:i<m.uses.length:=by omega
  have h1:(i:Int)<(m.uses.length:Int):=by omega
  have h2:(i7 m fs).drop i=(m.uses[i],if(fs.find? fun f=>f.module== m.uses[i]).isNone||m.uses[i]== m.name then 12 else 0):: (i7 m fs).drop (i+1):=by
   rw[G2 (by simp[i7];exact hlt)];simp[i7]
  have hw:IntKind.i64.wrap ((i:Int)+1)=(i:Int)+1:=aS (by omega);have hix:=uD (l:=m.uses) (n:=(i:Int)) (by omega) h1;rw[GZ,Hd m.uses i hlt]at hix;obtain⟨h',e'⟩:=ih (i+1) (by omega) (by omega);have e'':aj (L50_1 (ai pg) aj) [.ip (ab m.av),.hp q 0,strs m.uses,.int .i64 m.uses.length,.int .i64 ((i:Int)+1)] h=_:=e';rw[h2,Ht,bo,FL50_1];generalize m.uses[i]=u at hix |-;have l1:∀g:AV->M AV,ae (bi T 139 (.hp q 9)) g h=g mp h:=fun g=>aE R.mp g;have l2:∀g:AV->M AV,ae (dN T 139 mp (.str u) true) g h=g (.tup [((fs.find? fun f=>f.module== u).getD jN).av,.bool (fs.find? fun f=>f.module== u).isSome]) h:=fun g=>aE (kQ R.map u) g;simp only[ba]at e'';cases hf:fs.find? (fun f=>f.module== u)with
  |none=>
   rw[hf]at l2;refine⟨h,?_⟩;simp[L50_1,h1,hix,l1,l2,iK,jy];rfl
  | some f=>
   rw[hf]at l2;by_cases hu:u=m.name
   ·subst hu;refine⟨h,?_⟩;simp[L50_1,h1,hix,l1,l2,iK,jy];rfl
   ·refine⟨h',?_⟩;have hu':(u== m.name)=false:=GX.2 hu;simp[L50_1,h1,hix,l1,l2,iK,hu,hw,e'']
theorem Gp(m:Ap.Mod)(hm:m.Lim)(fs:List Face)(hfs:∀f∈fs,f.Lim)(hlen:fs.length<=140737488355328):ai pg 50 [m.av,faces fs]=M.pure (jy (ia m fs)):=by
 have fin:∀(h:Hp)(x:bn×Int),fU 6 h (jy x)=jy x:=fun h x=>by
  have hc:Ap.Clean (jy x):=fun g=>by simp[jy,cl,c5]
  exact hc.frz 6 h
 have hR:=t48 m hm;have lm:ah T 41 (.ip (ab m.av))=some m.av:=rfl;obtain⟨n1,n2⟩:=F0 m fs hfs hlen [];rw[C50,sG,xp];unfold ia;cases ha:fs.all eN with
 |false=>
  obtain⟨h',e'⟩:=n2 ha;have k1:∀g:AV->M AV,ae (ai pg 122 [m.av,faces fs]) g []=g (.tup [.nilp,.bool false]) h':=fun g=>aE e' g;refine bC (v:=jy ([],1)) (h':=h') ?_ (fin _ _);simp only[ba]at lm;simp[S50,k1,lm];rfl
 | true=>
  have e1:=n1 ha;have k1:∀g:AV->M AV,ae (ai pg 122 [m.av,faces fs]) g []=g (.tup [.hp 1 0,.bool true]) ([]++[[.tup (bM (cD [] fs))],aT m (.mp 0) 0]):=fun g=>aE e1 g;cases hr:gM m with
  |false=>
   rw[hr]at hR;refine bC (v:=jy ([],1)) (h':=[]++[[.tup (bM (cD [] fs))],aT m (.mp 0) 0]) ?_ (fin _ _);simp only[ba]at lm;simp[S50,k1,lm,hR];rfl
  | true=>
   rw[hr]at hR;have MK:=Cs hr;have hdm:∀f∈cD [] fs,f∈fs:=fun f hf=>by
    rcases oz fs [] f hf with h|h
    ·cases h
    ·exact h
   have K:CxOk m (cD [] fs):=FK MK (fun f hf=>hfs f (hdm f hf)) (fun f hf=>GT.1 ha f (hdm f hf));have R:JR ([]++[[.tup (bM (cD [] fs))],aT m (.mp 0) 0]) 1 m (.mp 0) (cD [] fs) 0:=⟨rfl,.inr ⟨0,rfl,rfl⟩,by simp⟩;obtain⟨h',e'⟩:=zq hm MK K R m.uses.length 0 rfl (Hi _);have e'':aj (L50_1 (ai pg) aj) [.ip (ab m.av),.hp 1 0,strs m.uses,.int .i64 m.uses.length,.int .i64 0] ([]++[[.tup (bM (cD [] fs))],aT m (.mp 0) 0])= .ok (jy (bo (i7 m (cD [] fs)++iw m:: vV m (cD [] fs)))) h':=e';simp only[ba]at lm e'';simp only[I6,Hn];refine bC (v:=jy (bo (i7 m (cD [] fs)++iw m:: vV m (cD [] fs)))) (h':=h') ?_ (fin _ _);rw[<- e''];simp[S50,k1,lm,hR]
theorem A1(k:Int):aN T false 47 [(0,.int .i64 k)]=some (Exp.mk k 0 [] [] [] []).av:=rfl
theorem Gg(s:bn):aJ T 35 1 [(0,.str s)]=some (strs [s]):=rfl
theorem Ef(e:Exp):aJ T 36 1 [(0,e.av)]=some (bO [e]):=by
 have h:aJ T 36 1 [(0,e.av)]=(eu 6 [AV.agg [.int .i64 0,.int .i64 0,.str [],.str [],.sl [],.sl []]] [(0,e.av)]).map .sl:=rfl;rw[h];simp[eu,bO,eq];rfl
@[simp] theorem uR(l:List bn):bK (strs l)=M.pure (strs l):=rfl
@[simp] theorem oq(l:List Exp):bK (bO l)=M.pure (bO l):=by rw[bO,eM];rfl
def Cr(t:Ty)(h8:t.fields.length<=8)(hk:∀f∈t.fields,ai pg 68 [f.2.av]=M.pure (eF f.2).av)(x3 x4 x5 x6 x7 x8:AV):∀(n i:Nat),t.fields.length-i=n->i<=t.fields.length->∀(ns:List bn)(es:List Exp),ns.length=i->es.length=i->
  aj (L68_0 (ai pg) aj) [aB t.fields,.int .i64 t.fields.length,.int .i64 i,x3,x4,x5,x6,x7,x8,.int .i64 13,.int .i64 0,.str [],.str [],strs ns,bO es]=M.pure (Exp.mk 13 0 [] [] (ns++(t.fields.drop i).map (·.1)) (es++(t.fields.drop i).map fun f=>eF f.2)).av:=by
 intro n
 induction n with
 |zero=>
  intro i hn hi ns es hns hes;rw[FL68_0];have h1:¬((i:Int)<(t.fields.length:Int)):=by omega
  have h2:t.fields.drop i=[]:=G6 (by omega);have h3:AV.agg [.int .i64 13,.int .i64 0,.str [],.str [],strs ns,bO es]=(Exp.mk 13 0 [] [] ns es).av:=c8 (Exp.mk 13 0 [] [] ns es);have h4:ao 6 [] (Exp.mk 13 0 [] [] ns es).av=M.pure (Exp.mk 13 0 [] [] ns es).av:=by rw[aM (fR _),bA,c8]
  simp only[L68_0,aZ,be,bF,aF,h1,IB,aR,Hl,HL,h3,h4,aK,bA,c8,h2,Jt,I0]
 |succ n ih=>
  intro i hn hi ns es hns hes;have hlt:i<t.fields.length:=by omega
  have h1:(i:Int)<(t.fields.length:Int):=by omega
  have h2:t.fields.drop i=t.fields[i]:: t.fields.drop (i+1):=G2 hlt;have hix:=lU (l:=t.fields) (n:=(i:Int)) (by omega) h1;rw[GZ,Hd t.fields i hlt]at hix;have hm:=hk t.fields[i] (GY hlt);have hw:IntKind.i64.wrap ((i:Int)+1)=((i+1:Nat):Int):=aS (by omega);have ih':=ih (i+1) (by omega) (by omega) (ns++[(t.fields[i]).1]) (es++[eF (t.fields[i]).2]) (by simp[hns]) (by simp[hes]);rw[HN,HN,IG,IG]at ih';rw[h2,Hs,Hs,<- ih',FL68_0];generalize t.fields[i]=f at hix hm |-;have ha:=Fj (a:=ns) (b:=[f.1]) (by simp;omega);have hb:=Dk (a:=es) (b:=[eF f.2]) (by simp;omega);have hc:aC 3 (a7 f)=M.pure (a7 f):=by rw[bG (fl f),cg,ew]
  simp only[L68_0,aZ,be,bF,aF,h1,HF,aR,Hn,hix,cg,LD76,G4,G8,G5,Nat.reduceAdd,GQ,He,Hq,ew,hc,aK,FA76_0,FA76_1,Hk,HK,LD9,Gg,ha,uR,LD27,cb,hm,dB,Ef,hb,oq,dF,hw]
theorem t68:∀(d:Nat)(t:Ty),t.Lim->cp d t=true->ai pg 68 [t.av]=M.pure (eF t).av
 |0,_,_,h=>by cases h
 | d+1,t,ht,h=>by
  have hr:=h;rw[cU]at hr;simp only[GO,GT]at hr;have h8:t.fields.length<=8:=H9 hr.1.1.2;have hloop:=Cr t h8 (fun f hf=>t68 d f.2 (ht.kid hf) (hr.2.1 f hf).2) (.int .i64 0) (.int .i64 0) (.str []) (.str []) (.sl []) (.sl []) t.fields.length 0 rfl (Hi _) [] [] rfl rfl;rw[Hk,Hv,Hv]at hloop;have h':aj (L68_0 (ai pg) aj) [aB t.fields,.int .i64 t.fields.length,.int .i64 0,.int .i64 0,.int .i64 0,.str [],.str [],.sl [],.sl [],.int .i64 13,.int .i64 0,.str [],.str [],.sl [],.sl []]=M.pure (Exp.mk 13 0 [] [] (t.fields.map (·.1)) (t.fields.map fun f=>eF f.2)).av:=hloop;have hb:∃v,aN T true 47 [(0,.int .i64 13)]=some v/\ao 6 [4,5] v=M.pure v/\ab v=[.int .i64 13,.int .i64 0,.str [],.str [],.hn,.hn]:=⟨_,rfl,rfl,rfl⟩;obtain⟨v,hb1,hb2,hb3⟩:=hb;have hz:∀k:Int,ao 6 [] (Exp.mk k 0 [] [] [] []).av=M.pure (Exp.mk k 0 [] [] [] []).av:=fun k=>by rw[aM (fR _),bA,c8]
  rw[C68,l9];by_cases k0:t.kind=0
  ·have k0':(t.kind== 0)=true:=by simp[k0]
   simp[S68,k0',k0,A1,hz]
  ·have k0':(t.kind== 0)=false:=GX.2 k0;by_cases k1:t.kind=1
   ·have k1':(t.kind== 1)=true:=by simp[k1]
    simp[S68,k1',k1,A1,hz]
   ·have k1':(t.kind== 1)=false:=GX.2 k1;rw[if_neg k0,if_neg k1];simp[S68,k0',k1',hb1,hb2,hb3,h']
def zA(old now:Face):AV:=if fQ old now=true then(match gU old now with
  |some f=>.tup [(dw old f).av,.bool true]
  |none=>.tup [vE.av,.bool false])else .tup [vE.av,.bool false]
theorem mo:aN T false 41 []=some vE.av:=rfl
def Ca(m:Ap.Mod):ao 9 [] m.av=M.pure m.av:=by rw[aM (iA m),ba,iq]
def qt(old:Face)(f:Sig)(es:List Exp):AV:=.agg [.str fP,.bool false,.sl [],.int .i64 f.result.kind,aB f.result.fields,.int .i64 f.effects,.int .i64 15,.int .i64 0,.str f.name,.str old.module,.hn,bO es]
def pD(nm:bn)(old:Face)(f:Sig)(es:List Exp):AV:=.agg [.str nm,strs [old.module],.sl [],.sl [],.sl [qt old f es],.bool false,.sl [],.sl [],.sl []]
def tT(nm:bn)(old:Face)(f:Sig)(es:List Exp)(g:Nat->Nat->Nat->Nat->Bool->AV):cl g (pD nm old f es)=(Ap.Mod.mk nm [old.module] [] [] [Fun.mk fP false [] f.result f.effects (.mk 15 0 f.name old.module [] es)] false [] [] []).av:=by
 have h:cl g (qt old f es)=(Fun.mk fP false [] f.result f.effects (.mk 15 0 f.name old.module [] es)).av:=by
  rw[<- io];simp[qt,cl,c5]
  and_intros<;>rfl
 rw[<- iq];simp only[pD,cl,c5,h];simp[fV,aB,dk,bO,eq]
def t6{x y:AV}(h:∀g,cl g x=y):aH (M.pure x)=M.pure y:=by
 funext hp;show R.ok (fU 6 [] x) hp=R.ok y hp;rw[show fU 6 [] x=y from h _]
def uQ(old:Face)(f:Sig)(es:List Exp):aN T false 73 [(0,.str fP),(3,f.result.av),(4,.int .i64 f.effects),(5,.agg [.int .i64 15,.int .i64 0,.str f.name,.str old.module,.hn,bO es])]=some (qt old f es):=by
 unfold qt;cases f.result;rfl
def yk(old:Face)(f:Sig)(es:List Exp):cf 12 (qt old f es)=true:=by
 rw[qt];simp[cf,bc,aB,bO,cq,ab]
def B9(old:Face)(f:Sig)(es:List Exp):aC 12 (qt old f es)=M.pure (qt old f es):=by rw[bG (yk old f es)];rfl
theorem sA(old:Face)(f:Sig)(es:List Exp):aJ T 37 1 [(0,qt old f es)]=some (.sl [qt old f es]):=by
 have h:=yk old f es;have hs:cq (qt old f es)=some 12:=rfl;have e:aJ T 37 1 [(0,qt old f es)]=(eu 12 [AV.agg [.str [],.bool false,.sl [],.int .i64 0,.sl [],.int .i64 0,.int .i64 0,.int .i64 0,.str [],.str [],.sl [],.sl []]] [(0,qt old f es)]).map .sl:=rfl;rw[e];simp[eu,hs]
theorem sy(nm:bn)(old:Face)(f:Sig)(es:List Exp):aN T false 41 [(0,.str nm),(1,strs [old.module]),(4,.sl [qt old f es])]=some (pD nm old f es):=rfl
def zE(nm:bn)(old:Face)(f:Sig)(es:List Exp):ao 9 [] (pD nm old f es)=M.pure (pD nm old f es):=by
 rw[aM (by simp[pD,cf,bc,strs,cq,ab])];rfl
theorem Co(old:Face)(f:Sig)(hp:f.params.length<=6)(hk:∀t∈f.params,ai pg 68 [t.av]=M.pure (eF t).av)(nm:bn)(x6 x7 x8 x9 x10 x11 x12 x13 x14:AV):∀(n i:Nat),f.params.length-i=n->i<=f.params.length->∀es:List Exp,es.length=i->
  aj (L19_0 (ai pg) aj) [.ip (ab old.av),.ip (ab f.av),.str nm,dS f.params,.int .i64 f.params.length,.int .i64 i,x6,x7,x8,x9,x10,x11,x12,x13,x14,.int .i64 15,.int .i64 0,.str f.name,.str old.module,.hn,bO es]=
   M.pure (.tup [pD nm old f (es++(f.params.drop i).map eF),.bool true]):=by
 intro n
 induction n with
 |zero=>
  intro i hn hi es hes;rw[FL19_0];have h1:¬((i:Int)<(f.params.length:Int)):=by omega
  have h2:f.params.drop i=[]:=G6 (by omega);rw[h2,Jt,I0];have hb:=uQ old f es;have hs:aJ T 35 1 [(0,.str old.module)]=some (strs [old.module]):=rfl;have hl:ah T 73 (.ip (ab (qt old f es)))=some (qt old f es):=rfl;have ha:ab (pD nm old f es)=[.str nm,strs [old.module],.sl [],.sl [],.sl [qt old f es],.bool false,.sl [],.sl [],.sl []]:=rfl;simp only[L19_0,aZ,be,bF,aF,h1,IB,aR,Hl,HL,cV,FA56_2,FA56_3,HK,Hk,LD27,LD3,G4,G8,G5,Nat.reduceAdd,GQ,Nat.reduceLeDiff,Hn,He,Hq,cb,show ([109,97,105,110]:bn)=fP from rfl,hb,B9,aK,cz,FA24_0,LD9,hs,hl,sA,sy,zE,ha];rfl
 |succ n ih=>
  intro i hn hi es hes;have hlt:i<f.params.length:=by omega
  have h1:(i:Int)<(f.params.length:Int):=by omega
  have h2:f.params.drop i=f.params[i]:: f.params.drop (i+1):=G2 hlt;have hix:=lV (l:=f.params) (n:=(i:Int)) (by omega) h1;rw[GZ,Hd f.params i hlt]at hix;have hm:=hk f.params[i] (GY hlt);have hw:IntKind.i64.wrap ((i:Int)+1)=((i+1:Nat):Int):=aS (by omega);have ih':=ih (i+1) (by omega) (by omega) (es++[eF f.params[i]]) (by simp[hes]);rw[HN,IG]at ih';rw[h2,Hs,<- ih',FL19_0];generalize f.params[i]=t at hix hm |-;have hb:=Dk (a:=es) (b:=[eF t]) (by simp;omega);simp only[L19_0,aZ,be,bF,aF,h1,HF,aR,Hn,hix,bw,LD27,G4,G8,G5,Nat.reduceAdd,GQ,He,Hq,cb,Av.dG,aK,hm,dB,Ef,hb,oq,dF,hw]
def ki{f:Sig}(h:dR f=true):f.params.length<=6/\∀t∈f.params,aX t=true:=by
 unfold dR at h;simp only[GO,GT,G0]at h;exact⟨h.1.1.1.2,h.2⟩
def qN{old:Face}(h:bL old=true){f:Sig}(hf:f∈old.funcs):dR f=true:=by
 unfold bL at h;simp only[GO,GT]at h;exact h.2.1 f hf
theorem t19(a b:Face)(ha:a.Lim)(hb:b.Lim):ai pg 19 [a.av,b.av]=M.pure (zA a b):=by
 have h1:=t64 a b ha hb;have hz:=Ca vE;rw[C19];have hz0:∀b:Bool,aH (M.pure (.tup [vE.av,.bool b]))=M.pure (.tup [vE.av,.bool b]):=fun b=>bH fun g=>by simp[cl,c5]
 have key:aH (S19 (ai pg) aj (cl az a.av) (cl az b.av))=M.pure (zA a b):=by
  unfold zA;cases hm:fQ a b with
  |false=>
   rw[hm]at h1;simp[S19,h1,mo,hz,-ba];exact hz0 false
  | true=>
   rw[hm]at h1;have hm':=(gG _ _).1 hm;have h2:=t65 a b ha hb hm'.2.2;rw[GR rfl];cases hl:gU a b with
   |none=>
    rw[hl]at h2;simp[S19,h1,h2,mo,hz,-ba];exact hz0 false
   | some f=>
    rw[hl]at h2;have hf:f∈a.funcs:=HH hl;have hrp:=ki (qN hm'.2.1 hf);have hfl:=ha.sigs f hf;have hk:∀t∈f.params,ai pg 68 [t.av]=M.pure (eF t).av:=fun t ht=>t68 4 t (hfl.ptys t ht) (hrp.2 t ht);have hloop:=fun nm=>Co a f hrp.1 hk nm (.str []) (.sl []) (.sl []) (.sl []) (.sl []) (.bool false) (.sl []) (.sl []) (.sl []) f.params.length 0 rfl (Hi _) [] rfl;simp only[Hk,Hv]at hloop;have hloop':∀nm,aj (L19_0 (ai pg) aj) [.ip [.str a.module,sigs a.funcs],.ip [.str f.name,dS f.params,.int .i64 f.result.kind,aB f.result.fields,.int .i64 f.effects],.str nm,dS f.params,.int .i64 f.params.length,.int .i64 0,.str [],.sl [],.sl [],.sl [],.sl [],.bool false,.sl [],.sl [],.sl [],.int .i64 15,.int .i64 0,.str f.name,.str a.module,.hn,.sl []]=
      M.pure (.tup [pD nm a f (f.params.map eF),.bool true]):=fun nm=>by
     have:=hloop nm
     simp only[cV,cz]at this;exact this
    have hb1:∃v,aN T true 47 [(0,.int .i64 15),(2,.str f.name),(3,.str a.module)]=some v/\ao 6 [5] v=M.pure v/\ab v=[.int .i64 15,.int .i64 0,.str f.name,.str a.module,.hn,.hn]:=⟨_,rfl,rfl,rfl⟩;obtain⟨v,hb1,hb2,hb3⟩:=hb1;have hcm:(dw a f).av=(Ap.Mod.mk (if a.module=cv then fP else cv) [a.module] [] [] [Fun.mk fP false [] f.result f.effects (.mk 15 0 f.name a.module [] (f.params.map eF))] false [] [] []).av:=rfl;simp only;rw[hcm];have hcs:am T .eql 9 (.str a.module) (.str cv)=some (.bool (a.module== cv)):=rfl;by_cases hc:a.module=cv
    ·have hc':(a.module== cv)=true:=Hy.2 hc;rw[hc']at hcs;rw[GR hc];simp[S19,K19_0,h1,h2,hcs,hb1,hb2,hb3,-iT,show ([109,97,105,110]:bn)=fP from rfl,show ([99,108,105,101,110,116]:bn)=cv from rfl,hloop'];exact t6 fun g=>by simp[cl,c5,tT]
    ·have hc':(a.module== cv)=false:=GX.2 hc;rw[hc']at hcs;rw[if_neg hc];simp[S19,K19_0,h1,h2,hcs,hb1,hb2,hb3,-iT,show ([109,97,105,110]:bn)=fP from rfl,show ([99,108,105,101,110,116]:bn)=cv from rfl,hloop'];exact t6 fun g=>by simp[cl,c5,tT]
 exact key
theorem ud:∀(d:Nat)(t:Ty),cp d t=true->∀n,(eF t).limN n
 |0,_,h=>by cases h
 | d + 1,t,h=>by
  have hr:=h;rw[cU]at hr;simp only[GO,GT]at hr;have h8:t.fields.length<=8:=H9 hr.1.1.2;intro n;cases n with
  |zero=>exact trivial
  | succ n=>
   rw[l9];split
   ·exact⟨by simp[Exp.names],by simp[Exp.args],fun x hx=>by simp[Exp.args]at hx⟩
   ·split
    ·exact⟨by simp[Exp.names],by simp[Exp.args],fun x hx=>by simp[Exp.args]at hx⟩
    ·refine⟨by simp[Exp.names];omega,by simp[Exp.args];omega,fun x hx=>?_⟩;simp only[Exp.args,HV]at hx;obtain⟨f,hf,rfl⟩:=hx;exact ud d f.2 (hr.2.1 f hf).2 n
def zL{a:Face}{f:Sig}(hr:dR f=true)(hf:f.Lim):(dw a f).Lim:=by
 have hp:=ki hr;have he:(ib a f).Lim:=fun n=>by
  cases n with
  |zero=>exact trivial
  |succ n=>
   refine⟨by simp[ib,Exp.names],by simp[ib,Exp.args];omega,fun x hx=>?_⟩;simp only[ib,Exp.args,HV]at hx;obtain⟨t,ht,rfl⟩:=hx;exact ud 4 t (hp.2 t ht) n
 exact⟨by simp[dw],by simp[dw],fun x hx=>by simp[dw]at hx,by simp[dw],fun x hx=>by simp[dw]at hx,by simp[dw],fun x hx=>by
  simp only[dw,HJ]at hx;subst hx;exact⟨by simp[jG],fun y hy=>by simp[jG]at hy,hf.result,he⟩,by simp[dw],fun x hx=>by simp[dw]at hx,by simp[dw],fun x hx=>by simp[dw]at hx,by simp[dw],fun x hx=>by simp[dw]at hx⟩
@[simp] theorem CX(a b:Bool):am T .neq 4 (.bool a) (.bool b)=some (.bool (a != b)):=rfl
def t10(a b:Face)(ha:a.Lim)(hb:b.Lim):ai pg 10 [a.av,b.av]=M.pure (.bool true):=by
 rw[C10];obtain⟨p,hp⟩:=Ed a ha;obtain⟨q,hq⟩:=Ed b hb;cases p with
 |false=>simp[S10,eg,hp]
 | true=>
  cases q with
  |false=>simp[S10,eg,hp,hq]
  | true=>
   have hC:=t17 a b ha hb;have hCl:=t19 a b ha hb;have hra:=t27 a ha;have hrb:=t27 b hb;have bf:∀f:Face,aJ T 78 1 [(0,f.av)]=some (faces [f]):=fun f=>rfl;have x0:∀x:bn×Int,ax (jy x) 0=some (.str x.1):=fun _=>rfl;have x1:∀x:bn×Int,ax (jy x) 1=some (.int .i64 x.2):=fun _=>rfl;have cm9:∀m:Ap.Mod,aC 9 m.av=M.pure m.av:=fun m=>by rw[bG (iA m),ba,iq]
   unfold jH at hC;unfold zA at hCl;by_cases hmt:fQ a b=true
   ·rw[GR hmt]at hC hCl;obtain⟨h1,fa,fb⟩:=(gG a b).1 hmt;cases hl:gU a b with
    | none=>
     rw[hl]at hC hCl;cases hl2:gU b a with
     |none=>
      rw[hl2]at hC;simp[S10,eg,hp,hq,hC,hCl,cm9]
     |some g=>
      rw[hl2]at hC;simp[S10,eg,hp,hq,hC,hCl,cm9]
    |some f=>
     rw[hl]at hC hCl;have hf:f∈a.funcs:=HH hl;have F:=kX fa hf;have hne:=pY F.name;have ml:(dw a f).Lim:=zL (qN fa hf) (ha.sigs f hf);have hR:=t48 (dw a f) ml;rw[ov fa hf]at hR;have k1:=Gp (dw a f) ml [a] (fun f hf=>by rw[HJ]at hf;subst hf;exact ha) (by simp);have k2:=Gp (dw a f) ml [b] (fun f hf=>by rw[HJ]at hf;subst hf;exact hb) (by simp);have n1:=zC fa hl;have n2:=zB hmt hl;generalize ia (dw a f) [a]=u at *;generalize ia (dw a f) [b]=v at *;have n2':(v.2 != 0)=true:=by simpa using n2
     simp[S10,eg,hp,hq,hC,hCl,cm9,hne,bf,k1,k2,x0,x1,hR,n1,n2,n2']
   ·rw[if_neg hmt]at hC hCl;have hno:¬(a.module=b.module/\bL a=true/\bL b=true):=fun h=>hmt ((gG a b).2 h);cases hx:bL a with
    |false=> 
     rw[hx]at hra;simp[S10,eg,hp,hq,hC,hCl,cm9,hra]
    | true=>
     rw[hx]at hra;cases hy:bL b with
     |false=>
      rw[hy]at hrb;simp[S10,eg,hp,hq,hC,hCl,cm9,hra,hrb]
     |true=>
      rw[hy]at hrb;have hn:¬a.module=b.module:=fun h=>hno ⟨h,hx,hy⟩;have hn2:(a.module== b.module)=false:=GX.2 hn;simp[S10,eg,hp,hq,hC,hCl,cm9,hra,hrb,hn2]
end Go.Proofs.YteemeakjlfnapaaGreatDoor
namespace Go.Proofs.YteemeakjlfnapaaGreatDoor.compatClient
open Go Go.Av Go.Av.Ap Go.ChangeShapes Go.WideShapes Go.ChangeAt Go.RowKit Go.Joins Go.Deep
set_option maxRecDepth 1000000
def kids:Kids Tryz.prog (· < Tryz.prog.types.size):=kids_rows (by kernel_rfl) (by kernel_rfl)
def rW:∀t e,t<Tryz.prog.types.size->Tryz.prog.underlying t=some (.slice e)->0<Tryz.prog.cellsOf e:=slices_full_of Tryz.prog (by kernel_rfl)
def xz(H:Type)(enc:TypeId×Value->H)(W:World)(base:Nat)(args:Array Value)(ds gs:List (DataW H))(before:List MemPlace)(hval:∀(j:Nat) t v,Tryz.f10.params[j]? = some t->args[j]? = some v->Value.okWide Tryz.prog W .any base t v)(hW:DataW.Whole enc Tryz.prog Tryz.f10.params.toList Rows.compatClientSpec.vars false W args.toList ds gs before)(hz:(DataW.weightsEach Tryz.prog (Tryz.f10.params.toList++Rows.compatClientSpec.plain.varTypes Tryz.prog) (ds++gs)).all (· <=reachBytes)=true)(hL:laidMetH Tryz.prog Rows.compatClientRow.laid W)(hS:W.ShapedOpen Tryz.prog):
  Calls Tryz.prog 10 args W fun e W'=>∃v,e= .returned v/\Rows.compatClientSpec.post enc Tryz.prog Tryz.f10 false true false false W args v W':=by
 have hW':=hW;obtain⟨p,q,hA0,hV,rfl,hfz,hnd⟩:=hW;have hA:DataW.TrodAll enc Tryz.prog W 0 (fun _=>true) true Tryz.f10.params.toList args.toList ds p:=hA0;have hA1:=hA;rw[Tryz.params10]at hA hval hz;obtain⟨v0,vs0,d0,ds0,p0,q0,ha0,rfl,rfl,h0,r0⟩:=trodAll_cons hA;obtain⟨v1,vs1,d1,ds1,p1,q1,ha1,rfl,rfl,h1,r1⟩:=trodAll_cons r0;obtain⟨hnil,rfl,rfl⟩:=trodAll_nil r1;subst hnil;subst ha1;obtain rfl:args= #[v0,v1]:=by cases args;simp_all
 obtain⟨rfl,rfl⟩:=trodVars_none hV;obtain⟨x0,k0,o0⟩:=mm (fun N=>(uq N).le (JH N)) (fun a=>rfl) Tryz.underlying24 (hval 0 24 v0 rfl rfl) h0 (mC hz (j:=0) rfl rfl);obtain⟨x1,k1,o1⟩:=mm (fun N=>(uq N).le (JH N)) (fun a=>rfl) Tryz.underlying24 (hval 1 24 v1 rfl rfl) h1 (mC hz (j:=1) rfl rfl);clear hA0;simp only[I0]at hW' hA1;have hlt:=hW'.lt;have hv:aY (ky W) [] [x0.av,x1.av] [v0,v1]:=by
  simp only[aY];exact⟨_,_,rfl,k0,_,_,rfl,k1,rfl⟩
 refine (vA good hOther (Ci hL hS) hv (by rw[t10 x0 x1 o0 o1];rfl)).mono fun e W' ⟨he,hb⟩=>?_;subst he;exact⟨_,rfl,nT (pv:=[]) hW' (fun _ _ _=>trodAll_cons_mk (shut_bool Tryz.underlying4 _) trodAll_mk0) (fun sp hsp=>
   sq kids rW (by rw[Tryz.params10];decide +kernel) hA1 hlt hb sp hsp) (fun _ _=>rfl) (by simp)
  hb (ok_one (by kernel_rfl) rfl (okWide_bool_mk Tryz.underlying4 _))⟩
def reads(os:Os){H:Type}(enc:TypeId×Value->H):∃ds places,DataW.whole enc Tryz.prog ((kN os).forCall (fun _ _=>0) ⟨#[],#[.agg #[.string ⟨#[]⟩,.slice none 0 0],.agg #[.string ⟨#[]⟩,.slice none 0 0]],[]⟩).memory Tryz.f10.params.toList Rows.compatClientSpec.vars false #[.agg #[.string ⟨#[]⟩,.slice none 0 0],.agg #[.string ⟨#[]⟩,.slice none 0 0]].toList 8=some (ds,[],places):=
 ⟨[.agg [.lit (.string []),.nil],.agg [.lit (.string []),.nil]],[],by kernel_rfl⟩
def lifted(os:Os)(started:os.Started)(H:Type)(enc:TypeId×Value->H)(F:Stop.Interp):
  ReturnsInHanded {} Tryz.checked os 10 .any ((OpenSpec.ofChange Rows.compatClientSpec).preRow enc Tryz.prog Tryz.f10 Rows.compatClientRow.domain false Rows.compatClientRow.laid) (((OpenSpec.ofChange Rows.compatClientSpec).at F).post enc Tryz.prog Tryz.f10 false true false false):=by
 obtain⟨ds,places,hx⟩:=reads os enc;refine returnsInHanded_of_row (C:=Tryz.checked) (s:=OpenSpec.ofChange Rows.compatClientSpec) FY started (by kernel_rfl) Tryz.func10
  (witness_row_atRef (enc:=enc) (C:=Tryz.checked) false (kN os) #[.agg #[.string ⟨#[]⟩,.slice none 0 0],.agg #[.string ⟨#[]⟩,.slice none 0 0]] rfl (by kernel_rfl) (by kernel_rfl) (by kernel_rfl)
   (OpenSpec.preRow_of_cond 8 hx (by kernel_rfl) (fun k hk=>by cases hk) (by kernel_rfl) (xW os _))) ?_
 intro W base args ds gs before hval hW _ _ hz hL hS _;exact xz H enc W base args ds gs before hval hW hz hL hS
end Go.Proofs.YteemeakjlfnapaaGreatDoor.compatClient
