/- What the functions compute, part 8. Conditions: bounds. -/
import Derived.Test.YtkkdcdofponfiaaGreatTg
set_option linter.defProp false
set_option linter.unusedSimpArgs false
set_option linter.unusedVariables false
namespace Go.Proofs.YtkkdcdofponfiaaGreat
open Go Go.Av Go.Av.Ap
set_option maxRecDepth 100000
def UF{p:List Mod}(hM:∀m∈p,m.Lim)(h1:p.length<=9)(h2:∀m∈p,m.funcs.length<=9):Sm p where
 len:=WD
 funcs:=fun m hm=>qr
 idx:=by
  have h3:=PP p;have h4:=LW p h2
  grind
 body:=Ec fun m hm f hf=>((hM m hm).fns f hf).body
variable {q:Nat}
def Oe{p:List Mod}{f:aA}(hq:q<(eb p).length):KL p q=(eb p)[q].1/\Lq p f q=BS p f (eb p)[q].1 (eb p)[q].2/\findR p (eb p)[q].1=some (eb p)[q].2:=by
 refine⟨by simp[KL,hq],by simp[Lq,hq],?_⟩;rw[<- wq]
 grind [rE,A8]
def KW{p:List Mod}{f r:aA}:r∈dx p f↔∃g,findR p r=some g/\g.pub=true/\f∈lD p r:=by
 unfold dx;rw[(fE _).mem_iff];unfold qR;rw[abe];constructor
 ·rintro⟨q,hq,rfl⟩;obtain⟨h1,h2⟩:=ace.1 hq;have hq':=acT.1 h1;obtain⟨a,b,c⟩:=Oe (f:=f) hq';simp_all[BS,lH]
 ·rintro⟨g,h1,h2,h3⟩;rw[<- wq]at h1;obtain⟨q,hq,e⟩:=ab3 (EU h1);obtain⟨a,b,c⟩:=Oe (f:=f) hq;refine⟨q,ace.2 ⟨acT.2 hq,?_⟩,by rw[a,e]⟩;simp_all[BS,lH]
def Lw{p:List Mod}(S:Sm p)(f:aA):(dx p f).length<=1000000:=by
 unfold dx;rw[lR]
 have:=Od p f (List.range (eb p).length)
 rw[List.length_range]at this
 have:=S.idx
 omega
def cV'(o:Option Fun):AV:=.tup [(o.getD BX).av,.bool o.isSome]
theorem DL:bS T false 51 []=some BX.av:=rfl
def Uj(g:Fun):aC 12 [] g.av=af g.av:=AN
structure SB (s:Seen):Prop where
 sm:Sm s.prog
 len:s.prog.length<=1000000
 funcs:∀m∈s.prog,m.funcs.length<=1000000
 vsns:s.vsns.length<=1000000
 calls:s.calls.length<=1000000
 args:∀c∈s.calls,ba c.args<=4611686018427387904
 params:∀m∈s.prog,∀f∈m.funcs,f.params.length<=1000000
structure AB (a:Adv):Prop where
 ranges:a.ranges.length<=1000000
 cond:aT a.cond
def t46(m:Mod)(a:Adv):callW pg 46 [m.av,.ip (ab a.av)]=af (.bool (m.name== a.name)):=by
 rw[C46];simp[S46,cl,ek]
def t49(f:Fun)(a:Adv):callW pg 49 [f.av,.ip (ab a.av)]=af (.bool (f.name== a.func)):=by
 rw[C49];simp[S49,cl,ek]
def LU(g)(k:Nat)(a:Adv):cl g (.fn (.func k) [] [.ip (ab a.av)])= .fn (.func k) [] [.ip (ab a.av)]:=by simp[cl,ek]
def Na(p:List Mod)(hp:p.length<=1000000)(a:Adv):callW pg 45 [mods p,.fn (.func 46) [] [.ip (ab a.av)]]=af (.int .i64 (modAt p a.name)):=
 t45 _ _ p WD (fun g=>LU g _ a) (fun x _=>t46 x a)
def M8(l:List Fun)(hp:l.length<=1000000)(a:Adv):callW pg 48 [dW l,.fn (.func 49) [] [.ip (ab a.av)]]=af (.int .i64 (jt l a.func)):=
 t48 _ _ l WD (fun g=>LU g _ a) (fun x _=>t49 x a)
def Te(o:Option Fun)(g):cl g (cV' o)=cV' o:=by simp[cV',cl,ek]
def Eb(s:Seen)(a:Adv):(modAt s.prog a.name<0/\iD s a=none)\/∃(k:Nat)(h:k<s.prog.length),modAt s.prog a.name=k/\
  ((jt s.prog[k].funcs a.func<0/\iD s a=none)\/∃(j:Nat)(h2:j<s.prog[k].funcs.length),jt s.prog[k].funcs a.func=j/\iD s a=if k<s.vsns.length/\HC a.ranges (s.vsns[k]?.getD default)=true then some s.prog[k].funcs[j]else none):=by
 unfold iD eu;rcases kI (F:=fun m:Mod=>m.name== a.name) s.prog 0 (WD)with⟨_,h2⟩|⟨k,hk,h1,_⟩
 ·simp_all[modAt]
 ·right;have h3:modAt s.prog a.name=k:=by unfold modAt;omega
  refine⟨k,hk,h3,?_⟩;have h4:¬((k:Int)<0):=WD
  have h5:(s.prog[k]?.getD default).funcs=s.prog[k].funcs:=by rw[aaE hk];rfl
  rw[h3,aaC h4];simp only[aaP,h5];rcases kI (F:=fun f:Fun=>f.name== a.func) s.prog[k].funcs 0 (WD)with⟨_,g2⟩|⟨j,hj,g1,_⟩
  ·simp_all[jt]
  ·right;have g3:jt s.prog[k].funcs a.func=j:=by unfold jt;omega
   grind
variable {a:Adv}
def t26{s:Seen}(B:SB s)(A:AB a):callW pg 26 [s.av,a.av]=af (cV' (iD s a)):=by
 have hB1:=B.len;have hB2:=B.vsns;have hA:=A.ranges;have h1:=Na s.prog hB1 a;rw[C26,mV,nv]
 have key:S26 (callW pg) ae s.av a.av=af (cV' (iD s a)):=by
  rw[lX]at h1;rcases Eb s a with⟨h2,h3⟩|⟨k,hk,h2,h3⟩
  ·simp_all[S26,DL,cV']
  ·have hf:=B.funcs _ (List.getElem_mem hk);have h4:=M8 s.prog[k].funcs hf a;rw[lX]at h4;rw[h2]at h1;have h5:¬((k:Int)<0):=WD
   by_cases hv:k<s.vsns.length
   ·have hv':¬((s.vsns.length:Int)<=k):=WD
    have h6:=t47 a.ranges s.vsns[k] WD;have h7:s.vsns[k]?.getD default=s.vsns[k]:=by rw[aaE hv];rfl
    rw[h7]at h3;cases hh:HC a.ranges s.vsns[k]with
    | false=>
     rw[hh]at h6 h3;have h8:iD s a=none:=by
      rcases h3 with⟨_,h3⟩|⟨j,hj,_,h3⟩
      ·exact h3
      ·rw[h3];simp
     simp_all[S26,Rt,DL,cV']
    | true=>
     rw[hh]at h6 h3;rcases h3 with⟨g1,h3⟩|⟨j,hj,g1,h3⟩
     ·simp_all[S26,Rt,lT,DL,cV']
     ·rw[g1]at h4;rw[h3,aaH ⟨hv,rfl⟩];have g2:¬((j:Int)<0):=WD
      simp (disch:=omega) [S26,h1,h5,hv',Rt,lT,vX,aaG s.vsns k hv,aaG s.prog k hk,aaG s.prog[k].funcs j hj,h6,h4,g2,Uj,cV']
   ·have hv':(s.vsns.length:Int)<=k:=WD
    have h8:iD s a=none:=by
     rcases h3 with⟨_,h3⟩|⟨j,hj,_,h3⟩
     ·exact h3
     ·grind
    simp_all[S26,DL,cV']
 rw[key];exact bb (Te _)
def uE(b:Bool)(r:aA):AV:=if b=true then .tup [bE r,.bool true]else .tup [bE ([],[]),.bool false]
def Tf(b:Bool)(r:aA)(g):cl g (uE b r)=uE b r:=by cases b<;>rfl
theorem ZQ:bS T false 53 []=some (bE ([],[])):=rfl
def XB(r:aA):aC 2 [] (bE r)=af (bE r):=by grind [bU,mr,jU,nR]
theorem Jy(x y:az):AV.agg [.str x,.str y]=bE (x,y):=rfl
def Mj(g:Fun):bn 12 g.av=af g.av:=iR g
def t8{s:Seen}(B:SB s)(A:AB a):callW pg 8 [s.av,a.av]=af (uE (iD s a).isSome (fR a)):=by
 have h1:=t26 B A;rw[C8,mV,nv];have key:S8 (callW pg) ae s.av a.av=af (uE (iD s a).isSome (fR a)):=by
  cases hb:iD s a with
  |none=>
   simp_all[S8,cV',ZQ,XB,uE,Jy]
  |some f=>
   simp_all[S8,cV',XA,XB,uE,fR,Jy]
 rw[key];exact bb (Tf _ _)
def t14{s:Seen}(B:SB s)(A:AB a):callW pg 14 [s.av,a.av]=af (bg (iT dx s a)):=by
 have h1:=t8 B A;have h2:=t32 B.sm (fR a);rw[C14,mV,nv];unfold iT;have key:S14 (callW pg) ae s.av a.av=af (bg (if(iD s a).isSome=true then dx s.prog (fR a)else[])):=by
  cases hb:(iD s a).isSome with
  |false=>
   simp_all[S14,uE,TM,bg]
  |true=>
   simp_all[S14,uE,TM]
 grind [bb,xi]
def lh:Rs Val->Bool×Bool
 |.ok v _=>if v.kind=1 then(v.n== 1,false)else(false,true)
 |.er _ _=>(false,true)
def m9(x:Bool×Bool):AV:=.tup [.bool x.1,.bool x.2]
def FC(f:Fun)(a:Adv)(c:Ap.Call):gl f a c=if c.module=a.name/\c.func=a.func/\c.args.length=f.params.length then lh (mc a.cond (f.params.map (·.1)) c.args)else(false,false):=by
 unfold gl;by_cases h:c.module=a.name/\c.func=a.func/\c.args.length=f.params.length
 ·rw[aaH h,aaH h];cases mc a.cond (f.params.map (·.1)) c.args<;>rfl
 grind
def T6(a:Adv)(A:AB a)(c:Ap.Call)(hc:ba c.args<=4611686018427387904)(ps:List bQ)(hp:ps.length<=1000000):∀(n:Nat)(i:Int)(ns:List az),ps.length-i.toNat=n->0<=i->i<=ps.length->ns.length<=i.toNat->
  ae (L30_0 (callW pg) ae) [.ip (ab a.av),.ip (ab c.av),strs ns,aB ps,qi ps.length,qi i]=af (m9 (lh (mc a.cond (ns++(ps.drop i.toNat).map (·.1)) c.args))):=by
 have hB:∀s:az,ay T 28 1 [(0,.str s)]=some (strs [s]):=fun s=>rfl;intro n
 induction n with
 | zero=>
  intro i ns hn hi hl hns;have h1:¬(i<(ps.length:Int)):=WD
  have h2:ps.drop i.toNat=[]:=List.drop_eq_nil_of_le WD;have h3:=t29 a.cond ns c.args A.cond WD hc;rw[FL30_0,h2];simp only[L30_0,acq,abr];cases hr:mc a.cond ns c.args with
  | ok v s=>
   rw[hr]at h3;simp only[kY]at h3;by_cases hk:v.kind=1
   ·by_cases h4:v.n=1
    ·simp[h1,h3,lh,m9,hk,h4]
    ·simp[h1,h3,lh,m9,hk,h4]
   ·simp[h1,h3,lh,m9,hk]
  | er e s=>
   rw[hr]at h3;simp only[kY]at h3;by_cases he:e=0
   ·have hk0:¬(default:Val).kind=1:=Vc
    simp[h1,h3,lh,m9,he,hk0]
   ·simp[h1,h3,lh,m9,he]
 |succ n ih=>
  intro i ns hn hi hl hns;have h1:i<(ps.length:Int):=WD
  have hlt:i.toNat<ps.length:=WD
  have h4:=ih (i+1) (ns++[ps[i.toNat].1]) WD WD WD Bk;have h5:cC T 28 (strs ns) (strs [ps[i.toNat].1])=some (strs (ns++[ps[i.toNat].1])):=OQ Bk;rw[show (i+1).toNat=i.toNat+1 by omega]at h4;rw[FL30_0,List.drop_eq_getElem_cons hlt,aa0];simp only[L30_0];simp only[ab0,acM]at h4;rw[<- h4];simp (disch:=omega) [h1,aD,rn,aaG ps i.toNat hlt,hB,h5]
def t30(A:AB a)(f:Fun)(hf:f.params.length<=1000000)(c:Ap.Call)(hc:ba c.args<=4611686018427387904):callW pg 30 [f.av,a.av,c.av]=af (m9 (gl f a c)):=by
 have h1:=T6 a A c hc f.params hf _ 0 [] rfl WD WD AI;rw[C30,Cj,nv,wi,FC];rw[show strs []=AV.sl []from rfl]at h1;simp at h1;have key:S30 (callW pg) ae f.av a.av c.av=af (m9 (if c.module=a.name/\c.func=a.func/\c.args.length=f.params.length then lh (mc a.cond (f.params.map (·.1)) c.args)else(false,false))):=by
  by_cases g1:c.module=a.name
  ·by_cases g2:c.func=a.func
   ·by_cases g3:c.args.length=f.params.length
    all_goals simp_all[S30,m9]
   simp_all[S30,m9]
  ·simp_all[S30,m9]
 rw[key];exact bb fun g=>by simp[m9,cl,ek]
def T3(A:AB a)(f:Fun)(hf:f.params.length<=1000000)(cs:List Ap.Call)(hl:cs.length<=1000000)(hc:∀c∈cs,ba c.args<=4611686018427387904):∀(n:Nat)(i:Int)(o:List Int),cs.length-i.toNat=n->0<=i->i<=cs.length->o.length<=i.toNat->
  ae (L20_0 (callW pg) ae) [.ip (ab a.av),.ip (ab f.av),ints o,Ap.calls cs,qi cs.length,qi i]=af (ints (o++sT (fun c=>(gl f a c).1) (cs.drop i.toNat) i)):=by
 have hB:∀k:Int,ay T 35 1 [(0,qi k)]=some (ints [k]):=fun k=>rfl;intro n
 induction n with
 |zero=>
  intro i o hn hi hl hns;have h1:¬(i<(cs.length:Int)):=WD
  have h2:cs.drop i.toNat=[]:=List.drop_eq_nil_of_le WD;rw[FL20_0,h2];simp only[L20_0];simp[h1,sT]
 | succ n ih=>
  intro i o hn hi hl hns;have h1:i<(cs.length:Int):=WD
  have hlt:i.toNat<cs.length:=WD
  have h3:=t30 A f hf cs[i.toNat] (hc _ (List.getElem_mem hlt));rw[FL20_0,List.drop_eq_getElem_cons hlt];simp only[L20_0,sT];simp only[m9]at h3;rcases acl (gl f a cs[i.toNat]).1 with hm|hm
  ·have h4:=ih (i+1) (o++[i]) WD WD WD Bk;have h5:cC T 35 (ints o) (ints [i])=some (ints (o++[i])):=Vo Bk;rw[show (i+1).toNat=i.toNat+1 by omega]at h4;rw[hm]at h3;simp at h4;simp (disch:=omega) [h1,aD,zF,aaG cs i.toNat hlt,h3,hB];simp_all
  ·have h4:=ih (i+1) o WD WD WD WD;rw[show (i+1).toNat=i.toNat+1 by omega]at h4;rw[hm]at h3;simp at h4;simp (disch:=omega) [h1,aD,zF,aaG cs i.toNat hlt,h3];simp[hm,h4]
def wW{s:Seen}(B:SB s){f:Fun}(h:iD s a=some f):f.params.length<=1000000:=by
 rcases Eb s a with⟨_,h3⟩|⟨k,hk,_,h3⟩
 ·grind
 ·rcases h3 with⟨_,h3⟩|⟨j,hj,_,h3⟩
  ·grind
  ·rw[h3]at h;split at h
   ·cases h;exact B.params _ (List.getElem_mem hk) _ (List.getElem_mem hj)
   ·cases h
def t20{s:Seen}(B:SB s)(A:AB a):callW pg 20 [s.av,a.av]=af (ints (Es s a)):=by
 have h1:=t26 B A;rw[C20,mV,nv];have key:S20 (callW pg) ae s.av a.av=af (ints (Es s a)):=by
  unfold Es;cases hb:iD s a with
  |none=>
   simp_all[S20,cV',ints]
  |some f=>
   rw[hb]at h1;have h2:=T3 A f (wW B hb) s.calls B.calls B.args _ 0 [] rfl WD WD AI;rw[show ints []=AV.sl []from rfl]at h2;simp_all[S20,cV']
 rw[key];exact bb fun g=>wj g _
def Ud(l:List aA)(r:aA)(hb:l.length<=40000000):∀(n:Nat)(i:Int),l.length-i.toNat=n->0<=i->i<=l.length->
  ∃k:Int,ae (L64_0 (callW pg) ae) [bg l,.ip [.str r.1,.str r.2],qi l.length,qi i]=af (.int .i64 k)/\decide (0<=k)=decide (r∈l.drop i.toNat):=by
 intro n
 induction n with
 |zero=>
  intro i hn hi hl;have h1:¬(i<(l.length:Int)):=WD
  have h2:l.drop i.toNat=[]:=List.drop_eq_nil_of_le WD;refine⟨-1,?_,by rw[h2];simp⟩;rw[FL64_0];simp only[L64_0];simp[h1]
 | succ n ih=>
  intro i hn hi hl;have h1:i<(l.length:Int):=WD
  have hlt:i.toNat<l.length:=WD
  obtain⟨k,h4,h5⟩:=ih (i+1) WD WD WD;rw[show (i+1).toNat=i.toNat+1 by omega]at h5;have hd:=List.drop_eq_getElem_cons hlt;rw[FL64_0];simp only[L64_0];by_cases h6:r=l[i.toNat]
  ·refine⟨i,?_,qr⟩;simp_all[JU,IP]
  ·refine⟨k,?_,qr⟩;rw[<- h4];simp (disch:=omega) [h1,aD,JU,aaG l i.toNat hlt,IP,h6]
def t31(l:List aA)(r:aA)(hb:l.length<=40000000):callW pg 31 [bg l,bE r]=af (.bool (decide (r∈l))):=by
 have h3:eR T 68 (bg l)=some (.int .i64 l.length):=by simp[bg]
 obtain⟨k,h1,h2⟩:=Ud l r hb l.length 0 rfl WD WD;have h4:callW pg 64 [bg l,bE r]=af (.int .i64 k):=by
  rw[C64];simp[S64,h3,h1]
 simp_all[C31,S31]
def TY{a:Adv}(A:AB a)(f:Fun)(hf:f.params.length<=1000000)(l:List aA)(hb:l.length<=40000000)(cs:List Ap.Call)(hl:cs.length<=1000000)(hc:∀c∈cs,ba c.args<=4611686018427387904):∀(n:Nat)(i:Int),cs.length-i.toNat=n->0<=i->i<=cs.length->
  ae (L12_0 (callW pg) ae) [.ip (ab a.av),.ip (ab f.av),bg l,Ap.calls cs,qi cs.length,qi i]=af (.int .i64 (if(cs.drop i.toNat).any (fun c=>(gl f a c).2||(!f.pub&&decide ((c.module,c.func)∈l)))=true then 1 else 0)):=by
 intro n
 induction n with
 |zero=>
  intro i hn hi hl;have h1:¬(i<(cs.length:Int)):=WD
  have h2:cs.drop i.toNat=[]:=List.drop_eq_nil_of_le WD;rw[FL12_0,h2];simp only[L12_0];simp[h1]
 | succ n ih=>
  intro i hn hi hl;have h1:i<(cs.length:Int):=WD
  have hlt:i.toNat<cs.length:=WD
  have h3:=t30 A f hf cs[i.toNat] (hc _ (List.getElem_mem hlt));have h4:=ih (i+1) WD WD WD;have h5:=t31 l (cs[i.toNat].module,cs[i.toNat].func) hb;rw[show (i+1).toNat=i.toNat+1 by omega]at h4;rw[FL12_0,List.drop_eq_getElem_cons hlt,List.any_cons];simp only[L12_0];simp only[m9]at h3;rcases acl (gl f a cs[i.toNat]).2 with hm|hm
  ·simp_all[zF]
  ·rcases acl f.pub with hp|hp
   ·simp[hp]at h4;simp (disch:=omega) [h1,aD,zF,aaG cs i.toNat hlt,h3];simp_all
   ·simp[hp]at h4;by_cases h6:(cs[i.toNat].module,cs[i.toNat].func)∈l
    ·rw[acU h6]at h5;simp (disch:=omega) [h1,aD,zF,aaG cs i.toNat hlt,h3,XA];simp_all
    ·rw[decide_eq_false h6]at h5;simp (disch:=omega) [h1,aD,zF,aaG cs i.toNat hlt,h3,XA];simp_all
def Pu(f:Fun)(a:Adv)(cs:List Ap.Call):(0<(sT (fun c=>(gl f a c).1) cs 0).length)↔cs.any (fun c=>(gl f a c).1)=true:=by
 rw[ab1,ne_eq,E2,adm]
 grind
def AG{s:Seen}(B:SB s)(a:Adv):(iT dx s a).length<=1000000:=by
 unfold iT;split
 ·exact Lw B.sm _
 grind
theorem t12{s:Seen}{a:Adv}(B:SB s)(A:AB a):callW pg 12 [s.av,a.av]=af (.int .i64 (gU dx s a)):=by
 have h1:=t26 B A;have h2:=t20 B A;have h3:=t14 B A;have h4:=AG B a;have hlR:∀l:List aA,eR T 68 (bg l)=some (.int .i64 l.length):=fun l=>by simp[bg]
 rw[C12,mV,nv]
 have key:S12 (callW pg) ae s.av a.av=af (.int .i64 (gU dx s a)):=by
  unfold gU;cases hb:iD s a with
  |none=>
   simp_all[Es,S12,cV']
  | some f=>
   have g1:Es s a=sT (fun c=>(gl f a c).1) s.calls 0:=by unfold Es;rw[hb]
   rw[hb]at h1;have g2:=Pu f a s.calls;rw[<- g1]at g2;by_cases hd:s.calls.any (fun c=>(gl f a c).1)=true
   ·simp_all[S12,cV']
   ·have g3:Es s a=[]:=aaO (Nat.eq_zero_of_not_pos fun h=>hd (g2.1 h));rw[g3]at h2;simp only;rw[aaC hd];by_cases hc:iT dx s a=[]
    ·simp_all[S12,cV']
    ·rw[aaC hc];cases hw:s.whole with
     |false=>
      simp[S12,h1,cV',Mj,h2,h3,hlR,hc];simp[hw]
     |true=>
      have h5:=TY A f (wW B hb) (iT dx s a) WD s.calls B.calls B.args _ 0 rfl WD WD;have h6:s.calls.any (Qc dx s a f)=(s.calls.drop (0:Int).toNat).any (fun c=>(gl f a c).2||(!f.pub&&decide ((c.module,c.func)∈iT dx s a))):=rfl;rw[h6,aaC (show ¬(true=false) by decide),<- h5];simp[S12,h1,cV',Mj,h2,h3,hlR,hc];simp[hw]
 simp_all
def T4{a:Adv}(A:AB a)(l:List Seen)(hl:l.length<=1000000)(hB:∀s∈l,SB s):∀(n:Nat)(i:Int)(o:List Int),l.length-i.toNat=n->0<=i->i<=l.length->o.length<=i.toNat->
  ae (L21_0 (callW pg) ae) [.ip (ab a.av),ints o,ra l,qi l.length,qi i]=af (ints (o++sT (fun s=>!s.whole&&gU dx s a== 1) (l.drop i.toNat) i)):=by
 have hB1:∀k:Int,ay T 35 1 [(0,qi k)]=some (ints [k]):=fun k=>rfl;intro n
 induction n with
 |zero=>
  intro i o hn hi hl hns;have h1:¬(i<(l.length:Int)):=WD
  have h2:l.drop i.toNat=[]:=List.drop_eq_nil_of_le WD;rw[FL21_0,h2];simp only[L21_0];simp[h1,sT]
 | succ n ih=>
  intro i o hn hi hl hns;have h1:i<(l.length:Int):=WD
  have hlt:i.toNat<l.length:=WD
  have h3:=t12 (hB _ (List.getElem_mem hlt)) A;have h4:=ih (i+1) (o++[i]) WD WD WD Bk;have h4':=ih (i+1) o WD WD WD WD;have h5:cC T 35 (ints o) (ints [i])=some (ints (o++[i])):=Vo Bk;rw[show (i+1).toNat=i.toNat+1 by omega]at h4 h4';rw[FL21_0,List.drop_eq_getElem_cons hlt];simp only[L21_0,sT];simp at h4 h4';rcases acl l[i.toNat].whole with hw|hw
  ·simp (disch:=omega) [h1,aD,Ru,aaG l i.toNat hlt,h3];simp[hw,h4']
  ·by_cases hj:gU dx l[i.toNat] a=1
   ·simp (disch:=omega) [h1,aD,Ru,aaG l i.toNat hlt,h3];simp_all
   ·simp (disch:=omega) [h1,aD,Ru,aaG l i.toNat hlt,h3]
    grind
def t21(A:AB a)(l:List Seen)(hl:l.length<=1000000)(hB:∀s∈l,SB s):callW pg 21 [ra l,a.av]=af (ints (O0 dx l a)):=by
 have h2:=T4 A l hl hB _ 0 [] rfl WD WD AI;rw[C21,Mp,nv];rw[show ints []=AV.sl []from rfl]at h2;simp at h2;have key:S21 (callW pg) ae (ra l) a.av=af (ints (O0 dx l a)):=by
  unfold O0;simp[S21,h2]
 rw[key];exact bb fun g=>wj g _
def XD(K:List AV->M AV)(p:List Ap.Mod)(m:Ap.Mod)(out:List Ap.Mod)(i r:Nat)(ho:out.length<=1000)(hi:i<=1000):∀(B A:List Fun)(h:Hp),A.length+B.length<=1000000->h[r]? = some (ou (A.map iG++B))->
  ae (L10_0 (callW pg) ae K) [mods p,mods out,qi (i:Int),qi (A.length:Int),.str m.name,strs m.uses,.sl (dj m.vars),.sl (dq m.init),.hs r 0 (A.length+B.length) 12 true,.bool m.moves,.sl (dj m.old),.sl (dq m.forward),.sl (dq m.back)] h=
   K [mods p,mods (out++[{ m with funcs:=(A++B).map iG }]),qi ((i+1:Nat):Int)] (h.set r [])
 |[],A,h,hb,hr=>by
  have e1:=TF (m:=m) (h:=h) (r:=r) (n:=A.length+0) (l:=A.map iG) AI (by simpa using hr);have e1:oN (.agg [.str m.name,strs m.uses,.sl (dj m.vars),.sl (dq m.init),.hs r 0 (A.length+0) 12 true,.bool m.moves,.sl (dj m.old),.sl (dq m.forward),.sl (dq m.back)]) h= .ok ({ m with funcs:=A.map iG }).av (h.set r []):=e1;have hB:∀x:Ap.Mod,ay T 22 1 [(0,x.av)]=some (mods [x]):=fun x=>rfl;have hA:∀x:Ap.Mod,cC T 22 (mods out) (mods [x])=some (mods (out++[x])):=fun x=>Vm Bk;have hw:IntKind.i64.wrap ((i:Int)+1)=((i+1:Nat):Int):=by rw[aD WD WD];omega
  have hl:¬((A.length:Int)<((A.length+0:Nat):Int)):=WD
  rw[FL10_0];simp only[aaW,abr];simp only[L10_0,ax,aF,LN,ai,bc,am,aaL,aaC hl];rw[bM e1];simp_all
 | f:: B,A,h,hb,hr=>by
  have hlen:A.length+(f:: B).length=(A++[f]).length+B.length:=by simp;omega
  have hl:(A.length:Int)<((A.length+(f:: B).length:Nat):Int):=by simp;omega
  have hix:au T 39 (.hs r 0 (A.length+(f:: B).length) 12 true) (qi (A.length:Int))=some (.hp r (A.length*12)):=by
   show (if(0:Int)<=(A.length:Int)/\(A.length:Int)<((A.length+(f:: B).length:Nat):Int)then some (AV.hp r (0+(A.length:Int).toNat*12))else none)=_;rw[aaH ⟨WD,hl⟩];simp
  have st:cp T 4 (.hp r (A.length*12+1)) (.bool true) h= .ok (.tup []) (h.set r (ou ((A++[f]).map iG++B))):=by
   rw[gD (T:=T) (t:=4) rfl hr rfl (by rw[za];grind) Vc]
   have:=QH (A.map iG) B f
   rw[abA]at this;rw[show ab (.bool true)=[.bool true]from rfl,this,ack,ab0];rfl
  have hw:IntKind.i64.wrap ((A.length:Int)+1)=((A++[f]).length:Int):=by simp at hb;rw[aD WD WD];simp
  have hr':(h.set r (ou ((A++[f]).map iG++B)))[r]? = some (ou ((A++[f]).map iG++B)):=by
   rw[abk (aaJ.1 hr).1]
  have ih:=XD K p m out i r ho hi B (A++[f]) _ qr hr';rw[List.set_set,ab0,acM,<- hlen]at ih;rw[<- ih,FL10_0];simp only[L10_0,ax,aF,LN,ai,bc,am,aaL,aaH hl,hix,FH51_1];rw[bM st];simp_all
theorem NN(p:List Ap.Mod)(hp:p.length<=1000)(hf:∀m∈p,m.funcs.length<=1000000):∀(B A:List Ap.Mod)(h:Hp),A++B=p->∃h',ae (L10_1 (callW pg) ae) [mods p,mods (bW A),qi (A.length:Int)] h= .ok (mods (bW p)) h'
 |[],A,h,hab=>by
  rw[abr]at hab;subst hab;have hl:¬((A.length:Int)<(A.length:Int)):=WD
  have hlen:eR T 22 (mods A)=some (.int .i64 A.length):=by simp[mods]
  refine⟨h,?_⟩;rw[FL10_1];simp only[L10_1,ax,aF,hlen,ai,bc,am,aaL,aaC hl];rfl
 | m:: B,A,h,hab=>by
  have hlen:eR T 22 (mods p)=some (.int .i64 p.length):=by simp[mods]
  have hpl:p.length=A.length+(B.length+1):=by rw[<- hab];simp
  have hl:(A.length:Int)<(p.length:Int):=WD
  have hget:p[A.length]! = m:=by rw[<- hab];simp
  have hix:au T 22 (mods p) (qi (A.length:Int))=some (.ip (ab m.av)):=by
   have:=lT (l:=p) (n:=(A.length:Int)) WD hl
   rw[aaP,hget]at this;exact this
  have cN:aC 9 [] m.av=af m.av:=by rw[bU rfl];rfl
  have hm:=hf m qr;have lM:aO T 43 (.ip (ab m.av))=some m.av:=rfl;have f4:aU T 43 (.ip (ab m.av)) 4=some (.ip ((ab m.av).drop 4)):=rfl;have l4:aO T 39 (.ip ((ab m.av).drop 4))=some (dW m.funcs):=rfl;have bh:pF T 39 0 [] h= .ok .he h:=rfl;have hop:bW (A++[m])=bW A++[my m]:=by unfold bW;simp
  have ac:ab m.av=[.str m.name,strs m.uses,.sl (dj m.vars),.sl (dq m.init),dW m.funcs,.bool m.moves,.sl (dj m.old),.sl (dq m.forward),.sl (dq m.back)]:=rfl;cases hfs:m.funcs with
  | nil=>
   have ap:appH T 39 false .he (dW m.funcs) h= .ok .he h:=by rw[hfs];rfl
   have hop1:my m= { m with funcs:=[] }:=by unfold my;rw[hfs];rfl
   have e1:oN (.agg [.str m.name,strs m.uses,.sl (dj m.vars),.sl (dq m.init),.he,.bool m.moves,.sl (dj m.old),.sl (dq m.forward),.sl (dq m.back)]) h= .ok (my m).av h:=by
    rw[hop1];exact PK (m:=m) (h:=h)
   obtain⟨h',ih⟩:=NN p hp hf B (A++[m]) h qr;refine⟨h',?_⟩;have hB:∀x:Ap.Mod,ay T 22 1 [(0,x.av)]=some (mods [x]):=fun x=>rfl;have hA:cC T 22 (mods (bW A)) (mods [my m])=some (mods (bW A++[my m])):=Vm (by simp[bW];omega);have hw:IntKind.i64.wrap ((A.length:Int)+1)=((A++[m]).length:Int):=by rw[aD WD WD];simp
   rw[<- ih,hop,FL10_1];simp only[L10_1,ax,aF,hlen,ai,bc,am,aaL,aaH hl,hix,lM,cN,ar,f4,l4];rw[bM bh,bM ap];have c1:dH .he=af .he:=rfl;simp only[c1,ar,ac,ax,aF];rw[FL10_0];have h0:eR T 39 .he=some (.int .i64 0):=rfl;simp only[L10_0,ax,aF,h0,ai,bc,acY,abO,am,aaK,aaR];rw[bM e1];simp_all
  |cons f fs=>
   have ap:=L6 (T:=T) (t:=39) (e:=51) (l:=m.funcs) (h:=h) rfl rfl rfl rfl rfl Vc Vc (by rw[hfs];simp) hm;obtain⟨h',ih⟩:=NN p hp hf B (A++[m]) ((h++[ou m.funcs]).set h.length []) qr;refine⟨h',?_⟩;have key:=XD (ae (L10_1 (callW pg) ae)) p m (bW A) A.length h.length (by simp[bW];omega) WD m.funcs [] (h++[ou m.funcs]) (by simpa using hm) AI;have hop1:my m= { m with funcs:=m.funcs.map iG }:=rfl;simp only[aaW,aa7,aaU,<- hop1]at key;rw[<- ih,hop,abh,abS,<- key,FL10_1];simp only[L10_1,ax,aF,hlen,ai,bc,am,aaL,aaH hl,hix,lM,cN,ar,f4,l4];rw[bM bh,bM ap];have c1:∀r n,dH (.hs r 0 n 12 true)=af (.hs r 0 n 12 true):=fun r n=>rfl;simp_all
def t10(p:List Ap.Mod)(hp:p.length<=1000)(hf:∀m∈p,m.funcs.length<=1000000):callW pg 10 [mods p]=af (mods (bW p)):=by
 obtain⟨h',e⟩:=NN p hp hf p [] [] rfl;rw[C10,mU];refine E9 (a:=mods (bW p)) (h':=h') ?_ ?_
 ·simp only[S10];exact e
 ·rw[nS];simp_all
def HD(a:Adv)(ps:List bQ)(c:Ap.Call):Bool:=if c.module=a.name/\c.func=a.func/\c.args.length=ps.length then(lh (mc a.cond (ps.map (·.1)) c.args)).1 else false
theorem TX(a:Adv)(A:AB a)(c:Ap.Call)(hc:ba c.args<=4611686018427387904)(ps:List bQ)(hp:ps.length<=1000000):∀(n:Nat)(i:Int)(ns:List az),ps.length-i.toNat=n->0<=i->i<=ps.length->ns.length<=i.toNat->
  ae (L11_0 (callW pg) ae) [aB ps,.ip (ab a.av),.ip (ab c.av),strs ns,qi i]=af (.bool (lh (mc a.cond (ns++(ps.drop i.toNat).map (·.1)) c.args)).1):=by
 have hB:∀s:az,ay T 28 1 [(0,.str s)]=some (strs [s]):=fun s=>rfl;intro n
 induction n with
 | zero=>
  intro i ns hn hi hl hns;have h1:¬(i<(ps.length:Int)):=WD
  have h2:ps.drop i.toNat=[]:=List.drop_eq_nil_of_le WD;have h3:=t29 a.cond ns c.args A.cond WD hc;rw[FL11_0,h2];simp only[L11_0,acq,abr];cases hr:mc a.cond ns c.args with
  | ok v s=>
   rw[hr]at h3;simp only[kY]at h3;by_cases hk:v.kind=1
   ·by_cases h4:v.n=1
    ·simp[h1,h3,lh,hk,h4]
    ·simp[h1,h3,lh,hk,h4]
   ·have hk':(v.kind== 1)=false:=by simpa using hk
    simp[h1,h3,lh,hk,hk']
  | er e s=>
   rw[hr]at h3;simp only[kY]at h3;by_cases he:e=0
   ·have hk0:((default:Val).kind== 1)=false:=rfl;simp[h1,h3,lh,he,hk0]
   ·have he':(e== 0)=false:=by simpa using he
    simp[h1,h3,lh,he,he']
 |succ n ih=>
  intro i ns hn hi hl hns;have h1:i<(ps.length:Int):=WD
  have hlt:i.toNat<ps.length:=WD
  have h4:=ih (i+1) (ns++[ps[i.toNat].1]) WD WD WD Bk;have h5:cC T 28 (strs ns) (strs [ps[i.toNat].1])=some (strs (ns++[ps[i.toNat].1])):=OQ Bk;rw[show (i+1).toNat=i.toNat+1 by omega]at h4;rw[FL11_0,List.drop_eq_getElem_cons hlt,aa0];simp only[L11_0];simp only[ab0,acM]at h4;rw[<- h4];simp (disch:=omega) [h1,aD,rn,aaG ps i.toNat hlt,hB,h5]
def t11(A:AB a)(ps:List bQ)(hf:ps.length<=1000000)(c:Ap.Call)(hc:ba c.args<=4611686018427387904):callW pg 11 [a.av,aB ps,c.av]=af (.bool (HD a ps c)):=by
 have h1:=TX a A c hc ps hf _ 0 [] rfl WD WD AI;rw[C11,sF,nv,wi];unfold HD;rw[show strs []=AV.sl []from rfl]at h1;simp at h1;have key:S11 (callW pg) ae a.av (aB ps) c.av=af (.bool (if c.module=a.name/\c.func=a.func/\c.args.length=ps.length then(lh (mc a.cond (ps.map (·.1)) c.args)).1 else false)):=by
  by_cases g1:c.module=a.name
  ·simp_all[S11]
  ·simp_all[S11]
 simp_all
@[simp] theorem Xa(t:Nat)(a b:Int):dC T .geq t (.int .u8 a) (.int .u8 b)=some (.bool (decide (b<=a))):=rfl
@[simp] theorem Xb(t:Nat)(a b:Int):dC T .leq t (.int .u8 a) (.int .u8 b)=some (.bool (decide (a<=b))):=rfl
@[simp] theorem YH(t:Nat)(a b:az):dC T .leq t (.str a) (.str b)=some (.bool (aK a b||a== b)):=rfl
def t84(f:AV)(F:bQ->Bool)(l:List bQ)(hb:l.length<=4611686018427387904)(hc:∀g,cl g f=f)(hf:∀x∈l,bj (callW pg) f [bF x]=af (.bool (F x))):callW pg 84 [aB l,f]=af (.bool (l.any F)):=by
 rw[C84];simp[S84,hc,t127 f F l hb hc hf,nW]
def PX(f:AV)(F:Ty->Bool)(l:List Ty)(hb:l.length<=4611686018427387904)(hf:∀x∈l,bj (callW pg) f [Ty.av x]=af (.bool (F x))):∀(n:Nat)(i:Int),l.length-i.toNat=n->0<=i->i<=l.length->
  ae (L117_0 (callW pg) ae) [kE l,f,qi l.length,qi i]=af (.int .i64 (aS F (l.drop i.toNat) i)):=by
 intro n
 induction n with
 |zero=>
  intro i hn hi hl;rw[FL117_0];simp only[L117_0];have h1:¬(i<(l.length:Int)):=WD
  have h2:l.drop i.toNat=[]:=List.drop_eq_nil_of_le WD;simp[h1,h2,aS]
 |succ n ih=>
  intro i hn hi hl;have h1:i<(l.length:Int):=WD
  have hlt:i.toNat<l.length:=WD
  have h2:aS F (l.drop i.toNat) i=if F l[i.toNat]=true then i else aS F (l.drop (i.toNat+1)) (i+1):=by rw[List.drop_eq_getElem_cons hlt];rfl
  have h3:=hf l[i.toNat] (List.getElem_mem hlt);have h4:=ih (i+1) WD WD WD;rw[show (i+1).toNat=i.toNat+1 by omega]at h4;rw[FL117_0];simp only[L117_0];simp (disch:=omega) [h1,aD,uQ,h3,h2];simp_all
def t117(f:AV)(F:Ty->Bool)(l:List Ty)(hb:l.length<=4611686018427387904)(hc:∀g,cl g f=f)(hf:∀x∈l,bj (callW pg) f [Ty.av x]=af (.bool (F x))):callW pg 117 [kE l,f]=af (.int .i64 (aS F l 0)):=by
 rw[C117];simp[S117,hc,PX f F l hb hf l.length 0 rfl WD WD]
def t70(f:AV)(F:Ty->Bool)(l:List Ty)(hb:l.length<=4611686018427387904)(hc:∀g,cl g f=f)(hf:∀x∈l,bj (callW pg) f [Ty.av x]=af (.bool (F x))):callW pg 70 [kE l,f]=af (.bool (l.any F)):=by
 rw[C70];simp[S70,hc,t117 f F l hb hc hf,nW]
def P5(f:AV)(F:Sig->Bool)(l:List Sig)(hb:l.length<=4611686018427387904)(hf:∀x∈l,bj (callW pg) f [Sig.av x]=af (.bool (F x))):∀(n:Nat)(i:Int),l.length-i.toNat=n->0<=i->i<=l.length->
  ae (L170_0 (callW pg) ae) [sigs l,f,qi l.length,qi i]=af (.int .i64 (aS F (l.drop i.toNat) i)):=by
 intro n
 induction n with
 |zero=>
  intro i hn hi hl;rw[FL170_0];simp only[L170_0];have h1:¬(i<(l.length:Int)):=WD
  have h2:l.drop i.toNat=[]:=List.drop_eq_nil_of_le WD;simp[h1,h2,aS]
 |succ n ih=>
  intro i hn hi hl;have h1:i<(l.length:Int):=WD
  have hlt:i.toNat<l.length:=WD
  have h2:aS F (l.drop i.toNat) i=if F l[i.toNat]=true then i else aS F (l.drop (i.toNat+1)) (i+1):=by rw[List.drop_eq_getElem_cons hlt];rfl
  have h3:=hf l[i.toNat] (List.getElem_mem hlt);have h4:=ih (i+1) WD WD WD;rw[show (i+1).toNat=i.toNat+1 by omega]at h4;rw[FL170_0];simp only[L170_0];simp (disch:=omega) [h1,aD,Rw,h3,h2];simp_all
def t170(f:AV)(F:Sig->Bool)(l:List Sig)(hb:l.length<=4611686018427387904)(hc:∀g,cl g f=f)(hf:∀x∈l,bj (callW pg) f [Sig.av x]=af (.bool (F x))):callW pg 170 [sigs l,f]=af (.int .i64 (aS F l 0)):=by
 rw[C170];simp[S170,hc,P5 f F l hb hf l.length 0 rfl WD WD]
def t161(b:UInt8):callW pg 161 [.int .u8 b.toNat]=af (.bool (wv b)):=by
 rw[C161];have e:decide ((b.toNat:Int)<=122)=decide (b.toNat<=122):=ab7.2 WD;have e2:decide (97<=(b.toNat:Int))=decide (97<=b.toNat):=ab7.2 WD;simp[S161,wv,e,e2]
def t164(b:UInt8):callW pg 164 [.int .u8 b.toNat]=af (.bool (Hg b)):=by
 rw[C164];have e:decide ((b.toNat:Int)<=57)=decide (b.toNat<=57):=ab7.2 WD;have e2:decide (48<=(b.toNat:Int))=decide (48<=b.toNat):=ab7.2 WD;simp[S164,Hg,e,e2]
def t163(b:UInt8):callW pg 163 [.int .u8 b.toNat]=af (.bool (wT b)):=by
 simp_all[C163,S163,t161,t164,wT]
theorem Rh{s:az}{i:Nat}(h:i<s.length):kb T 9 (.str s) (qi (i:Int))=some (.int .u8 (s[i].toNat:Int)):=by
 have e1:kb T 9 (.str s) (qi (i:Int))=(if(i:Int)<0 then none else s[(i:Int).toNat]?.map fun b=>.int .u8 b.toNat):=rfl
 grind
def P4(F:UInt8->Bool)(f:AV)(s:az)(hb:s.length<=4611686018427387904)(hf:∀b:UInt8,bj (callW pg) f [.int .u8 b.toNat]=af (.bool (F b))):∀(n i:Nat),s.length-i=n->i<=s.length->
  ae (L162_0 (callW pg) ae) [.str s,f,qi i]=af (.int .i64 ((i+((s.drop i).takeWhile F).length:Nat):Int)):=by
 intro n
 induction n with
 |zero=>
  intro i hn hi;rw[FL162_0];simp only[L162_0];have h1:¬((i:Int)<(s.length:Int)):=WD
  have h2:s.drop i=[]:=List.drop_eq_nil_of_le WD;simp[h1,h2]
 | succ n ih=>
  intro i hn hi;have hlt:i<s.length:=WD
  have h1:(i:Int)<(s.length:Int):=WD
  have h2:s.drop i=s[i]:: s.drop (i+1):=List.drop_eq_getElem_cons hlt;have h4:=ih (i+1) WD WD;have hw:IntKind.i64.wrap ((i:Int)+1)=((i+1:Nat):Int):=bz WD;rw[FL162_0];simp only[L162_0,ax,aF,YP,ai,bc,h1,abj,ib,Rh hlt,hf,ar,oZ,am,gb,hw,h4,h2,List.takeWhile_cons];cases F s[i]
  ·simp
  ·rw[aaH rfl,aaH rfl];congr 3
   grind
def t118(s:az):callW pg 118 [.str s]=af (.bool (vU s)):=by
 rw[C118];by_cases hs:s=[]
 ·subst hs;simp[S118,vU]
 ·have hs':(s== [])=false:=aaN.2 hs;have hpos:0<s.length:=ab1.2 hs;have h0:=Rh (s:=s) (i:=0) hpos;have hd:s[0]=s.headD 0:=by cases s with|nil=>grind|cons c s=>rfl
  rw[hd]at h0;simp at h0;by_cases hl:s.length<=20
  ·have h1:=P4 wT (.fn (.func 163) [] []) s WD (fun b=>t163 b) s.length 0 AI AI;have hsp:callW pg 162 [.str s,.fn (.func 163) [] []]=af (.int .i64 (((s.takeWhile wT).length:Nat):Int)):=by
    rw[C162];simp only[S162,cl,ek];rw[show (AV.int .i64 0)=AV.int .i64 ((0:Nat):Int)from rfl,h1];simp
   have e1:decide (20<(s.length:Int))=false:=by rw[aca];omega
   have e3:decide (20<s.length)=false:=by rw[aca];omega
   have e4:decide (s.length<=20)=true:=by simpa using hl
   simp[S118,hs',h0,t161,hsp,e1,e3,e4,vU]
  ·have e1:decide (20<(s.length:Int))=true:=by rw[aaL];omega
   have e3:decide (20<s.length)=true:=by rw[aaL];omega
   have e4:decide (s.length<=20)=false:=by simpa using hl
   simp[S118,hs',h0,t161,e1,e3,e4,vU]
def t119(s:az):callW pg 119 [.str qF,.str s]=af (.bool (Lib.contains qF s)):=by
 rw[dc hOther (E:=nM) rfl];rfl
theorem JI(t:Nat)(a b:az):dC T .add t (.str a) (.str b)=if a.length+b.length<=4611686018427387904 then some (.str (a++b))else none:=rfl
def t72(s:az):callW pg 72 [.str s]=af (.bool (dY s)):=by
 rw[C72];have h1:=t118 s;unfold dY;cases hw:vU s with
 |false=>
  rw[hw]at h1;simp[S72,h1]
 |true=>
  have hl:=Lx hw;rw[hw]at h1;have h2:=t119 ([32]++s++[32]);unfold qF at h2;have e1:dC T .add 9 (.str [32]) (.str s)=some (.str ([32]++s)):=by rw[JI,aaH Bk]
  have e2:dC T .add 9 (.str ([32]++s)) (.str [32])=some (.str ([32]++s++[32])):=by rw[JI,aaH Bk]
  simp only[S72,Hb,h1,ar,ib,e1,ai,e2,h2,eQ,ax,oZ,nX,ach];rfl
variable {t:Ty}
def PV(h:t.Lim)(k:Nat)(hk:k<t.fields.length):(t.fields[k]!).2.Lim:=by
 rw[aaG t.fields k hk];exact h.kid (List.getElem_mem hk)
theorem t120:∀(d:Nat),d<=4->∀(t:Ty),t.Lim->callW pg 120 [t.av,qi d]=af (.bool (fC d t))
 |0,_,t,_=>by
  rw[C120];simp[S120,fC]
 | d + 1,hd,t,ht=>by
  have ih:=t120 d WD;have hlen:=ht.len;have hd1:IntKind.i64.wrap ((((d+1:Nat)):Int)-1)=(d:Int):=BW WD;have hloop:=PD (F:=L120_0 (callW pg) ae) (FL120_0 (callW pg)) (fun k=>[qi ((d+1:Nat):Int),.ip (ab t.av),aB t.fields,qi t.fields.length,qi k]) t.fields.length
   (fun k=>(dY (t.fields[k]!).1&&fC d (t.fields[k]!).2)&&(decide (k=0)||gH (t.fields[k-1]!).1 (t.fields[k]!).1))
   (by simp[L120_0]) (fun k hk=>by
    have h1:(k:Int)<(t.fields.length:Int):=WD
    have hix:=rn (l:=t.fields) (n:=(k:Int)) WD h1;rw[aaP]at hix;have hm:t.fields[k]! ∈t.fields:=by rw[aaG t.fields k hk];exact List.getElem_mem hk
    have h2:=t72 (t.fields[k]!).1;have h3:=ih (t.fields[k]!).2 (PV ht k hk);have hw:IntKind.i64.wrap ((k:Int)+1)=(k:Int)+1:=by rw[bz WD];simp
    have hd0:IntKind.i64.wrap (d:Int)=(d:Int):=OH WD;generalize t.fields[k]! = f at hix h2 h3 hm |-;rcases abE k with hk0|hk0
    ·subst hk0;have hix0:au T 38 (aB t.fields) (qi 0)=some (.ip (ab (bF f))):=hix;have hw0:IntKind.i64.wrap 1=1:=rfl;simp[L120_0,hix0,h2,h3,hw0,hd0,hk];cases dY f.1<;>cases fC d f.2<;>simp
    ·have hp:IntKind.i64.wrap ((k:Int)-1)=((k-1:Nat):Int):=by
      rw[aD WD WD];omega
     have h4:((k-1:Nat):Int)<(t.fields.length:Int):=WD
     have hix2:=rn (l:=t.fields) (n:=((k-1:Nat):Int)) WD h4;rw[aaP]at hix2;generalize t.fields[k-1]! = g at hix2 |-;have hk1:¬k=0:=WD
     simp[L120_0,h1,hix,h2,h3,hw,hd0,hp,hix2,hk0,hk1,hk];cases dY f.1<;>simp
     grind [gH]) 0 (aa1 _)
  have hall:((List.range' 0 t.fields.length).all fun k=>(dY (t.fields[k]!).1&&fC d (t.fields[k]!).2)&&(decide (k=0)||gH (t.fields[k-1]!).1 (t.fields[k]!).1))=(t.fields.all (fun f=>dY f.1&&fC d f.2)&&pE (fun a b=>gH a.1 b.1) t.fields):=
   IJ (fun f:bQ=>dY f.1&&fC d f.2) (fun a b=>gH a.1 b.1) t.fields
  rw[adh,hall]at hloop;rw[C120];have h0:¬((d:Int)+1=0):=WD
  have hl2:ae (L120_0 (callW pg) ae) [qi ((d:Int)+1),.ip [qi t.kind,aB t.fields],aB t.fields,qi t.fields.length,qi 0]=af (.bool (t.fields.all (fun f=>dY f.1&&fC d f.2)&&pE (fun a b=>gH a.1 b.1) t.fields)):=by
   simpa using hloop
  have hR:fC (d+1) t=if((t.kind<0\/3<=t.kind)\/8<(t.fields.length:Int))\/¬t.kind=2/\0<t.fields.length then false else(t.fields.all (fun f=>dY f.1&&fC d f.2)&&pE (fun a b=>gH a.1 b.1) t.fields):=by
   rw[kN];generalize (t.fields.all (fun f=>dY f.1&&fC d f.2)&&pE (fun a b=>gH a.1 b.1) t.fields)=q;generalize t.fields.length=n;generalize t.kind=k;split
   ·grind
   ·grind
  rw[hR];simp[S120,h0,hl2]
def t74(t:Ty)(ht:t.Lim):callW pg 74 [t.av]=af (.bool (bZ t)):=by
 rw[C74];have:callW pg 120 [t.av,qi 4]=af (.bool (fC 4 t)):=t120 4 WD t ht;simp[S74,this]
def t69(t:Ty)(ht:t.Lim):callW pg 69 [t.av]=af (.bool (bZ t)):=by
 rw[C69];simp[S69,t74 t ht]
theorem vp:(l:List bQ)->j9 (dj l)=some (l.map fun f=>(f.1,f.2.kind,dj f.2.fields))
 |[]=>rfl
 |f:: l=>by simp[dj,j9,vp l,nP,EL,aB]
theorem Bc{α β:Type}(g:α->β)(p:β->Bool):(l:List α)->bV p (l.map g)=(bV (fun x=>p (g x)) l).map g
 |[]=>rfl
 |x:: l=>by
  simp only[aa0,bV,Bc g p l]
  grind
def ty0:Ty:=.mk 0 []
def t78(l:List bQ)(hl:l.length<=1000000000)(s:az):callW pg 78 [aB l,.str s]=af (.tup [((bV (fun f=>f.1== s) l).map (·.2)).getD ty0 |>.av,.bool (bV (fun f=>f.1== s) l).isSome]):=by
 rw[dc hOther (E:=qv) rfl];unfold qv aB;simp only[vp,abA,hl,abj,aaF,HM,Bc];cases bV (fun f:bQ=>f.1== s) l with
 |none=>rfl
 |some f=>simp[bJ,af,Ty.av,Ty.cells_eq,aB];rfl
def Ty.Short:Nat->Ty->Prop
 |0,_=>True
 |n+1,t=>t.fields.length<=1000000000/\∀f∈t.fields,Ty.Short n f.2
theorem tB:∀(d:Nat)(t:Ty),fC d t=true->∀n,Ty.Short n t
 |0,t,h,_=>by cases h
 |d+1,t,h,0=>trivial
 |d+1,t,h,n+1=>by
  rw[kN]at h;simp only[aaD,aaL,aaS]at h;exact⟨WD,fun f hf=>tB d f.2 (h.2.1 f hf).2 n⟩
theorem lO{α:Type}{p:α->Bool}:{l:List α} ->{x:α} ->bV p l=some x->x∈l/\p x=true
 |[],x,h=>by cases h
 | y:: l,x,h=>by
  simp only[bV]at h;cases h2:bV p l with
  |some z=>
   rw[h2]at h;cases h
   have:=lO h2
   grind
  |none=>
   grind
theorem t40:∀(n:Nat)(b a:Ty),Ty.Short n a->Ty.Short n b->fC n b=true->callW pg 40 [a.av,b.av]=af (.bool (cg a b))
 |0,b,a,_,_,h=>by cases h
 | n+1,b,a,ha,hb,h=>by
  have ih:=t40 n;rw[kN]at h;simp only[aaD,aaL,aaS]at h;have hf:∀f∈b.fields,bj (callW pg) (.fn (.func 85) [] [.ip (ab a.av)]) [bF f]=af (.bool (!(match bV (fun z=>z.1== f.1) a.fields with|some z=>cg z.2 f.2|none=>false))):=by
   intro f hfm;show callW pg 85 [bF f,.ip (ab a.av)]=_;have h1:=t78 a.fields ha.1 f.1;rw[C85];cases hl:bV (fun z:bQ=>z.1== f.1) a.fields with
   |none=>
    simp_all[S85,cl,ek]
   |some z=>
    rw[hl]at h1;have h2:=ih f.2 z.2 (ha.2 z (lO hl).1) (hb.2 f hfm) (h.2.1 f hfm).2;simp[S85,h1,cl,ek,h2]
  have h2:=t84 (.fn (.func 85) [] [.ip (ab a.av)]) _ b.fields qr (fun g=>by simp[cl,ek]) hf;rw[C40,Ax];simp at h2;simp[S40,h2]
  grind
@[simp] theorem GV(t:Nat)(a b:Int):dC T .andNot t (qi a) (qi b)=some (.int .i64 (gh a b)):=rfl
variable {h:Hp}
theorem aP{α β:Type}{m:M α}{a:α}{h':Hp}(e:m h= .ok a h')(f:α->M β):ah m f h=f a h':=by simp only[ah,e]
def Td(x:bQ):(ab (bF x)).length=3:=AI
def pN(l:List bQ):aB l= .sl (l.map bF):=by rw[aB,eJ]
def t41(t:Ty)(h:bZ t=true):callW pg 41 [t.av]=af t.av:=by
 have e0:callW pg 41 [t.av]=ql (callW pg) [t.av]:=dc hOther rfl _;rw[e0];simp only[ql,OC 5 t (Nw 4 t (Bn 4 t h)),aaF];rfl
theorem rF{α:Type}(F:α->Bool):(l:List α)->(i:Int)->(l.find? F=none/\aS F l i= -1)\/∃(k:Nat)(x:α),l.find? F=some x/\l[k]? = some x/\aS F l i=i+k
 |[],i=>.inl ⟨rfl,rfl⟩
 | x:: l,i=>by
  cases h:F x with
  |true=>exact .inr ⟨0,x,by simp[h],rfl,by simp[aS,h]⟩
  |false=>
   rcases rF F l (i+1)with⟨h1,h2⟩|⟨k,y,h1,h2,h3⟩
   ·grind [aS]
   ·exact .inr ⟨k+1,y,by simp[h,h1],by simpa using h2,by simp[aS,h,h3];omega⟩
def gy(t:Ty):Prop:=∀n,Ty.Short n t
def gy.len(h:gy t):t.fields.length<=1000000000:=(h 1).1
def gy.kid(h:gy t){f:bQ}(hf:f∈t.fields):gy f.2:=fun n=>(h (n+1)).2 f hf
theorem iY{d:Nat}(h:fC d t=true):gy t:=tB d t h
def Dm{k:Int}{fs:List bQ}(h:fs.length<=1000000000)(hf:∀f∈fs,gy f.2):gy (.mk k fs):=fun n=>by
 cases n with
 |zero=>exact trivial
 |succ n=>exact⟨h,fun f hm=>hf f hm n⟩
def Ja{f:bQ}(h:f∈t.fields):SizeOf.sizeOf f.2<SizeOf.sizeOf t:=by
 cases t with
 |mk k fs=>
  have h1:=acv (show f∈fs from h)
  grind
theorem uM(f:bQ)(fs l:List bQ):pr (f:: fs) l=(match UL f l with|some x=>[x]|none=>[])++pr fs l:=by
 simp only[pr];rfl
theorem OD(f:bQ)(l:List bQ):UL f l=match bV (fun z=>z.1== f.1) l with
  |some z=>(match zD f.2 z.2 with|some u=>some (f.1,u)|none=>none)
  |none=>none:=by
 grind [UL]
theorem GA(l:List bQ):(fs:List bQ)->(pr fs l).length<=fs.length
 |[]=>by simp[pr]
 |f:: fs=>by
  have:=GA l fs
  grind [uM]
def CE(n:az)(t:Ty):bS T false 96 [(0,.str n),(1,t.av)]=some (bF (n,t)):=by
 cases t;rfl
def sl1(f:bQ):ay T 38 1 [(0,bF f)]=some (aB [f]):=by
 obtain⟨n,t⟩:=f;cases t;rfl
theorem O3(l:List bQ):dH (aB l)=af (aB l):=rfl
def PY(b:Ty)(hb:gy b)(l:List bQ)(hl:l.length<=1000000000)(k:Int)(x4 x5:AV)(hk:∀f∈l,∀t:Ty,gy t->callW pg 126 [f.2.av,t.av]=af (match zD f.2 t with|some u=>.tup [u.av,.bool true]|none=>.tup [ty0.av,.bool false])):∀(n i:Nat)(acc:List bQ),l.length-i=n->i<=l.length->acc.length<=i->
  ae (L126_0 (callW pg) ae) [.ip (ab b.av),aB l,qi l.length,qi i,x4,x5,qi k,aB acc]=af (.tup [(Ty.mk k (acc++pr (l.drop i) b.fields)).av,.bool true]):=by
 intro n
 induction n with
 |zero=>
  intro i acc hn hi ha;have h1:¬((i:Int)<(l.length:Int)):=WD
  have h2:l.drop i=[]:=List.drop_eq_nil_of_le WD;have h3:aC 2 [] (.agg [qi k,aB acc])=af (.agg [qi k,aB acc]):=bU rfl;rw[FL126_0,h2];simp[L126_0,h1,pr,h3];rfl
 | succ n ih=>
  intro i acc hn hi ha;have hlt:i<l.length:=WD
  have h1:(i:Int)<(l.length:Int):=WD
  have h2:l.drop i=l[i]:: l.drop (i+1):=List.drop_eq_getElem_cons hlt;have hw:IntKind.i64.wrap ((i:Int)+1)=(i:Int)+1:=bz WD;have hix:=rn (l:=l) (n:=(i:Int)) WD h1;rw[aaP,aaG l i hlt]at hix;have hk':=hk l[i] (List.getElem_mem hlt);have hlk:=t78 b.fields hb.len l[i].1;have ih2:∀acc:List bQ,acc.length<=i+1->ae (L126_0 (callW pg) ae) [.ip (ab b.av),aB l,qi l.length,qi ((i:Int)+1),x4,x5,qi k,aB acc]=af (.tup [(Ty.mk k (acc++pr (l.drop (i+1)) b.fields)).av,.bool true]):=fun acc ha=>ih (i+1) acc WD WD ha;simp only[i9]at ih2;rw[FL126_0,h2,uM,OD];generalize l[i]=f at hix hk' hlk |-;cases hz:bV (fun z:bQ=>z.1== f.1) b.fields with
  |none=>
   rw[hz]at hlk;have ih':=ih2 acc WD;simp[L126_0,h1,hix,hlk,hw,ih']
  | some z=>
   rw[hz]at hlk;have hc:=hk' z.2 (hb.kid (lO hz).1);cases hu:zD f.2 z.2 with
   |none=>
    rw[hu]at hc;have ih':=ih2 acc WD;simp_all[L126_0]
   |some u=>
    rw[hu]at hc;have ih':=ih2 (acc++[(f.1,u)]) Bk;have hap:=Ro (a:=acc) (b:=[(f.1,u)]) Bk;simp_all[L126_0,CE,sl1,O3]
theorem t126(a b:Ty)(ha:gy a)(hb:gy b):callW pg 126 [a.av,b.av]=af (match zD a b with|some u=>.tup [u.av,.bool true]|none=>.tup [ty0.av,.bool false]):=by
 have hloop:=PY b hb a.fields ha.len a.kind (qi 0) (.sl []) (fun f hf t ht=>by
  have:=Ja hf
  exact t126 f.2 t (ha.kid hf) ht) a.fields.length 0 [] rfl (aa1 _) (aa1 _)
 rw[C126];have e1:zD a b=if a.kind=b.kind then some (.mk a.kind (pr a.fields b.fields))else none:=by
  cases a;cases b;simp only[zD,Ty.kind,Ty.fields];rfl
 have b1:bS T false 49 []=some ty0.av:=rfl;have b2:∀k:Int,bS T true 49 [(0,qi k)]=some (.agg [qi k,.hn]):=fun k=>rfl;have b3:∀k:Int,aC 2 [1] (.agg [qi k,.hn])=af (.agg [qi k,.hn]):=fun k=>rfl;rw[e1];simp only[aaZ,aaU]at hloop;by_cases hk:a.kind=b.kind
 ·have hk':(a.kind != b.kind)=false:=by simp[hk]
  rw[aaH hk];have hloop':ae (L126_0 (callW pg) ae) [.ip (ab b.av),aB a.fields,qi a.fields.length,qi 0,qi 0,.sl [],qi a.kind,.sl []]=af (.tup [(Ty.mk a.kind (pr a.fields b.fields)).av,.bool true]):=hloop;simp only[i9]at hloop';simp[S126,hk',b2,b3,hloop'];exact bb fun g=>by simp[cl,ek]
 ·have hk':(a.kind != b.kind)=true:=by simp[hk]
  rw[aaC hk];simp[S126,hk',b1];exact bb fun g=>by simp[cl,ek]
termination_by SizeOf.sizeOf a
def cE{m:M AV}{v r:AV}{h':Hp}(e:m []= .ok v h')(f:jd 6 h' v=r):aI m=af r:=by
 funext hp;unfold aI;rw[e];show R.ok (jd 6 h' v) hp=R.ok r hp;rw[f]
def t125(t:Ty)(k:Int):callW pg 125 [t.av,.ip [qi k]]=af (.bool (t.kind != k)):=by
 rw[C125];simp[S125,cl,ek]
def t124(k:Int)(l:List Ty)(hl:l.length<=1000000):callW pg 124 [qi k,.ip [kE l]]=af (.bool (nq k l)):=by
 have h:=t70 (.fn (.func 125) [] [.ip [qi k]]) (fun t=>t.kind != k) l WD (fun g=>by simp[cl,ek]) (fun t _=>t125 t k);simp_all[C124,nq,adp,bne,S124,cl,ek]
theorem B1(f:AV->M AV):ah (newH [qi 0,.hn]) f []=f (.hp 0 0) [[qi 0,.hn]]:=rfl
theorem B2(f:AV->M AV)(k:Int)(fs:List AV)(c1 c2:AV):ah (cp T 49 (.hp 0 0) (.agg [qi k,.sl fs])) f [[c1,c2]]=f (.tup []) [[qi k,.sl fs]]:=rfl
theorem GD(f:AV->M AV)(k:Int)(c1 c2:AV):ah (cp T 49 (.hp 0 0) (.agg [qi k,.hn])) f [[c1,c2]]=f (.tup []) [[qi k,.hn]]:=rfl
theorem B3(f:AV->M AV)(k:Int)(c1 c2:AV):ah (cp T 3 (.hp 0 0) (qi k)) f [[c1,c2]]=f (.tup []) [[qi k,c2]]:=rfl
theorem B4(f:AV->M AV)(c1 c2:AV):ah (bC T 49 (.hp 0 0)) f [[c1,c2]]=f (.agg [c1,c2]) [[c1,c2]]:=rfl
theorem fa0:aU T 49 (.hp 0 0) 0=some (.hp 0 0):=rfl
theorem fa1:aU T 49 (.hp 0 0) 1=some (.hp 0 1):=rfl
theorem GF:bS T true 49 []=some (.agg [qi 0,.hn]):=rfl
theorem IL:bS T false 49 []=some ty0.av:=rfl
def GH(k:Int):aC 2 [] (.agg [qi k,.hn])=af (.agg [qi k,.hn]):=bU rfl
def GI(k:Int)(fs:List AV):aC 2 [] (.agg [qi k,.sl fs])=af (.agg [qi k,.sl fs]):=bU rfl
def cnr(k:Int)(l n:Nat):aC 2 [] (.agg [qi k,.hs l 0 n 3 true])=af (.agg [qi k,.hs l 0 n 3 true]):=bU rfl
theorem Q8(n:Int):dH (qi n)=af (.int .i64 n):=rfl
theorem OB:ty0.av= .agg [qi 0,.sl []]:=rfl
def Vp(f:AV->M AV)(t:Ty)(c1 c2:AV):ah (cp T 49 (.hp 0 0) t.av) f [[c1,c2]]=f (.tup []) [[qi t.kind,aB t.fields]]:=by
 rw[<- iL];rfl
def cnt(t:Ty):aC 2 [] (.agg [qi t.kind,aB t.fields])=af (.agg [qi t.kind,aB t.fields]):=bU rfl
def OS(h:Hp)(acc:List bQ):Prop:=(acc=[]/\h[0]? = some [.int .i64 2,.hn])\/(acc≠[]/\∃q,q≠0/\h[0]? = some [.int .i64 2,.hs q 0 acc.length 3 true]/\h[q]? = some (rowOf bF acc))
theorem Rm:(l:List bQ)->(rowOf bF l).all aG=true
 |[]=>rfl
 |f:: l=>by
  rw[mB,List.all_append,Rm l,abN,jR];rfl
def LQ{h:Hp}{acc:List bQ}(A:OS h acc)(hl:acc.length<=1000000)(f:bQ):∃sv rv h1 h2,bC T 38 (.hp 0 1) h= .ok sv h/\appH T 38 false sv (aB [f]) h= .ok rv h1/\cp T 38 (.hp 0 1) rv h1= .ok (.tup []) h2/\OS h2 (acc++[f]):=by
 have hfl:aB [f]= .sl [bF f]:=by rw[pN];rfl
 have h0l:0<h.length:=by
  rcases A with⟨_,h0⟩|⟨_,q,_,h0,_⟩
  ·grind
  ·grind
 rcases A with⟨rfl,h0⟩|⟨hne,q,hq0,h0,hq⟩
 ·have e1:bC T 38 (.hp 0 1) h= .ok .hn h:=rO rfl rfl h0 rfl;have e2:=Q5 (T:=T) (t:=38) (e:=96) rfl rfl rfl (x:=bF f) (oi f) Vc Vc Vc h;rw[<- hfl]at e2;have h0':(h++[ab (bF f)])[0]? = some [.int .i64 2,.hn]:=by rw[aa6 h0l];exact h0
  have e3:=Dp (T:=T) (t:=38) rfl (k:=1) (v:=.hs h.length 0 1 3 true) h0' rfl Vc Vc;refine⟨_,_,_,_,e1,e2,e3,.inr ⟨AI,h.length,WD,?_,?_⟩⟩
  ·rw[abk AI];rfl
  simp_all[rowOf]
 ·have e1:bC T 38 (.hp 0 1) h= .ok (.hs q 0 acc.length 3 true) h:=rO rfl rfl h0 rfl;have hln:=jh (f:=bF) Td acc;have hpos:0<acc.length:=ab1.2 hne;have e2:=L5 (T:=T) (t:=38) (e:=96) rfl rfl rfl (x:=bF f) (oi f) Vc Vc hq (Rm acc) hln hpos (show (acc.length+1)*48<=_ by omega);rw[<- hfl]at e2;have hql:q<h.length:=(aaJ.1 hq).1;have h0':((h.set q [])++[rowOf bF acc++ab (bF f)])[0]? = some [.int .i64 2,.hs q 0 acc.length 3 true]:=by
   rw[aa6 (by simpa using h0l),ab8 WD];exact h0
  have e3:=Dp (T:=T) (t:=38) rfl (k:=1) (v:=.hs h.length 0 (acc.length+1) 3 true) h0' rfl (show 1+1<=2 by omega) Vc;refine⟨_,_,_,_,e1,e2,e3,.inr ⟨AI,h.length,WD,?_,?_⟩⟩
  ·rw[abk AI,abh];rfl
  simp_all[rowOf]
theorem LP{acc:List bQ}(A:OS h acc):∃v,bC T 49 (.hp 0 0) h= .ok v h/\aC 2 [] v=af v/\(∃c1 c2,v= .agg [c1,c2])/\jd 6 h (.tup [v,qi 0])= .tup [(Ty.mk 2 acc).av,qi 0]:=by
 have e:(Ty.mk 2 acc).av= .agg [qi 2,aB acc]:=rfl;rcases A with⟨rfl,h0⟩|⟨hne,q,hq0,h0,hq⟩
 ·exact⟨.agg [qi 2,.hn],Nr (T:=T) (t:=49) rfl rfl h0 (show 0+2<=2 by omega),GH 2,⟨_,_,rfl⟩,rfl⟩
 ·refine⟨.agg [qi 2,.hs q 0 acc.length 3 true],Nr (T:=T) (t:=49) rfl rfl h0 (show 0+2<=2 by omega),cnr 2 q acc.length,⟨_,_,rfl⟩,?_⟩;have hfr:=uk (f:=bF) Td (fun x=>AN) (fun x g=>Mm g x) Vc hq 5;rw[e,pN,<- hfr];rfl
def Ug(e:Exp)(l:List Ty)(x1 x2:AV)(hlen:l.length<=1000000)(hn:e.names.length=l.length):∀(n i:Nat)(h:Hp),l.length-i=n->i<=l.length->OS h ((e.names.zip l).take i)->
  ∃v h',ae (L83_0 (callW pg) ae (K83_0 (callW pg) ae)) [.ip (ab e.av),.hp 0 0,.bool true,kE l,qi l.length,qi i,x1,x2] h= .ok v h'/\jd 6 h' v= .tup [(Ty.mk 2 (e.names.zip l)).av,qi 0]:=by
 intro n
 induction n with
 |zero=>
  intro i h hi hle A;have h1:¬((i:Int)<(l.length:Int)):=WD
  have h2:(e.names.zip l).take i=e.names.zip l:=abW qr;rw[h2]at A;obtain⟨v,e1,e2,⟨c1,c2,rfl⟩,e3⟩:=LP A;refine⟨_,h,?_,e3⟩;rw[FL83_0];simp only[L83_0,K83_0,ax,aF,bc,ai,h1,abO,am,aaK,aaR,eQ,abR];rw[aP e1];simp only[e2,ar,cz,ax,aF];rfl
 | succ n ih=>
  intro i h hi hle A;have hlt:i<l.length:=WD
  have hlt2:i<e.names.length:=WD
  have h1:(i:Int)<(l.length:Int):=WD
  have hw:IntKind.i64.wrap ((i:Int)+1)=(i:Int)+1:=bz WD;have hix:=uQ (l:=l) (n:=(i:Int)) WD h1;rw[aaP,aaG l i hlt]at hix;have hix2:=wH (l:=e.names) (n:=(i:Int)) WD WD;rw[aaP,aaG e.names i hlt2]at hix2;have ht:(e.names.zip l).take (i+1)=(e.names.zip l).take i++[(e.names[i],l[i])]:=by
   rw[ac2 qr,List.getElem_zip]
  obtain⟨sv,rv,h2,h3,e1,e2,e3,A3⟩:=LQ A qr (e.names[i],l[i]);rw[<- ht]at A3;obtain⟨v,h',e4,e5⟩:=ih (i+1) h3 WD WD A3;refine⟨v,h',?_,e5⟩;have e4':ae (L83_0 (callW pg) ae (K83_0 (callW pg) ae)) [.ip (ab e.av),.hp 0 0,.bool true,kE l,qi l.length,qi ((i:Int)+1),x1,x2] h3= .ok v h':=e4;rw[<- e4'];generalize hcode:ae (L83_0 (callW pg) ae (K83_0 (callW pg) ae)) [.ip (ab e.av),.hp 0 0,.bool true,kE l,qi l.length,qi i,x1,x2] h=code;rw[FL83_0]at hcode;simp only[L83_0,ax,aF,bc,ai,h1,abj,am,aaV,hix,i9,LD49,aaX,aaW,aa7,Nat.reduceAdd,aaI,abD,abu,iL,Av.jY,ar,fa1]at hcode;rw[aP e1]at hcode;simp only[bK,FA31_4,ai,aa5,aaZ,LD28,hix2,oD,LD9,LD49,aaX,aaW,aa7,Nat.reduceAdd,aaI,aaV,abD,abu,iL,CE,sl1]at hcode;rw[aP e2]at hcode;rw[aP e3]at hcode;simp_all
theorem iP(l:List Ty):ab (kE l)=[kE l]:=rfl
def t83(e:Exp)(l:List Ty)(hl:∀t∈l,gy t)(hlen:l.length<=1000000)(h11:e.op=11->l.length=3)(h14:e.op=14->l.length=1)(h13:e.op=13->e.names.length=l.length):callW pg 83 [e.av,kE l]=af (match bP e l with|some t=>.tup [t.av,.int .i64 0]|none=>.tup [ty0.av,.int .i64 13]):=by
 have h0:=t124 0 l hlen;have h1:=t124 1 l hlen;rw[C83,G9,Mq];have fin:∀k:Int,jd 6 [[.int .i64 k,.hn]] (.tup [.agg [.int .i64 k,.hn],.int .i64 0])= .tup [(Ty.mk k []).av,.int .i64 0]:=fun k=>rfl;have fin0:∀h:Hp,jd 6 h (.tup [ty0.av,.int .i64 13])= .tup [ty0.av,.int .i64 13]:=fun h=>rfl;have fins:∀(h:Hp)(t:Ty),jd 6 h (.tup [.agg [.int .i64 t.kind,aB t.fields],.int .i64 0])= .tup [t.av,.int .i64 0]:=fun h t=>by
  have hc:Ap.Clean (AV.tup [t.av,.int .i64 0]):=fun g=>by simp[cl,ek]
  rw[iL];exact hc.frz 6 h
 by_cases o3:e.op=3\/e.op=4\/e.op=5\/e.op=16
 ·have ep:bP e l=if nq 0 l=true then some (.mk 0 [])else none:=by unfold bP;rw[aaH o3]
  rw[ep];cases hb:nq 0 l with
  |true=>
   rw[hb]at h0;refine cE (v:=.tup [.agg [.int .i64 0,.hn],.int .i64 0]) (h':=[[.int .i64 0,.hn]]) ?_ (fin 0);rcases o3 with hop|hop|hop|hop<;>simp[S83,K83_0,K83_1,K83_2,GF,IL,B1,B2,GD,B3,B4,fa0,hop,GH,GI,bj,iP,h0,h1]<;>rfl
  |false=>
   rw[hb]at h0;refine cE (v:=.tup [ty0.av,.int .i64 13]) (h':=[[.int .i64 0,.hn]]) ?_ (fin0 _);rcases o3 with hop|hop|hop|hop<;>simp[S83,K83_0,K83_1,K83_2,GF,IL,B1,B2,GD,B3,B4,fa0,hop,GH,GI,bj,iP,h0,h1]<;>rfl
 ·by_cases hop:e.op=1
  ·have ep:bP e l=some (.mk 1 []):=by unfold bP;rw[aaC o3,aaH hop]
   rw[ep];refine cE (v:=.tup [.agg [.int .i64 1,.hn],.int .i64 0]) (h':=[[.int .i64 1,.hn]]) ?_ (fin 1);simp[S83,K83_0,K83_1,K83_2,GF,IL,B1,B2,GD,B3,B4,fa0,hop,GH,GI,bj,iP,h0,h1,Q8];rfl
  ·by_cases hop6:e.op=6
   ·have hop:=hop6;have ep:bP e l=if nq 0 l=true then some (.mk 1 [])else none:=by unfold bP;rw[aaC o3,aaC WD,aaH hop6]
    rw[ep];cases hb:nq 0 l with
    |true=>
     rw[hb]at h0;refine cE (v:=.tup [.agg [.int .i64 1,.hn],.int .i64 0]) (h':=[[.int .i64 1,.hn]]) ?_ (fin 1);simp[S83,K83_0,K83_1,K83_2,GF,IL,B1,B2,GD,B3,B4,fa0,hop,GH,GI,bj,iP,h0,h1,Q8];rfl
    |false=>
     rw[hb]at h0;refine cE (v:=.tup [ty0.av,.int .i64 13]) (h':=[[.int .i64 1,.hn]]) ?_ (fin0 _);simp[S83,K83_0,K83_1,K83_2,GF,IL,B1,B2,GD,B3,B4,fa0,hop,GH,GI,bj,iP,h0,h1,Q8];rfl
   ·by_cases hop7:e.op=7
    ·have hop:=hop7;have ep:bP e l=if(nq 0 l||nq 1 l)=true then some (.mk 1 [])else none:=by unfold bP;rw[aaC o3,aaC WD,aaC hop6,aaH hop7]
     rw[ep];cases hb:nq 0 l<;>cases hb1:nq 1 l<;>rw[hb]at h0<;>rw[hb1]at h1
     ·refine cE (v:=.tup [ty0.av,.int .i64 13]) (h':=[[.int .i64 1,.hn]]) ?_ (fin0 _);simp[S83,K83_0,K83_1,K83_2,GF,IL,B1,B2,GD,B3,B4,fa0,hop,GH,GI,bj,iP,h0,h1,Q8];rfl
     all_goals
      refine cE (v:=.tup [.agg [.int .i64 1,.hn],.int .i64 0]) (h':=[[.int .i64 1,.hn]]) ?_ (fin 1);simp[S83,K83_0,K83_1,K83_2,GF,IL,B1,B2,GD,B3,B4,fa0,hop,GH,GI,bj,iP,h0,h1,Q8];rfl
    ·by_cases o8:e.op=8\/e.op=9\/e.op=10
     ·have ep:bP e l=if nq 1 l=true then some (.mk 1 [])else none:=by unfold bP;rw[aaC o3,aaC WD,aaC hop6,aaC hop7,aaH o8]
      rw[ep];cases hb:nq 1 l with
      |true=>
       rw[hb]at h1;refine cE (v:=.tup [.agg [.int .i64 1,.hn],.int .i64 0]) (h':=[[.int .i64 1,.hn]]) ?_ (fin 1);rcases o8 with hop|hop|hop<;>simp[S83,K83_0,K83_1,K83_2,GF,IL,B1,B2,GD,B3,B4,fa0,hop,GH,GI,bj,iP,h0,h1,Q8]<;>rfl
      |false=>
       rw[hb]at h1;refine cE (v:=.tup [ty0.av,.int .i64 13]) (h':=[[.int .i64 1,.hn]]) ?_ (fin0 _);rcases o8 with hop|hop|hop<;>simp[S83,K83_0,K83_1,K83_2,GF,IL,B1,B2,GD,B3,B4,fa0,hop,GH,GI,bj,iP,h0,h1,Q8]<;>rfl
     ·by_cases hop11:e.op=11
      ·have hop:=hop11;have ep:bP e l=(match zD l[1]! l[2]! with|some t=>if l[0]!.kind=1 then some t else none|none=>none):=by unfold bP;rw[aaC o3,aaC WD,aaC hop6,aaC hop7,aaC o8,aaH hop11];rfl
       rw[ep];obtain⟨a,b,c,rfl⟩:∃a b c,l=[a,b,c]:=by
        have:=h11 hop
        match l,this with
        |[a,b,c],_=>grind
       have i0:au T 119 (kE [a,b,c]) (.int .i64 0)=some (.ip (ab a.av)):=uQ (l:=[a,b,c]) (n:=0) WD AI;have i1:au T 119 (kE [a,b,c]) (.int .i64 1)=some (.ip (ab b.av)):=uQ (l:=[a,b,c]) (n:=1) WD AI;have i2:au T 119 (kE [a,b,c]) (.int .i64 2)=some (.ip (ab c.av)):=uQ (l:=[a,b,c]) (n:=2) WD AI;have hu:=t126 b c (hl b AI) (hl c AI);show aI _=af (match (match zD b c with|some t=>if a.kind=1 then some t else none|none=>none)with|some t=>.tup [t.av,.int .i64 0]|none=>.tup [ty0.av,.int .i64 13]);cases hub:zD b c with
       |none=>
        rw[hub]at hu;refine cE (v:=.tup [ty0.av,.int .i64 13]) (h':=[[.int .i64 0,.sl []]]) ?_ (fin0 _);simp[S83,K83_0,K83_1,K83_2,GF,IL,B1,B2,GD,B3,B4,fa0,hop,GH,GI,bj,iP,h0,h1,i0,i1,i2,hu,hub,Vp,OB];rfl
       | some u=>
        rw[hub]at hu;by_cases hk:a.kind=1
        ·dsimp only;rw[aaH hk];have hk':(a.kind== 1)=true:=aa9.2 hk;refine cE (v:=.tup [.agg [.int .i64 u.kind,aB u.fields],.int .i64 0]) (h':=[[.int .i64 u.kind,aB u.fields]]) ?_ (fins _ u);simp[S83,K83_0,K83_1,K83_2,GF,IL,B1,B2,GD,B3,B4,fa0,hop,GH,GI,bj,iP,h0,h1,i0,i1,i2,hu,hub,Vp,hk',cnt];rfl
        ·dsimp only;rw[aaC hk];have hk':(a.kind== 1)=false:=aaN.2 hk;refine cE (v:=.tup [ty0.av,.int .i64 13]) (h':=[[.int .i64 u.kind,aB u.fields]]) ?_ (fin0 _);simp[S83,K83_0,K83_1,K83_2,GF,IL,B1,B2,GD,B3,B4,fa0,hop,GH,GI,bj,iP,h0,h1,i0,i1,i2,hu,hub,Vp,hk'];rfl
      ·by_cases hop13:e.op=13
       ·have hop:=hop13;have ep:bP e l=some (.mk 2 (e.names.zip l)):=by unfold bP;rw[aaC o3,aaC WD,aaC hop6,aaC hop7,aaC o8,aaC hop11,aaH hop13]
        rw[ep];obtain⟨v,h',e1,e2⟩:=Ug e l (.int .i64 0) (.sl []) hlen (h13 hop) l.length 0 [[.int .i64 2,.hn]] rfl (aa1 _) (.inl ⟨rfl,rfl⟩);refine cE (v:=v) (h':=h') ?_ e2;have e1':ae (L83_0 (callW pg) ae (K83_0 (callW pg) ae)) [.ip (ab e.av),.hp 0 0,.bool true,kE l,.int .i64 l.length,.int .i64 0,.int .i64 0,.sl []] [[.int .i64 2,.hn]]= .ok v h':=e1;rw[bK,hop]at e1';simp[S83,K83_1,K83_2,GF,B1,GD,B3,fa0,hop,iP,Q8];exact e1'
       ·by_cases hop14:e.op=14
        ·have hop:=hop14;have ep:bP e l=(match bV (fun z=>z.1== e.s) l[0]!.fields with|some z=>some z.2|none=>none):=by unfold bP;rw[aaC o3,aaC WD,aaC hop6,aaC hop7,aaC o8,aaC hop11,aaC hop13,aaH hop14];rfl
         rw[ep];obtain⟨a,rfl⟩:∃a,l=[a]:=by
          have:=h14 hop
          match l,this with
          |[a],_=>grind
         have i0:au T 119 (kE [a]) (.int .i64 0)=some (.ip (ab a.av)):=uQ (l:=[a]) (n:=0) WD AI;have hk:=t78 a.fields (hl a AI).len e.s;show aI _=af (match (match bV (fun z=>z.1== e.s) a.fields with|some z=>some z.2|none=>none)with|some t=>.tup [t.av,.int .i64 0]|none=>.tup [ty0.av,.int .i64 13]);cases hz:bV (fun z:bQ=>z.1== e.s) a.fields with
         |none=>
          rw[hz]at hk;refine cE (v:=.tup [ty0.av,.int .i64 13]) (h':=[[.int .i64 0,.sl []]]) ?_ (fin0 _);simp[S83,K83_0,K83_1,K83_2,GF,IL,B1,B2,GD,B3,B4,fa0,hop,GH,GI,bj,iP,h0,h1,i0,hk,Vp,OB];rfl
         |some z=>
          rw[hz]at hk;refine cE (v:=.tup [.agg [.int .i64 z.2.kind,aB z.2.fields],.int .i64 0]) (h':=[[.int .i64 z.2.kind,aB z.2.fields]]) ?_ (fins _ z.2);simp[S83,K83_0,K83_1,K83_2,GF,IL,B1,B2,GD,B3,B4,fa0,hop,GH,GI,bj,iP,h0,h1,i0,hk,Vp,cnt];rfl
        ·have ep:bP e l=some (.mk 0 []):=by unfold bP;rw[aaC o3,aaC WD,aaC hop6,aaC hop7,aaC o8,aaC hop11,aaC hop13,aaC hop14]
         rw[ep];refine cE (v:=.tup [.agg [.int .i64 0,.hn],.int .i64 0]) (h':=[[.int .i64 0,.hn]]) ?_ (fin 0);have n3:(e.op== 3)=false:=aaN.2 WD;have n4:(e.op== 4)=false:=aaN.2 WD;have n5:(e.op== 5)=false:=aaN.2 WD;have n16:(e.op== 16)=false:=aaN.2 WD;have n1:(e.op== 1)=false:=aaN.2 WD;have n6:(e.op== 6)=false:=aaN.2 WD;have n7:(e.op== 7)=false:=aaN.2 WD;have n8:(e.op== 8)=false:=aaN.2 WD;have n9:(e.op== 9)=false:=aaN.2 WD;have n10:(e.op== 10)=false:=aaN.2 WD;have n11:(e.op== 11)=false:=aaN.2 WD;have n13:(e.op== 13)=false:=aaN.2 WD;have n14:(e.op== 14)=false:=aaN.2 WD;simp[S83,K83_0,K83_1,K83_2,GF,B1,GD,B4,GH,n3,n4,n5,n16,n1,n6,n7,n8,n9,n10,n11,n13,n14];rfl
def Qu(f:AV)(F:Fun->Bool)(l:List Fun)(hb:l.length<=4611686018427387904)(hf:∀x∈l,bj (callW pg) f [Fun.av x]=af (.bool (F x))):∀(n:Nat)(i:Int),l.length-i.toNat=n->0<=i->i<=l.length->
  ae (L48_0 (callW pg) ae) [dW l,f,qi l.length,qi i]=af (.int .i64 (aS F (l.drop i.toNat) i)):=by
 intro n
 induction n with
 |zero=>
  intro i hn hi hl;rw[FL48_0];simp only[L48_0];have h1:¬(i<(l.length:Int)):=WD
  have h2:l.drop i.toNat=[]:=List.drop_eq_nil_of_le WD;simp[h1,h2,aS]
 |succ n ih=>
  intro i hn hi hl;have h1:i<(l.length:Int):=WD
  have hlt:i.toNat<l.length:=WD
  have h2:aS F (l.drop i.toNat) i=if F l[i.toNat]=true then i else aS F (l.drop (i.toNat+1)) (i+1):=by rw[List.drop_eq_getElem_cons hlt];rfl
  have h3:=hf l[i.toNat] (List.getElem_mem hlt);have h4:=ih (i+1) WD WD WD;rw[show (i+1).toNat=i.toNat+1 by omega]at h4;rw[FL48_0];simp only[L48_0];simp (disch:=omega) [h1,aD,vX,h3,h2];simp_all
def q48(f:AV)(F:Fun->Bool)(l:List Fun)(hb:l.length<=4611686018427387904)(hc:∀g,cl g f=f)(hf:∀x∈l,bj (callW pg) f [Fun.av x]=af (.bool (F x))):callW pg 48 [dW l,f]=af (.int .i64 (aS F l 0)):=by
 rw[C48];simp[S48,hc,Qu f F l hb hf l.length 0 rfl WD WD]
def NW(s:az)(l:List az)(hb:l.length<=4611686018427387904):∀(n:Nat)(i:Int),l.length-i.toNat=n->0<=i->i<=l.length->
  ae (L110_0 (callW pg) ae) [strs l,.str s,qi l.length,qi i]=af (.int .i64 (aS (fun x=>s== x) (l.drop i.toNat) i)):=by
 intro n
 induction n with
 |zero=>
  intro i hn hi hl;rw[FL110_0];simp only[L110_0];have h1:¬(i<(l.length:Int)):=WD
  have h2:l.drop i.toNat=[]:=List.drop_eq_nil_of_le WD;simp[h1,h2,aS]
 | succ n ih=>
  intro i hn hi hl;have h1:i<(l.length:Int):=WD
  have hlt:i.toNat<l.length:=WD
  have h2:aS (fun x=>s== x) (l.drop i.toNat) i=if(s== l[i.toNat])=true then i else aS (fun x=>s== x) (l.drop (i.toNat+1)) (i+1):=by rw[List.drop_eq_getElem_cons hlt];rfl
  have h4:=ih (i+1) WD WD WD;rw[show (i+1).toNat=i.toNat+1 by omega]at h4;rw[FL110_0,h2];simp only[L110_0];have hix:=wH (l:=l) (n:=i) hi h1;rw[aaG l i.toNat hlt]at hix;generalize l[i.toNat]=x at hix |-;cases hx:s== x
  ·have hw:IntKind.i64.wrap (i+1)=i+1:=aD WD WD;simp_all
  simp_all
theorem Z2(s:az)(l:List az)(hb:l.length<=4611686018427387904):callW pg 110 [strs l,.str s]=af (.int .i64 (aS (fun x=>s== x) l 0)):=by
 have h:=NW s l hb l.length 0 rfl WD WD
 grind [C110,S110,oI,Hb,wJ,ai,nY]
def Z6(s:az)(l:List az)(hb:l.length<=4611686018427387904):callW pg 172 [strs l,.str s]=af (.bool (l.contains s)):=by
 grind [C172,S172,oI,Hb,Z2,ar,mQ,ai,nW,nX]
def bp(m:Ap.Mod)(mp:AV)(n:Int):List AV:=[.str m.name,strs m.uses,aB m.vars,bY m.init,dW m.funcs,.bool m.moves,aB m.old,bY m.forward,bY m.back,mp,qi n]
def dn(fs:List Face):List AV:=fs.map fun f=>.tup [.str f.module,f.av]
def MpR(h:Hp)(mp:AV)(fs:List Face):Prop:=(mp= .nilm/\fs=[])\/∃l,mp= .mp l/\h[l]? = some [.tup (dn fs)]
structure JR (h:Hp) (q:Nat) (m:Ap.Mod) (mp:AV) (fs:List Face) (n:Int):Prop where
 row:h[q]? = some (bp m mp n)
 map:MpR h mp fs
 ne:mp≠.mp q
variable {fs:List Face}
def JR.set{m:Ap.Mod}{mp:AV}{n:Int}(R:JR h q m mp fs n)(n':Int):JR (h.set q (bp m mp n')) q m mp fs n':=by
 have hl:=(aaJ.1 R.row).1;refine⟨abk hl,?_,R.ne⟩;rcases R.map with h1|⟨l,h1,h2⟩
 ·exact .inl h1
 ·refine .inr ⟨l,h1,?_⟩;rw[ab8 (fun e=>R.ne (by rw[h1,e]))];exact h2
def JR.same{m:Ap.Mod}{mp:AV}{n:Int}(R:JR h q m mp fs n):h.set q (bp m mp n)=h:=by
 obtain⟨hl,e⟩:=aaJ.1 R.row
 grind [List.set_getElem_self]
def aaq{m:Ap.Mod}{mp:AV}(a b:Int):(h.set q (bp m mp a)).set q (bp m mp b)=h.set q (bp m mp b):=List.set_set ..
def JR.vars{m:Ap.Mod}{mp:AV}{n:Int}(R:JR h q m mp fs n):bC T 38 (.hp q 2) h= .ok (aB m.vars) h:=rO rfl rfl R.row rfl
def JR.funcs{m:Ap.Mod}{mp:AV}{n:Int}(R:JR h q m mp fs n):bC T 39 (.hp q 4) h= .ok (dW m.funcs) h:=rO rfl rfl R.row rfl
def JR.uses{m:Ap.Mod}{mp:AV}{n:Int}(R:JR h q m mp fs n):bC T 28 (.hp q 1) h= .ok (strs m.uses) h:=rO rfl rfl R.row rfl
def JR.mp{h:Hp}{q:Nat}{m:Ap.Mod}{mp:AV}{fs:List Face}{n:Int}(R:JR h q m mp fs n):bC T 111 (.hp q 9) h= .ok mp h:=rO rfl rfl R.row rfl
def JR.eff{m:Ap.Mod}{mp:AV}{n:Int}(R:JR h q m mp fs n):bC T 3 (.hp q 10) h= .ok (qi n) h:=rO rfl rfl R.row rfl
def JR.put{m:Ap.Mod}{mp:AV}{n:Int}(R:JR h q m mp fs n)(n':Int):cp T 3 (.hp q 10) (qi n') h= .ok (.tup []) (h.set q (bp m mp n')):=
 Dp (T:=T) (t:=3) rfl (v:=qi n') R.row rfl (show 10+1<=11 by omega) Vc
theorem eqF(a b:az):DN T 20 9 (.str a) (.str b)=some (a== b):=rfl
theorem xJ(s:az):(fs:List Face)->(i:Nat)->(fs.find? (fun f=>f.module== s)=none/\cV T 9 (.str s) (dn fs) i=some none)\/∃f j k,fs.find? (fun f=>f.module== s)=some f/\cV T 9 (.str s) (dn fs) i=some (some (j,k,f.av))
 |[],i=>.inl ⟨rfl,rfl⟩
 |x:: fs,i=>by
  show (_/\cV T 9 (.str s) (.tup [.str x.module,x.av]:: dn fs) i=_)\/∃f j k,_/\cV T 9 (.str s) (.tup [.str x.module,x.av]:: dn fs) i=_;unfold cV;rw[eqF,abG];have hc:(s== x.module)=(x.module== s):=acP.2 ⟨fun h=>aa9.2 (aa9.1 h).symm,fun h=>aa9.2 (aa9.1 h).symm⟩;rw[hc];cases hx:x.module== s with
  |true=>grind
  |false=>exact xJ s fs (i+1)
def uv{h:Hp}{mp:AV}{fs:List Face}(M:MpR h mp fs)(s:az):eL T 111 mp (.str s) true h= .ok (.tup [((fs.find? fun f=>f.module== s).getD me).av,.bool (fs.find? fun f=>f.module== s).isSome]) h:=by
 have e:∀es:List AV,pn T 111 es (.str s) true=(match cV T 9 (.str s) es 0 with
   |some (some (_,_,v))=>some (.tup [v,.bool true])
   |some none=>some (.tup [me.av,.bool false])
   |none=>none):=fun es=>rfl
 rcases M with⟨rfl,rfl⟩|⟨l,rfl,hl⟩
 ·unfold eL mb;simp only;rw[e];rfl
 grind [eL,mb,xJ]
def Z4(f:Fun)(e:Exp):callW pg 169 [f.av,.ip (ab e.av)]=af (.bool (f.name== e.s)):=by
 rw[C169];simp[S169,cl,ek]
def Z5(f:Sig)(e:Exp):callW pg 171 [f.av,.ip (ab e.av)]=af (.bool (f.name== e.s)):=by
 rw[C171];simp[S171,cl,ek]
structure CxOk (m:Ap.Mod) (fs:List Face):Prop where
 vlen:m.vars.length<=1000000
 vars:∀z∈m.vars,bZ z.2=true
 flen:m.funcs.length<=1000000
 ulen:m.uses.length<=1000000
 plen:∀f∈m.funcs,f.params.length<=1000000
 pars:∀f∈m.funcs,∀z∈f.params,bZ z.2=true
 res:∀f∈m.funcs,bZ f.result=true
 slen:∀f∈fs,f.funcs.length<=140737488355328
 splen:∀f∈fs,∀s∈f.funcs,s.params.length<=140737488355328
 spars:∀f∈fs,∀s∈f.funcs,∀t∈s.params,bZ t=true
 sres:∀f∈fs,∀s∈f.funcs,bZ s.result=true
def Lt:Sig:=⟨[],[],ty0,0⟩
def Aa(l:List bQ)(hl:l.length<=1000000)(x3 x4 x5 x6 x7:AV)(k:Int)(fs:List bQ)(e:Int):∀(n i:Nat)(acc:List Ty),l.length-i=n->i<=l.length->acc.length<=i->
  ae (L123_0 (callW pg) ae) [aB l,qi l.length,qi i,x3,x4,x5,x6,x7,.str [],kE acc,qi k,aB fs,qi e]=af (.tup [(Sig.mk [] (acc++(l.drop i).map (·.2)) (.mk k fs) e).av,.bool true]):=by
 intro n
 induction n with
 |zero=>
  intro i acc hn hi ha;have h1:¬((i:Int)<(l.length:Int)):=WD
  have h2:l.drop i=[]:=List.drop_eq_nil_of_le WD;have h3:aC 5 [] (.agg [.str [],kE acc,qi k,aB fs,qi e])=af (.agg [.str [],kE acc,qi k,aB fs,qi e]):=bU rfl;rw[FL123_0,h2];simp[L123_0,h1,h3];rfl
 |succ n ih=>
  intro i acc hn hi ha;have hlt:i<l.length:=WD
  have h1:(i:Int)<(l.length:Int):=WD
  have h2:l.drop i=l[i]:: l.drop (i+1):=List.drop_eq_getElem_cons hlt;have hw:IntKind.i64.wrap ((i:Int)+1)=(i:Int)+1:=bz WD;have hix:=rn (l:=l) (n:=(i:Int)) WD h1;rw[aaP,aaG l i hlt]at hix;have ih2:∀acc:List Ty,acc.length<=i+1->ae (L123_0 (callW pg) ae) [aB l,qi l.length,qi ((i:Int)+1),x3,x4,x5,x6,x7,.str [],kE acc,qi k,aB fs,qi e]=af (.tup [(Sig.mk [] (acc++(l.drop (i+1)).map (·.2)) (.mk k fs) e).av,.bool true]):=fun acc ha=>ih (i+1) acc WD WD ha;have ih':=ih2 (acc++[l[i].2]) Bk;have hap:=LF (a:=acc) (b:=[l[i].2]) Bk;rw[FL123_0,h2];generalize l[i]=f at hix hap ih' |-;have hsl:ay T 119 1 [(0,f.2.av)]=some (kE [f.2]):=by cases f.2;rfl
  have hc1:∀l:List Ty,dH (kE l)=af (kE l):=fun l=>rfl;simp_all[L123_0]
theorem Z3{h:Hp}{q:Nat}{m:Ap.Mod}{mp:AV}{fs:List Face}{n:Int}(R:JR h q m mp fs n)(K:CxOk m fs)(e:Exp):∃r,callW pg 123 [.hp q 0,e.av] h= .ok r h/\(match dm (gd m fs) e with
  |none=>r= .tup [Lt.av,.bool false]
  |some s=>∃nm,r= .tup [(Sig.mk nm s.1 s.2.1 s.2.2).av,.bool true]):=by
 have bs0:bS T false 121 []=some Lt.av:=rfl;have bs1:∀(k:Int)(x:List bQ)(f:Int),bS T true 121 [(2,(Ty.mk k x).av),(3,qi f)]=some (.agg [.str [],.hn,qi k,aB x,qi f]):=fun k x f=>rfl;have bs2:∀(k:Int)(x:List bQ)(f:Int),aC 5 [1] (.agg [.str [],.hn,qi k,aB x,qi f])=af (.agg [.str [],.hn,qi k,aB x,qi f]):=fun k x f=>rfl;have nc:m6 (.hp q 0)=some (.hp q 0):=rfl;rw[C123];by_cases hm:e.m=[]
 ·have hm':(e.m== [])=true:=aa9.2 hm;have h1:=q48 (.fn (.func 169) [] [.ip (ab e.av)]) (fun f=>f.name== e.s) m.funcs (by have:=K.flen;omega) (fun g=>by simp[cl,ek]) (fun f _=>Z4 f e);simp only[bK]at h1;have l1:∀f:AV->M AV,ah (bC T 39 (.hp q 4)) f h=f (dW m.funcs) h:=fun f=>aP R.funcs f;unfold dm;rw[aaH hm];simp only[gd];rcases rF (fun f:Fun=>f.name== e.s) m.funcs 0 with⟨h2,h3⟩|⟨k,f,h2,h3,h4⟩
  ·rw[h3]at h1;rw[h2];refine⟨_,?_,rfl⟩;simp[S123,hm',l1,h1,bs0];rfl
  ·rw[Int.zero_add]at h4;rw[h4]at h1;rw[h2];have hk:=(aaJ.1 h3).1;have hix:=vX (l:=m.funcs) (n:=(k:Int)) WD WD;rw[aaP,ac7,h3,ab6]at hix;have hneg:¬((k:Int)<0):=WD
   have hmem:=abg h3;have hlp:=Aa f.params (K.plen f hmem) (.str []) (.sl []) (qi 0) (.sl []) (qi 0) f.result.kind f.result.fields f.effects f.params.length 0 [] rfl (aa1 _) (aa1 _);have hlp':ae (L123_0 (callW pg) ae) [aB f.params,qi f.params.length,qi 0,.str [],.sl [],qi 0,.sl [],qi 0,.str [],.sl [],qi f.result.kind,aB f.result.fields,qi f.effects]=af (.tup [(Sig.mk [] (f.params.map (·.2)) f.result f.effects).av,.bool true]):=by
    rw[Ty.eta]at hlp;exact hlp
   have bs1':bS T true 121 [(2,f.result.av),(3,qi f.effects)]=some (.agg [.str [],.hn,qi f.result.kind,aB f.result.fields,qi f.effects]):=by
    rw[<- Ty.eta f.result];rfl
   refine⟨_,?_,[],rfl⟩;simp[S123,hm',l1,h1,hneg,hix,bs1',bs2,hlp'];rfl
 ·have hm':(e.m== [])=false:=aaN.2 hm;have l1:∀f:AV->M AV,ah (bC T 111 (.hp q 9)) f h=f mp h:=fun f=>aP R.mp f;have l2:∀f:AV->M AV,ah (eL T 111 mp (.str e.m) true) f h=f (.tup [((fs.find? fun f=>f.module== e.m).getD me).av,.bool (fs.find? fun f=>f.module== e.m).isSome]) h:=fun f=>aP (uv R.map e.m) f;have l4:∀(g:AV->M (List AV))(f:List AV->M AV),ah (ah (bC T 28 (.hp q 1)) g) f h=ah (g (strs m.uses)) f h:=fun g f=>by simp only[ah,R.uses]
  have cmf:∀f:Face,bn 2 f.av=af f.av:=fun f=>AN
  have hct:=Z6 e.m m.uses (by have:=K.ulen;omega);cases hf:fs.find? (fun f=>f.module== e.m)with
  | none=>
   rw[hf]at l2;have hix:=t170 (.fn (.func 171) [] [.ip (ab e.av)]) (fun f=>f.name== e.s) me.funcs (by simp[me]) (fun g=>by simp[cl,ek]) (fun f hf=>by cases hf);have hix':callW pg 170 [sigs me.funcs,.fn (.func 171) [] [.ip [qi e.op,qi e.n,.str e.s,.str e.m,strs e.names,bY e.args]]]=af (.int .i64 (-1)):=by
    have:=hix
    simp only[bK]at this;exact this
   have z1:bn 2 me.av=af (.agg [.str [],.sl []]):=rfl;have ec:dm (gd m fs) e=none:=by simp[dm,gd,hm,hf]
   rw[ec];refine⟨_,?_,rfl⟩;simp[S123,hm',l1,l2,z1,hix',bs0];rfl
  | some f=>
   rw[hf]at l2;have hfm:=abH hf;have h1:=t170 (.fn (.func 171) [] [.ip (ab e.av)]) (fun f=>f.name== e.s) f.funcs (by have:=K.slen f hfm;omega) (fun g=>by simp[cl,ek]) (fun f _=>Z5 f e);simp only[bK]at h1;rcases rF (fun f:Sig=>f.name== e.s) f.funcs 0 with⟨h2,h3⟩|⟨k,s,h2,h3,h4⟩
   ·rw[h3]at h1;have ec:dm (gd m fs) e=none:=by simp[dm,gd,hm,hf,h2]
    rw[ec];refine⟨_,?_,rfl⟩;simp[S123,hm',l1,l2,cmf,h1,bs0];rfl
   ·rw[Int.zero_add]at h4;rw[h4]at h1;have hk:=(aaJ.1 h3).1;have hix:=Rw (l:=f.funcs) (n:=(k:Int)) WD WD;rw[aaP,ac7,h3,ab6]at hix;have hneg:¬((k:Int)<0):=WD
    by_cases hu:e.m∈m.uses
    case neg=>
     have hu':m.uses.contains e.m=false:=by rw[<- acn,List.contains_iff_mem];exact hu
     rw[hu']at hct;have ec:dm (gd m fs) e=none:=by simp[dm,gd,hm,hf,h2,hu]
     rw[ec];refine⟨_,?_,rfl⟩;simp[S123,hm',l1,l2,l4,cmf,h1,hneg,hct,bs0];rfl
    case pos=>
     rw[List.contains_iff_mem.2 hu]at hct;have ec:dm (gd m fs) e=some (s.params,s.result,s.effects):=by simp[dm,gd,hm,hf,h2,hu]
     rw[ec];have GI:aC 5 [] s.av=af s.av:=Ci s;refine⟨_,?_,s.name,rfl⟩;simp[S123,hm',l1,l2,l4,cmf,h1,hneg,hct,hix,GI];rfl
theorem MO(k:Int)(es:List Exp):bS T false 31 [(0,qi k),(5,bY es)]=some (Exp.mk k 0 [] [] [] es).av:=rfl
def Co(e:Exp):bn 6 e.av=af e.av:=AN
def Mw(e:Exp):aC 6 [] e.av=af e.av:=AN
def f6(o n:Int)(s m:az)(ns:List az)(es:List Exp):AV.agg [qi o,qi n,.str s,.str m,strs ns,bY es]=(Exp.mk o n s m ns es).av:=pP (Exp.mk o n s m ns es)
def f6n(o n:Int)(s m:az)(es:List Exp):AV.agg [qi o,qi n,.str s,.str m,.sl [],bY es]=(Exp.mk o n s m [] es).av:=pP (Exp.mk o n s m [] es)
def Je(e:Exp)(n:Int):aI (af (.tup [e.av,qi n]))=af (.tup [e.av,qi n]):=bb fun g=>by simp[cl,ek]
def jT(o n:Int)(s m:az)(ns:List az)(es:List Exp):ab (Exp.mk o n s m ns es).av=[.int .i64 o,.int .i64 n,.str s,.str m,strs ns,bY es]:=bK _
def t166(e:Exp):callW pg 166 [e.av]=af (.tup [(iS e).1.av,qi (iS e).2]):=by
 have hc1:∀n:Int,dH (qi n)=af (.int .i64 n):=fun n=>rfl;have hc2:∀s:az,dH (.str s)=af (.str s):=fun s=>rfl;have hc3:∀s:List az,dH (strs s)=af (strs s):=fun s=>rfl;rw[C166];obtain⟨o,n,s,m,ns,es⟩:=e;have ho:o=0\/o=1\/o=2\/o=17\/o=18\/o=14\/o=16\/o=10\/o=12\/o=11\/o=13\/o=15\/(o≠0/\o≠1/\o≠2/\o≠17/\o≠18/\o≠14/\o≠16/\o≠10/\o≠12/\o≠11/\o≠13/\o≠15):=WD
 rcases ho with rfl|rfl|rfl|rfl|rfl|rfl|rfl|rfl|rfl|rfl|rfl|rfl|⟨h0,h1,h2,h17,h18,h14,h16,h10,h12,h11,h13,h15⟩
 all_goals first
  | (simp[S166,K166_0,K166_1,K166_2,MO,Mw,jT,f6,f6n,hc1,hc2,hc3,iS,Exp.op,Exp.n,Exp.s,Exp.m,Exp.names,Exp.args]
     exact Je _ _)
  | (simp[S166,K166_0,K166_1,K166_2,MO,Mw,jT,f6,f6n,hc1,hc2,hc3,iS,Exp.op,Exp.n,Exp.s,Exp.m,Exp.names,Exp.args,h0,h1,h2,h17,h18,h14,h16,h10,h12,h11,h13,h15]
     exact Je _ _)
theorem NE(e:Exp)(he:e.Lim):ae (L167_0 (callW pg) ae) [.ip (ab e.av),strs e.names,qi e.names.length,qi 0]=af (.bool (yA e.names)):=by
 have hlen:=he.names
 have hloop:∀(m i:Nat),e.names.length-i=m->i<=e.names.length->ae (L167_0 (callW pg) ae) [.ip (ab e.av),strs e.names,qi e.names.length,qi i]=af (.bool ((List.range' i (e.names.length-i)).all (fun k=>dY e.names[k]! && (decide (k=0)||gH e.names[k-1]! e.names[k]!))&&decide (e.names.length<=8))):=by
  intro m
  induction m with
  |zero=>
   intro i hm hi;rw[FL167_0,hm];have h1:¬((i:Int)<(e.names.length:Int)):=WD
   have h2:decide ((e.names.length:Int)<=8)=decide (e.names.length<=8):=by rw[ab7];omega
   simp[L167_0,h1,h2]
  | succ m ih=>
   intro i hm hi;have hlt:i<e.names.length:=WD
   have h1:(i:Int)<(e.names.length:Int):=WD
   have ih':=ih (i+1) WD WD;have er:List.range' i (e.names.length-i)=i:: List.range' (i+1) (e.names.length-(i+1)):=by
    rw[show e.names.length-i=(e.names.length-(i+1))+1 by omega,List.range'_succ]
   have hix:=wH (l:=e.names) (n:=(i:Int)) WD h1;rw[aaP]at hix;have hw:IntKind.i64.wrap ((i:Int)+1)=((i+1:Nat):Int):=bz WD;have h2:=t72 e.names[i]!;rw[FL167_0,er,abf];generalize e.names[i]! = s at hix h2 |-;cases hn:dY s with
   |false=>
    simp_all[L167_0]
   | true=>
    rw[hn]at h2;rcases abE i with hk0|hk0
    ·subst hk0;have hix0:au T 28 (strs e.names) (qi 0)=some (.ip (ab (.str s))):=hix;have hw0:IntKind.i64.wrap 1=1:=rfl;simp_all[L167_0]
    ·have hp:IntKind.i64.wrap ((i:Int)-1)=((i-1:Nat):Int):=by
      rw[aD WD WD];omega
     have h4:((i-1:Nat):Int)<(e.names.length:Int):=WD
     have hix2:=wH (l:=e.names) (n:=((i-1:Nat):Int)) WD h4;rw[aaP]at hix2;generalize e.names[i-1]! = g at hix2 |-;have hk2:0<(i:Int):=WD
     have hk3:¬i=0:=WD
     have hle:dC T .leq 9 (.str s) (.str g)=some (.bool (!(gH g s))):=by
      have:dC T .leq 9 (.str s) (.str g)=some (.bool (aK s g||s== g)):=rfl;rw[this];simp[gH]
     cases hs:gH g s with
     |false=>
      simp_all[L167_0]
     |true=>
      simp_all[L167_0]
 have h:=hloop e.names.length 0 rfl (aa1 _);rw[adh,IJ]at h;exact h
theorem t167(e:Exp)(he:e.Lim):callW pg 167 [e.av]=af (.bool (je e)):=by
 rw[C167];have hs:=t72 e.s;have hm:=t72 e.m;have hbn:=NE e he;obtain⟨o,n,s,m,ns,es⟩:=e;simp only[jT,Exp.names]at hbn;simp only[Exp.s,Exp.m]at hs hm;have ho:o=0\/o=1\/o=2\/o=17\/o=18\/o=14\/o=16\/o=12\/o=13\/o=15\/(o≠0/\o≠1/\o≠2/\o≠17/\o≠18/\o≠14/\o≠16/\o≠12/\o≠13/\o≠15):=WD
 rcases ho with rfl|rfl|rfl|rfl|rfl|rfl|rfl|rfl|rfl|rfl|⟨h0,h1,h2,h17,h18,h14,h16,h12,h13,h15⟩
 ·simp[S167,K167_0,jT,je,Exp.op,Exp.n,Exp.s,Exp.m,Exp.names,Exp.args];rfl
 ·simp_all[S167,je,Exp.op]
 ·simp_all[S167,K167_0,je,Exp.op,Exp.s]
 ·simp_all[S167,K167_0,je,Exp.op,Exp.s]
 ·simp_all[S167,K167_0,je,Exp.op,Exp.s]
 ·simp_all[S167,K167_0,je,Exp.op,Exp.s]
 ·simp_all[S167,je,Exp.op]
 ·simp_all[S167,K167_0,je,Exp.op,Exp.s]
 ·simp_all[S167,K167_0,je,Exp.op,Exp.n,Exp.s,Exp.m,Exp.names,Exp.args]
 ·have e6:dC T .leq 3 (qi es.length) (qi 6)=some (.bool (decide (es.length<=6))):=by
   have:dC T .leq 3 (qi es.length) (qi 6)=some (.bool (decide ((es.length:Int)<=6))):=rfl;rw[this];exact aaY (fun b=>some (AV.bool b)) (ab7.2 WD)
  cases ha:dY s with
  |false=>simp_all[S167,K167_0,je,Exp.op,Exp.s]
  | true=>
   rw[ha]at hs;by_cases hme:m=[]
   ·simp[S167,K167_0,jT,je,Exp.op,Exp.n,Exp.s,Exp.m,Exp.names,Exp.args,hs,ha,hme,e6,-sD];try rfl
   ·cases hb:dY m with
    |false=>rw[hb]at hm;simp[S167,K167_0,jT,je,Exp.op,Exp.n,Exp.s,Exp.m,Exp.names,Exp.args,hs,hm,ha,hb,hme,e6,-sD];try rfl
    |true=>rw[hb]at hm;simp[S167,K167_0,jT,je,Exp.op,Exp.n,Exp.s,Exp.m,Exp.names,Exp.args,hs,hm,ha,hb,hme,e6,-sD];try rfl
 simp_all[S167,K167_0,je,Exp.op]
theorem t121:∀(d:Nat),d<=100->∀(e:Exp),e.Lim->callW pg 121 [e.av,qi d]=af (.bool (cX d e))
 |0,_,e,_=>by
  rw[C121];simp[S121,cX]
 | d+1,hd,e,he=>by
  have hlen:=he.len;have hd1:IntKind.i64.wrap (((d+1:Nat):Int)-1)=(d:Int):=BW WD;have hloop:∀(m i:Nat),e.args.length-i=m->i<=e.args.length->ae (L121_0 (callW pg) ae) [qi ((d+1:Nat):Int),bY e.args,qi e.args.length,qi i]=af (.bool ((e.args.drop i).all (cX d))):=by
   intro m
   induction m with
   |zero=>
    intro i hm hi;have h1:¬((i:Int)<(e.args.length:Int)):=WD
    have h2:e.args.drop i=[]:=List.drop_eq_nil_of_le WD;rw[FL121_0,h2];simp[L121_0,h1]
   |succ m ih=>
    intro i hm hi;have hlt:i<e.args.length:=WD
    have h1:(i:Int)<(e.args.length:Int):=WD
    have h2:e.args.drop i=e.args[i]:: e.args.drop (i+1):=List.drop_eq_getElem_cons hlt;have hix:=oA (l:=e.args) (n:=(i:Int)) WD h1;rw[aaP,aaG e.args i hlt]at hix;have hw:IntKind.i64.wrap ((i:Int)+1)=((i+1:Nat):Int):=bz WD;have hb:=t121 d WD e.args[i] (he.kid (List.getElem_mem hlt));have ih':=ih (i+1) WD WD;rw[h2,abf,FL121_0];generalize e.args[i]=x at hix hb |-;cases hr:cX d x<;>rw[hr]at hb <;>
    simp only[L121_0,ax,aF,bc,ai,h1,abj,am,aaV,hix,bK,LD31,aaX,aaW,aa7,Nat.reduceAdd,aaI,abD,abu,pP,Co,ar,Cg,hd1,hb,eQ,acJ,abR,aaK,aaR,gb,hw,ih',ac9,ach]
  have hx':ae (L121_0 (callW pg) ae) [qi ((d:Int)+1),bY e.args,qi e.args.length,qi 0]=af (.bool (e.args.all (cX d))):=hloop e.args.length 0 rfl (aa1 _);have hc:=t166 e;have hl:=t167 e he;rw[C121,nf];unfold qg;generalize (iS e).1=c at hc |-;generalize (iS e).2=n at hc |-;have g1:(((d:Int)+1)== 0)=false:=by rw[aaN];omega
  have x0:eI (.tup [c.av,qi n]) 0=some c.av:=rfl;have x1:eI (.tup [c.av,qi n]) 1=some (.int .i64 n):=rfl;have e1:dC T .neq 3 (qi c.n) (qi e.n)=some (.bool (!(c.n== e.n))):=rfl;have e2:dC T .neq 9 (.str c.s) (.str e.s)=some (.bool (!(c.s== e.s))):=rfl;have e3:dC T .neq 9 (.str c.m) (.str e.m)=some (.bool (!(c.m== e.m))):=rfl;have e4:dC T .neq 3 (qi c.names.length) (qi e.names.length)=some (.bool (!((c.names.length:Int)== (e.names.length:Int)))):=rfl;have e5:dC T .neq 3 (qi n) (qi e.args.length)=some (.bool (!(n== (e.args.length:Int)))):=rfl;have e6:dC T .geq 3 (qi n) (qi 0)=some (.bool (!(decide (n<0)))):=by
   have:dC T .geq 3 (qi n) (qi 0)=some (.bool (decide (0<=n))):=rfl;rw[this,<- decide_not];exact aaY (fun b=>some (AV.bool b)) (ab7.2 WD)
  have e7:dC T .lss 3 (qi e.op) (qi 0)=some (.bool (!(decide (0<=e.op)))):=by
   have:dC T .lss 3 (qi e.op) (qi 0)=some (.bool (decide (e.op<0))):=rfl;rw[this,<- decide_not];exact aaY (fun b=>some (AV.bool b)) (ab7.2 WD)
  have e8:dC T .geq 3 (qi e.op) (qi 19)=some (.bool (!(decide (e.op<19)))):=by
   have:dC T .geq 3 (qi e.op) (qi 19)=some (.bool (decide (19<=e.op))):=rfl;rw[this,<- decide_not];exact aaY (fun b=>some (AV.bool b)) (ab7.2 WD)
  generalize (c.n== e.n)=b1 at e1 |-;generalize (c.s== e.s)=b2 at e2 |-;generalize (c.m== e.m)=b3 at e3 |-;generalize ((c.names.length:Int)== (e.names.length:Int))=b4 at e4 |-;generalize (n== (e.args.length:Int))=b5 at e5 |-;generalize decide (n<0)=b6 at e6 |-;generalize decide (0<=e.op)=b7 at e7 |-;generalize decide (e.op<19)=b8 at e8 |-;generalize je e=bl at hl |-;generalize e.args.all (cX d)=bx at hx' |-;cases b7 with
  |false=>simp[S121,g1,e7,-bc]
  | true=>
   cases b8 with
   |false=>simp_all[S121]
   |true=>
    cases b6<;>cases b5<;>cases b1<;>cases b2<;>cases b3<;>cases b4<;>cases bl<;>simp[S121,g1,hc,x0,x1,Co,hl,hx',e1,e2,e3,e4,e5,e6,e7,e8,-bc,-mQ,-mR]
def t75(e:Exp)(he:e.Lim):callW pg 75 [e.av]=af (.bool (Lj e)):=by
 have hb':callW pg 121 [e.av,qi 12]=af (.bool (cX 12 e)):=t121 12 WD e he;rw[C75];simp[S75,hb']
end Go.Proofs.YtkkdcdofponfiaaGreat
