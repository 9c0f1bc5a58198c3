/- What the functions of the seat compute, part 8: the texts of the claim, one behind the other. Conditions: bounds, as each theorem names them. -/
import Derived.Test.YtnipfhmghjdnmaaGreatTg
set_option linter.defProp false
set_option linter.unusedSimpArgs false
set_option linter.unusedVariables false
namespace Go.Proofs.YtnipfhmghjdnmaaGreat
open Go Go.Av Go.Av.Ap
set_option maxRecDepth 100000
def t79{p:List Mod}(S:Sm p)(f:aG):ai pg 79 [mods p,bp f]=M.pure (aI (oz p f)):=by
 rw[C79];simp only[ix,mE];have h1:=t78 S f;have hB1:∀x:aG,au T 42 1 [(0,bp x)]=some (aI [x]):=fun x=>rfl;have h:S79 (ai pg) aj (mods p) (bp f)=M.pure (aI (oz p f)):=by
  cases hf:cd p f with
  |none=>
   rw[hf]at h1;have:oz p f=[]:=by unfold oz df;rw[hf];rfl
   rw[this];simp[S79,h1,bn];rfl
  |some g=>
   rw[hf]at h1;have hfs:(cd p f).isSome=true:=by rw[hf];rfl
   have h2:=E0 S ((cW p).length+1) 0 [(f,[f])] [f] (DInv.zero hfs) ⟨QY _ _,fun x=>by simp⟩ (by omega) (by simp);have h3:oz p f=cP ((kh (dm p) ((cW p).length+1) 0 [(f,[f])]).map (·.1)):=by unfold oz df;rw[NE hfs]
   rw[h3,<- h2];simp[S79,h1,bn,hB1]
 rw[h];exact bb (eN _)
def lK(p:List Mod)(f:aG)(o:List aG)(r:aG):List aG:=if Af p f r=true/\r ∉ o then kS o r else o
def jH(p:List Mod)(f:aG)(o:List aG):Prop:=F5 o/\∀x∈o,x∈bA p f
def jH.len{p:List Mod}{f:aG}{o:List aG}(S:Sm p)(h:jH p f o):o.length<=1000000:=by
 have:=dN (oW h.1) h.2
 have:=ui S f
 omega
def jH.step{p:List Mod}{f:aG}{o:List aG}(h:jH p f o)(r:aG):jH p f (lK p f o r):=by
 unfold lK;split
 ·rename_i hc;refine⟨nW r h.1,fun x hx=>?_⟩;rcases (iW r x o).1 hx with rfl|hx
  ·exact Qk hc.1
  ·exact h.2 x hx
 ·exact h
theorem jH.fold{p:List Mod}{f:aG}:∀(l:List aG){o:List aG},jH p f o->jH p f (l.foldl (lK p f) o)
 |[],_,h=>h
 |r:: l,_,h=>jH.fold l (h.step r)
theorem tO{p:List Mod}{f x:aG}:∀(l:List aG)(o:List aG),x∈l.foldl (lK p f) o↔(x∈l/\Af p f x=true)\/x∈o
 |[],o=>by simp
 | r :: l,o=>by
  rw[OR,tO l,NP];unfold lK;by_cases hc:Af p f r=true/\r ∉ o
  ·rw[NE hc,iW];constructor
   ·rintro (h|rfl|h)
    ·exact .inl ⟨.inr h.1,h.2⟩
    ·exact .inl ⟨.inl rfl,hc.1⟩
    ·exact .inr h
   ·rintro (⟨rfl|h1,h2⟩|h)
    ·exact .inr (.inl rfl)
    ·exact .inl ⟨h1,h2⟩
    ·exact .inr (.inr h)
  ·rw[if_neg hc];constructor
   ·rintro (h|h)
    ·exact .inl ⟨.inr h.1,h.2⟩
    ·exact .inr h
   ·rintro (⟨rfl|h1,h2⟩|h)
    ·by_cases ho:x∈o
     ·exact .inr ho
     ·exact absurd ⟨h2,ho⟩ hc
    ·exact .inl ⟨h1,h2⟩
    ·exact .inr h
def zm(p:List Mod)(f:aG):(jJ p).foldl (lK p f) []=bA p f:=by
 refine ve (jH.fold _ ⟨List.Pairwise.nil,fun x hx=>by cases hx⟩).1 ?_ fun x=>?_
 ·have hn:=yy p f;unfold bA at hn |-;exact o8 ((cN _).nodup_iff.1 hn)
 ·rw[tO];constructor
  ·rintro (⟨_,h⟩|h)
   ·exact Qk h
   ·cases h
  ·intro h;refine .inl ⟨?_,OM h⟩;obtain⟨g,h1,_⟩:=oR.1 h;exact tq (by rw[h1];rfl)
def mh(m:Mod):List aG:=m.funcs.map fun g=>(m.name,g.name)
theorem J8{p:List Mod}(S:Sm p)(f:aG)(K:List AV->M AV)(i:Nat)(hi:i<p.length):∀(n j:Nat)(o:List aG),p[i].funcs.length-j=n->j<=p[i].funcs.length->jH p f o->
  aj (L42_0 (ai pg) aj K) [mods p,.ip [.str f.1,.str f.2],aI o,.int .i64 i,.int .i64 j]=K [mods p,.ip [.str f.1,.str f.2],aI (((mh p[i]).drop j).foldl (lK p f) o),.int .i64 ((i+1:Nat):Int)]:=by
 have hpl:=S.len;have hip:(i:Int)<p.length:=by omega
 have hfl:=S.funcs _ (NW hi);have hlR:(mh p[i]).length=p[i].funcs.length:=by simp[mh]
 intro n
 induction n with
 |zero=>
  intro j o hn hj ho;have h1:¬j<p[i].funcs.length:=by omega
  have h2:(mh p[i]).drop j=[]:=NN (by omega);rw[FL42_0];simp only[L42_0,h2];simp (disch:=omega) [h1,fJ,ND p i hi,aF]
 | succ n ih=>
  intro j o hn hj ho;have hlt:j<p[i].funcs.length:=by omega
  have h5:(mh p[i]).drop j=(p[i].name,p[i].funcs[j].name):: (mh p[i]).drop (j+1):=by
   rw[NI (by omega)];simp[mh]
  have h4:=ih (j+1) (lK p f o (p[i].name,p[i].funcs[j].name)) (by omega) (by omega) (ho.step _);rw[h5,OR];refine QT ?_ h4;have hol:=ho.len S;have h1:=t78 S (p[i].name,p[i].funcs[j].name);have h2:=t32 o (p[i].name,p[i].funcs[j].name) (by omega);have h3:=t79 S (p[i].name,p[i].funcs[j].name);have h6:=t32 (oz p (p[i].name,p[i].funcs[j].name)) f (by have:=F8 S (p[i].name,p[i].funcs[j].name);omega);have h7:=t80 o (p[i].name,p[i].funcs[j].name) (by omega);have hB:∀x y:bk,aN T false 37 [(0,.str x),(1,.str y)]=some (bp (x,y)):=fun x y=>rfl;have hfd:AV.agg [.str p[i].name,.str p[i].funcs[j].name]=bp (p[i].name,p[i].funcs[j].name):=rfl;rw[FL42_0];simp only[L42_0,eQ];unfold lK;cases hf:cd p (p[i].name,p[i].funcs[j].name)with
  | none=>
   have hu:Af p f (p[i].name,p[i].funcs[j].name)=false:=by
    cases h:Af p f (p[i].name,p[i].funcs[j].name)with
    |false=>rfl
    |true=>
     obtain⟨g,e,_⟩:=oR.1 (Qk h);rw[hf]at e;cases e
   rw[hf]at h1;simp (disch:=omega) [hlt,fJ,mr,ND p i hi,ND p[i].funcs j hlt,aF,hB,lu,hfd,h1,bn,hu,K42_0];simp[lu,hfd,h1,bn,hu,K42_0]
  | some g=>
   have hu:=Kt (f:=f) hf;rw[hf]at h1;cases hp:g.pub
   ·rw[hp,Bool.false_and]at hu;simp (disch:=omega) [hlt,fJ,mr,ND p i hi,ND p[i].funcs j hlt,aF,hB,lu,hfd,h1,bn,hu,hp,K42_0];simp[lu,hfd,h1,bn,hu,hp,K42_0]
   ·rw[hp,PG]at hu;by_cases ho':(p[i].name,p[i].funcs[j].name)∈o
    ·rw[OM ho']at h2;simp (disch:=omega) [hlt,fJ,mr,ND p i hi,ND p[i].funcs j hlt,aF,hB,lu,hfd,h1,bn,hu,hp,h2,ho',K42_0];simp[lu,hfd,h1,bn,hu,hp,h2,ho',K42_0]
    ·rw[PE ho']at h2;by_cases hm:f∈oz p (p[i].name,p[i].funcs[j].name)
     ·rw[OM hm]at h6 hu;simp (disch:=omega) [hlt,fJ,mr,ND p i hi,ND p[i].funcs j hlt,aF,hB,lu,hfd,h1,bn,hu,hp,h2,h3,h6,h7,ho',K42_0];simp[lu,hfd,h1,bn,hu,hp,h2,h3,h6,h7,ho',K42_0]
     ·rw[PE hm]at h6 hu;simp (disch:=omega) [hlt,fJ,mr,ND p i hi,ND p[i].funcs j hlt,aF,hB,lu,hfd,h1,bn,hu,hp,h2,h3,h6,ho',K42_0];simp[lu,hfd,h1,bn,hu,hp,h2,h3,h6,ho',K42_0]
def J9{p:List Mod}(S:Sm p)(f:aG):∀(n i:Nat)(o:List aG),p.length-i=n->i<=p.length->jH p f o->
  aj (L42_1 (ai pg) aj) [mods p,.ip [.str f.1,.str f.2],aI o,.int .i64 i]=M.pure (aI ((jJ (p.drop i)).foldl (lK p f) o)):=by
 have hlenM:aJ T 22 (mods p)=some (.int .i64 p.length):=by simp[mods]
 intro n
 induction n with
 |zero=>
  intro i o hn hi ho;have h1:¬i<p.length:=by omega
  have h2:p.drop i=[]:=NN (by omega);rw[FL42_1];simp only[L42_1,h2];simp[hlenM,h1,jJ]
 |succ n ih=>
  intro i o hn hi ho;have hlt:i<p.length:=by omega
  have h5:p.drop i=p[i]:: p.drop (i+1):=NI hlt;have h6:=J8 S f (aj (L42_1 (ai pg) aj)) i hlt _ 0 o rfl (by omega) ho;rw[NZ]at h6;have h4:=ih (i+1) ((mh p[i]).foldl (lK p f) o) (by omega) (by omega) (jH.fold _ ho);have h7:jJ (p[i]:: p.drop (i+1))=mh p[i]++jJ (p.drop (i+1)):=by unfold jJ mh;rw[OV]
  rw[h5,h7,Ql,<- h4];refine QT ?_ h6;rw[FL42_1];simp only[L42_1];simp[hlenM,hlt]
def t42{p:List Mod}(S:Sm p)(f:aG):ai pg 42 [mods p,bp f]=M.pure (aI (bA p f)):=by
 rw[C42];simp only[ix,mE];have h2:=J9 S f _ 0 [] rfl (by omega) ⟨List.Pairwise.nil,fun x hx=>by cases hx⟩;rw[NZ,zm]at h2;have h2':aj (L42_1 (ai pg) aj) [mods p,.ip [.str f.1,.str f.2],.sl [],.int .i64 0]=_:=h2;have h:S42 (ai pg) aj (mods p) (bp f)=M.pure (aI (bA p f)):=by
  simp only[S42,ej];exact h2'
 rw[h];exact bb (eN _)
structure SB (s:Seen):Prop where
 sm:Sm s.prog
 len:s.prog.length<=1000000
 funcs:∀m∈s.prog,m.funcs.length<=1000000
 vsns:s.vsns.length<=1000000
 calls:s.calls.length<=1000000
 args:∀c∈s.calls,bJ c.args<=4611686018427387904
 params:∀m∈s.prog,∀f∈m.funcs,f.params.length<=1000000
structure AB (a:Adv):Prop where
 ranges:a.ranges.length<=1000000
 cond:bc a.cond
def t73(m:Mod)(a:Adv):ai pg 73 [m.av,.ip (aa a.av)]=M.pure (.bool (m.name== a.name)):=by
 rw[C73];simp[S73,cl,eV]
def t75(f:Fun)(a:Adv):ai pg 75 [f.av,.ip (aa a.av)]=M.pure (.bool (f.name== a.func)):=by
 rw[C75];simp[S75,cl,eV]
def CO(g)(k:Nat)(a:Adv):cl g (.fn (.func k) [] [.ip (aa a.av)])= .fn (.func k) [] [.ip (aa a.av)]:=by simp[cl,eV]
def EI(p:List Mod)(hp:p.length<=1000000)(a:Adv):ai pg 72 [mods p,.fn (.func 73) [] [.ip (aa a.av)]]=M.pure (.int .i64 (fG p a.name)):=
 t72 _ _ p (by omega) (fun g=>CO g _ a) (fun x _=>t73 x a)
def EH(l:List Fun)(hp:l.length<=1000000)(a:Adv):ai pg 74 [kp l,.fn (.func 75) [] [.ip (aa a.av)]]=M.pure (.int .i64 (dX l a.func)):=
 t74 _ _ l (by omega) (fun g=>CO g _ a) (fun x _=>t75 x a)
def D6(o:Option Fun)(g):cl g (bn o)=bn o:=by simp[bn,cl,eV]
def qK(s:Seen)(a:Adv):(fG s.prog a.name<0/\ez s a=none)\/∃(k:Nat)(h:k<s.prog.length),fG s.prog a.name=k/\
  ((dX s.prog[k].funcs a.func<0/\ez s a=none)\/∃(j:Nat)(h2:j<s.prog[k].funcs.length),dX s.prog[k].funcs a.func=j/\ez s a=if k<s.vsns.length/\oK a.ranges (s.vsns[k]?.getD default)=true then some s.prog[k].funcs[j]else none):=by
 unfold ez jm;rcases rr (F:=fun m:Mod=>m.name== a.name) s.prog 0 (by omega)with⟨_,h2⟩|⟨k,hk,h1,_⟩
 ·exact .inl ⟨h2,by rw[NE (show fG s.prog a.name<0 from h2)]⟩
 ·right;have h3:fG s.prog a.name=k:=by unfold fG;omega
  refine⟨k,hk,h3,?_⟩;have h4:¬((k:Int)<0):=by omega
  have h5:(s.prog[k]?.getD default).funcs=s.prog[k].funcs:=by rw[NH hk];rfl
  rw[h3,if_neg h4];simp only[PI,h5];rcases rr (F:=fun f:Fun=>f.name== a.func) s.prog[k].funcs 0 (by omega)with⟨_,g2⟩|⟨j,hj,g1,_⟩
  ·exact .inl ⟨g2,by rw[NE (show dX s.prog[k].funcs a.func<0 from g2)]⟩
  ·right;have g3:dX s.prog[k].funcs a.func=j:=by unfold dX;omega
   refine⟨j,hj,g3,?_⟩;rw[g3,if_neg (by omega),PI,NH hj]
def t39{s:Seen}{a:Adv}(B:SB s)(A:AB a):ai pg 39 [s.av,a.av]=M.pure (bn (ez s a)):=by
 have hB1:=B.len;have hB2:=B.vsns;have hA:=A.ranges;have h1:=EI s.prog hB1 a;rw[C39,dS,eM]
 have key:S39 (ai pg) aj s.av a.av=M.pure (bn (ez s a)):=by
  rw[ke]at h1;rcases qK s a with⟨h2,h3⟩|⟨k,hk,h2,h3⟩
  ·rw[h3];simp[S39,h1,h2,jF,gp,bn]
  ·have hf:=B.funcs _ (NW hk);have h4:=EH s.prog[k].funcs hf a;rw[ke]at h4;rw[h2]at h1;have h5:¬((k:Int)<0):=by omega
   by_cases hv:k<s.vsns.length
   ·have hv':¬((s.vsns.length:Int)<=k):=by omega
    have h6:=t22 a.ranges s.vsns[k] (by omega);have h7:s.vsns[k]?.getD default=s.vsns[k]:=by rw[NH hv];rfl
    rw[h7]at h3;cases hh:oK a.ranges s.vsns[k]with
    | false=>
     rw[hh]at h6 h3;have h8:ez s a=none:=by
      rcases h3 with⟨_,h3⟩|⟨j,hj,_,h3⟩
      ·exact h3
      ·rw[h3];simp
     rw[h8];simp (disch:=omega) [S39,h1,h5,hv',CK,ND s.vsns k hv,h6,jF,gp,bn]
    | true=>
     rw[hh]at h6 h3;rcases h3 with⟨g1,h3⟩|⟨j,hj,g1,h3⟩
     ·rw[h3];simp (disch:=omega) [S39,h1,h5,hv',CK,fJ,ND s.vsns k hv,ND s.prog k hk,h6,h4,g1,jF,gp,bn]
     ·rw[g1]at h4;rw[h3,NE ⟨hv,rfl⟩];have g2:¬((j:Int)<0):=by omega
      simp (disch:=omega) [S39,h1,h5,hv',CK,fJ,mr,ND s.vsns k hv,ND s.prog k hk,ND s.prog[k].funcs j hj,h6,h4,g2,gp,bn]
   ·have hv':(s.vsns.length:Int)<=k:=by omega
    have h8:ez s a=none:=by
     rcases h3 with⟨_,h3⟩|⟨j,hj,_,h3⟩
     ·exact h3
     ·rw[h3,if_neg (fun h=>hv h.1)]
    rw[h8];simp (disch:=omega) [S39,h1,h5,hv',jF,gp,bn]
 rw[key];exact bb (D6 _)
def t40{s:Seen}{a:Adv}(B:SB s)(A:AB a):ai pg 40 [s.av,a.av]=M.pure (bn (ez s a)):=by
 have hB1:=B.len;have hB2:=B.vsns;have hA:=A.ranges;have h1:=t49 s.prog (by omega) a.name;rw[C40,dS,eM]
 have key:S40 (ai pg) aj s.av a.av=M.pure (bn (ez s a)):=by
  rcases qK s a with⟨h2,h3⟩|⟨k,hk,h2,h3⟩
  ·have h4:=t50 s.prog (by omega) (fun m hm=>by have:=B.funcs m hm;omega) (fG s.prog a.name) (by omega) a.func;rw[NE h2]at h4;rw[h3];simp[S40,h1,h4,jF,gp,bn]
  ·have h4:=t50 s.prog (by omega) (fun m hm=>by have:=B.funcs m hm;omega) (k:Nat) (by omega) a.func;have h5:¬((k:Int)<0):=by omega
   have h0:(s.prog[k]?.getD default).funcs=s.prog[k].funcs:=by rw[NH hk];rfl
   rw[if_neg h5,PI,h0]at h4;rw[h2]at h1;rcases h3 with⟨g1,h3⟩|⟨j,hj,g1,h3⟩
   ·rw[h3];simp (disch:=omega) [S40,h1,h4,g1,jF,gp,bn]
   ·rw[g1]at h4;have g2:¬((j:Int)<0):=by omega
    by_cases hv:k<s.vsns.length
    ·have hv':¬((s.vsns.length:Int)<=k):=by omega
     have h6:=t76 a.ranges s.vsns[k] (by omega);have h7:s.vsns[k]?.getD default=s.vsns[k]:=by rw[NH hv];rfl
     rw[h7]at h3;cases hh:oK a.ranges s.vsns[k]with
     |false=>
      rw[hh]at h6 h3;rw[h3,if_neg (by simp)];simp (disch:=omega) [S40,h1,h4,g2,hv',CK,ND s.vsns k hv,h6,jF,gp,bn]
     |true=>
      rw[hh]at h6 h3;rw[h3,NE ⟨hv,rfl⟩];simp (disch:=omega) [S40,h1,h4,g2,hv',CK,fJ,mr,ND s.vsns k hv,ND s.prog k hk,ND s.prog[k].funcs j hj,h6,gp,bn]
    ·have hv':(s.vsns.length:Int)<=k:=by omega
     rw[h3,if_neg (fun h=>hv h.1)];simp (disch:=omega) [S40,h1,h4,g2,hv',jF,gp,bn]
 rw[key];exact bb (D6 _)
def mZ(b:Bool)(r:aG):AV:=if b=true then .tup [bp r,.bool true]else .tup [bp ([],[]),.bool false]
def D7(b:Bool)(r:aG)(g):cl g (mZ b r)=mZ b r:=by cases b<;>rfl
theorem GJ:aN T false 37 []=some (bp ([],[])):=rfl
def GK(r:aG):ap 2 [] (bp r)=M.pure (bp r):=by rw[bM (iX _),ej,jP]
theorem jq(x y:bk):AV.agg [.str x,.str y]=bp (x,y):=rfl
def dK(g:Fun):aK 12 g.av=M.pure g.av:=iP g
def t10{s:Seen}{a:Adv}(B:SB s)(A:AB a):ai pg 10 [s.av,a.av]=M.pure (mZ (ez s a).isSome (gh a)):=by
 have h1:=t39 B A;rw[C10,dS,eM];have key:S10 (ai pg) aj s.av a.av=M.pure (mZ (ez s a).isSome (gh a)):=by
  cases hb:ez s a with
  |none=>
   rw[hb]at h1;simp[S10,h1,bn,dK,GJ,GK,mZ,jq]
  |some f=>
   rw[hb]at h1;simp[S10,h1,bn,dK,IQ,GK,mZ,gh,jq]
 rw[key];exact bb (D7 _ _)
def t11{s:Seen}{a:Adv}(B:SB s)(A:AB a):ai pg 11 [s.av,a.av]=M.pure (mZ (ez s a).isSome (gh a)):=by
 have h1:=t40 B A;rw[C11,dS,eM];have key:S11 (ai pg) aj s.av a.av=M.pure (mZ (ez s a).isSome (gh a)):=by
  cases hb:ez s a with
  |none=>
   rw[hb]at h1;simp[S11,h1,bn,dK,GJ,GK,mZ,jq]
  |some f=>
   rw[hb]at h1;simp[S11,h1,bn,dK,IQ,GK,mZ,gh,jq]
 rw[key];exact bb (D7 _ _)
def t13{s:Seen}{a:Adv}(B:SB s)(A:AB a):ai pg 13 [s.av,a.av]=M.pure (aI (dL bA s a)):=by
 have h1:=t10 B A;have h2:=t41 B.sm (gh a);rw[C13,dS,eM];unfold dL;have key:S13 (ai pg) aj s.av a.av=M.pure (aI (if(ez s a).isSome=true then bA s.prog (gh a)else[])):=by
  cases hb:(ez s a).isSome with
  |false=>
   rw[hb]at h1;simp[S13,h1,mZ,lu,GJ,aI]
  |true=>
   rw[hb]at h1;simp[S13,h1,mZ,lu,h2]
 rw[key];exact bb (eN _)
def t14{s:Seen}{a:Adv}(B:SB s)(A:AB a):ai pg 14 [s.av,a.av]=M.pure (aI (dL bA s a)):=by
 have h1:=t11 B A;have h2:=t42 B.sm (gh a);rw[C14,dS,eM];unfold dL;have key:S14 (ai pg) aj s.av a.av=M.pure (aI (if(ez s a).isSome=true then bA s.prog (gh a)else[])):=by
  cases hb:(ez s a).isSome with
  |false=>
   rw[hb]at h1;simp[S14,h1,mZ,lu,GJ,aI]
  |true=>
   rw[hb]at h1;simp[S14,h1,mZ,lu,h2]
 rw[key];exact bb (eN _)
def CI(Q:Prop)(most:Int)(m:M AV):Prop:=∃n,m=M.pure (.int .i64 n)/\1<=n/\n<=most+1/\(n<=most->Q)
theorem qW:(l:List Exp)->(∀x∈l,bc x)->lQ l
 |[],_=>trivial
 |x:: l,h=>⟨h x Oq,qW l fun y hy=>h y (OC _ hy)⟩
def BR{e:Exp}(h1:e.names.length<=8796093022208)(h2:e.args.length<=274877906944)(h3:∀x∈e.args,bc x):bc e:=by
 obtain⟨o,n,s,m,ns,es⟩:=e;exact⟨h1,h2,qW es h3⟩
def Al(e:Exp):Prop:=∀most depth:Int,0<=most->most<=1099511627->depth<=1099511627776->CI (bc e) most (ai pg 37 [e.av,.int .i64 most,.int .i64 depth])
def JR(e:Exp)(hL:e.Lim)(ih:∀x∈e.args,Al x)(most depth:Int)(h0:0<=most)(h1:most<=1099511627)(h2:depth<=1099511627776)(h3:1<=depth):
  ∀(r:Nat)(n i:Int),e.args.length-i.toNat=r->0<=i->i<=e.args.length->1<=n->n<=most+1->i+1<=n->CI (e.args.length<=most/\∀x∈e.args.drop i.toNat,bc x) most (aj (L37_0 (ai pg) aj) [.int .i64 most,.int .i64 depth,.ip (aa e.av),.int .i64 n,.int .i64 i]):=by
 intro r
 induction r with
 |zero=>
  intro n i hr hi hb hn hm hin;rw[FL37_0];simp only[L37_0];have h1:¬(i<(e.args.length:Int)):=by omega
  simp[h1];exact⟨n,rfl,hn,hm,fun h=>⟨by omega,fun x hx=>by rw[NN (by omega)]at hx;cases hx⟩⟩
 | succ r IH=>
  intro n i hr hi hb hn hm hin;have hlen:=hL.len;have h5:i<(e.args.length:Int):=by omega
  have hlt:i.toNat<e.args.length:=by omega
  rw[FL37_0];simp only[L37_0];by_cases hs:n<=most
  ·obtain⟨k,hk,hk1,hk2,hk3⟩:=ih e.args[i.toNat] (NW hlt) (most-n) (depth-1) (by omega) (by omega) (by omega);obtain⟨n',q1,q2,q3,q4⟩:=IH (n+k) (i+1) (by omega) (by omega) (by omega) (by omega) (by omega) (by omega);have h4:CI (e.args.length<=most/\∀x∈e.args.drop i.toNat,bc x) most (aj (L37_0 (ai pg) aj) [.int .i64 most,.int .i64 depth,.ip (aa e.av),.int .i64 (n+k),.int .i64 (i+1)]):=by
    by_cases hk4:k<=most-n
    ·refine⟨n',q1,q2,q3,fun h=>⟨(q4 h).1,fun x hx=>?_⟩⟩;rw[NI hlt]at hx;rcases NP.1 hx with rfl|hx
     ·exact hk3 hk4
     ·exact (q4 h).2 x (by rw[show (i+1).toNat=i.toNat+1 by omega];exact hx)
    ·have hstop:aj (L37_0 (ai pg) aj) [.int .i64 most,.int .i64 depth,.ip (aa e.av),.int .i64 (n+k),.int .i64 (i+1)]=M.pure (.int .i64 (n+k)):=by
      rw[FL37_0];simp only[L37_0];have h6:¬(n+k<=most):=by omega
      simp[h6]
     exact⟨n+k,hstop,by omega,by omega,fun h=>by omega⟩
   simp (disch:=omega) [h5,hs,kQ,ND e.args i.toNat hlt,aF,hk];simpa using h4
  ·simp[h5,hs];exact⟨n,rfl,hn,hm,fun h=>absurd h hs⟩
def t37:∀(N:Nat)(e:Exp),SizeOf.sizeOf e<=N->e.Lim->Al e:=by
 intro N
 induction N with
 |zero=>intro e he;cases e;simp at he
 | succ N ih=>
  intro e he hL most depth h0 h1 h2;rw[C37];have h4:1<=depth->_:=fun h3=>JR e hL (fun x hx=>ih x (by have:=qJ hx;omega) (hL.kid hx)) most depth h0 h1 h2 h3 e.args.length 1 0 rfl (by omega) (by omega) (by omega) (by omega) (by omega);simp[S37];by_cases hc:depth<1
  ·rw[NE hc,aF (by omega) (by omega),de];exact⟨_,rfl,by omega,by omega,fun h=>by omega⟩
  ·rw[if_neg hc];obtain⟨n,hn,b1,b2,b3⟩:=h4 (by omega);simp at hn;rw[hn,de];refine⟨n,rfl,b1,b2,fun h=>BR hL.names ?_ fun x hx=>(b3 h).2 x (by simpa using hx)⟩
   have:=(b3 h).1
   omega
def Ak(e:Ty):Prop:=∀most depth:Int,0<=most->most<=1099511627776->depth<=1099511627776->CI True most (ai pg 71 [e.av,.int .i64 most,.int .i64 depth])
def Ez{e:Ty}{x:ie}(h:x∈e.fields):SizeOf.sizeOf x.2<SizeOf.sizeOf e:=by
 cases e with
 |mk k fs=>
  have h1:=Qt h;have h2:SizeOf.sizeOf x.2<SizeOf.sizeOf x:=by cases x;simp;omega
  have h3:SizeOf.sizeOf x<SizeOf.sizeOf fs:=h1;simp only[Ty.mk.sizeOf_spec];show SizeOf.sizeOf x.2<1+SizeOf.sizeOf k+SizeOf.sizeOf fs;omega
def J0(e:Ty)(hL:e.Lim)(ih:∀x∈e.fields,Ak x.2)(most depth:Int)(h0:0<=most)(h1:most<=1099511627776)(h2:depth<=1099511627776)(h3:1<=depth):
  ∀(r:Nat)(n i:Int),e.fields.length-i.toNat=r->0<=i->i<=e.fields.length->1<=n->n<=most+1->CI True most (aj (L71_0 (ai pg) aj) [.int .i64 most,.int .i64 depth,.ip (aa e.av),.int .i64 n,.int .i64 i]):=by
 intro r
 induction r with
 |zero=>
  intro n i hr hi hb hn hm;rw[FL71_0];simp only[L71_0];have h1:¬(i<(e.fields.length:Int)):=by omega
  simp[h1];exact⟨n,rfl,hn,hm,fun _=>trivial⟩
 | succ r IH=>
  intro n i hr hi hb hn hm;have hlen:=hL.len;have h5:i<(e.fields.length:Int):=by omega
  have hlt:i.toNat<e.fields.length:=by omega
  rw[FL71_0];simp only[L71_0];by_cases hs:n<=most
  ·obtain⟨k,hk,hk1,hk2,_⟩:=ih e.fields[i.toNat] (NW hlt) (most-n) (depth-1) (by omega) (by omega) (by omega);have h4:=IH (n+k) (i+1) (by omega) (by omega) (by omega) (by omega) (by omega);simp (disch:=omega) [h5,hs,un,ND e.fields i.toNat hlt,aF,hk];simpa using h4
  ·simp[h5,hs];exact⟨n,rfl,hn,hm,fun _=>trivial⟩
def t71:∀(N:Nat)(e:Ty),SizeOf.sizeOf e<=N->e.Lim->Ak e:=by
 intro N
 induction N with
 |zero=>intro e he;cases e;simp at he
 | succ N ih=>
  intro e he hL most depth h0 h1 h2;rw[C71];have h4:1<=depth->_:=fun h3=>J0 e hL (fun x hx=>ih x.2 (by have:=Ez hx;omega) (hL.kid hx)) most depth h0 h1 h2 h3 e.fields.length 1 0 rfl (by omega) (by omega) (by omega) (by omega);simp[S71];by_cases hc:depth<1
  ·rw[NE hc,aF (by omega) (by omega),de];exact⟨_,rfl,by omega,by omega,fun _=>trivial⟩
  ·rw[if_neg hc];obtain⟨n,hn,b⟩:=h4 (by omega);simp at hn;rw[hn,de];exact⟨n,rfl,b⟩
def BB(P:Prop)(m:M AV):Prop:=∃b,m=M.pure (.bool b)/\(b=true->P)
def BB.no{P:Prop}:BB P (M.pure (.bool false)):=⟨false,rfl,fun h=>by cases h⟩
def BB.imp{P Q:Prop}{m:M AV}(h:BB P m)(f:P->Q):BB Q m:=by
 obtain⟨b,h1,h2⟩:=h;exact⟨b,h1,fun e=>f (h2 e)⟩
def JZ(l:List ie)(hl:l.length<=140737488355328)(hL:∀e∈l,e.2.Lim):∀(r:Nat)(i:Int),l.length-i.toNat=r->0<=i->i<=l.length->BB (l.length<=8) (aj (L70_0 (ai pg) aj) [di l,.int .i64 i]):=by
 intro r
 induction r with
 |zero=>
  intro i hr hi hb;rw[FL70_0];simp only[L70_0];have h1:¬(i<(l.length:Int)):=by omega
  simp[h1];exact⟨_,rfl,fun h=>by simp at h;omega⟩
 | succ r IH=>
  intro i hr hi hb;have h5:i<(l.length:Int):=by omega
  have hlt:i.toNat<l.length:=by omega
  rw[FL70_0];simp only[L70_0];by_cases hs:i<9
  ·obtain⟨k,hk,hk1,hk2,_⟩:=t71 _ l[i.toNat].2 (NL _) (hL _ (NW hlt)) 20 8 (by omega) (by omega) (by omega);have h4:=IH (i+1) (by omega) (by omega) (by omega);simp (disch:=omega) [h5,hs,un,ND l i.toNat hlt,aF,hk];by_cases hg:20<k
   ·rw[NE hg];exact .no
   ·rw[if_neg hg];exact h4
  ·simp[h5,hs];refine⟨_,rfl,fun h=>?_⟩;simp at h;omega
def t70(l:List ie)(hl:l.length<=140737488355328)(hL:∀e∈l,e.2.Lim):BB (l.length<=8) (ai pg 70 [di l]):=by
 rw[C70];obtain⟨b,hb,h2⟩:=JZ l hl hL l.length 0 rfl (by omega) (by omega);refine⟨b,?_,h2⟩;simp[S70,hb]
def I1(F:Int->Prop)(most:Int)(m:M AV):Prop:=∃n,m=M.pure (.int .i64 n)/\1<=n/\n<=most+1/\(n<=most->F n)
def Am(e:Val):Prop:=∀most depth:Int,0<=most->most<=1000->depth<=1099511627776->I1 (fun n=>(e.sz:Int)<=140737488355341*n) most (ai pg 38 [e.av,.int .i64 most,.int .i64 depth])
def JS(e:Val)(hL:e.Lim)(ih:∀x∈e.values,Am x)(most depth:Int)(h0:0<=most)(h1:most<=1000)(h2:depth<=1099511627776)(h3:1<=depth):
  ∀(r:Nat)(n i:Int),e.values.length-i.toNat=r->0<=i->i<=e.values.length->1<=n->n<=most+1->I1 (fun k=>(bJ (e.values.drop i.toNat):Int)<=140737488355341*(k-n)) most (aj (L38_0 (ai pg) aj) [.int .i64 most,.int .i64 depth,.ip (aa e.av),.int .i64 n,.int .i64 i]):=by
 intro r
 induction r with
 |zero=>
  intro n i hr hi hb hn hm;rw[FL38_0];simp only[L38_0];have h1:¬(i<(e.values.length:Int)):=by omega
  simp[h1];exact⟨n,rfl,hn,hm,fun h=>by rw[NN (by omega)];simp[bJ]⟩
 | succ r IH=>
  intro n i hr hi hb hn hm;have hlen:=hL.len;have h5:i<(e.values.length:Int):=by omega
  have hlt:i.toNat<e.values.length:=by omega
  by_cases hs:n<=most
  ·obtain⟨k,hk,hk1,hk2,hk3⟩:=ih e.values[i.toNat] (NW hlt) (most-n) (depth-1) (by omega) (by omega) (by omega);obtain⟨n',q1,q2,q3,q4⟩:=IH (n+k) (i+1) (by omega) (by omega) (by omega) (by omega) (by omega);have h4:I1 (fun k=>(bJ (e.values.drop i.toNat):Int)<=140737488355341*(k-n)) most (aj (L38_0 (ai pg) aj) [.int .i64 most,.int .i64 depth,.ip (aa e.av),.int .i64 (n+k),.int .i64 (i+1)]):=by
    by_cases hk4:k<=most-n
    ·refine⟨n',q1,q2,q3,fun h=>?_⟩;have e1:=q4 h;have e2:=hk3 hk4;rw[NI hlt];simp only[bJ];rw[show (i+1).toNat=i.toNat+1 by omega]at e1;omega
    ·have hstop:aj (L38_0 (ai pg) aj) [.int .i64 most,.int .i64 depth,.ip (aa e.av),.int .i64 (n+k),.int .i64 (i+1)]=M.pure (.int .i64 (n+k)):=by
      rw[FL38_0];simp only[L38_0];have h6:¬(n+k<=most):=by omega
      simp[h6]
     exact⟨n+k,hstop,by omega,by omega,fun h=>by omega⟩
   rw[FL38_0];simp only[L38_0];simp (disch:=omega) [h5,hs,ou,ND e.values i.toNat hlt,aF,hk];simpa using h4
  ·rw[FL38_0];simp only[L38_0];simp[h5,hs];exact⟨n,rfl,hn,hm,fun h=>absurd h hs⟩
def FQ{e x:Val}(h:x∈e.values):SizeOf.sizeOf x<SizeOf.sizeOf e:=by
 cases e with
 |mk k n ns vs=>
  have h1:=Qt h;have h3:SizeOf.sizeOf x<SizeOf.sizeOf vs:=h1;simp only[Val.mk.sizeOf_spec];omega
def t38:∀(N:Nat)(e:Val),SizeOf.sizeOf e<=N->e.Lim->Am e:=by
 intro N
 induction N with
 |zero=>intro e he;cases e;simp at he
 | succ N ih=>
  intro e he hL most depth h0 h1 h2;rw[C38];have h4:1<=depth->_:=fun h3=>JS e hL (fun x hx=>ih x (by have:=FQ hx;omega) (hL.kid hx)) most depth h0 h1 h2 h3 e.values.length 1 0 rfl (by omega) (by omega) (by omega) (by omega);simp[S38];by_cases hc:depth<1
  ·rw[NE hc,aF (by omega) (by omega),de];exact⟨_,rfl,by omega,by omega,fun h=>by omega⟩
  ·rw[if_neg hc];obtain⟨n,hn,b1,b2,b3⟩:=h4 (by omega);simp at hn;rw[hn,de];refine⟨n,rfl,b1,b2,fun h=>?_⟩;have e1:=b3 h;have e2:e.sz=1+e.names.length+bJ e.values:=by cases e;rfl
   have e3:=hL.names;simp at e1;rw[e2];omega
def LD(l:List Exp){n:Int}(h0:0<=n)(h1:n<=l.length):dh T 29 (cb l) none (some (.int .i64 n)) none=some (cb (l.take n.toNat)):=by
 rw[cb,eO,cb,eO,Cy (T:=T) (t:=29) (e:=31) rfl rfl rfl _ h0 (by simpa using h1),List.map_take]
def GW(m:Mod)(M0:m.Lim)(l:List Exp)(hl:l.length<=20)(hL:∀e∈l,e.Lim):∀(r:Nat)(i:Int),l.length-i.toNat=r->0<=i->i<=l.length->BB True (aj (L36_0 (ai pg) aj) [.ip (aa m.av),cb l,.int .i64 i]):=by
 obtain⟨b1,h1,_⟩:=t70 m.vars M0.vars M0.vty;obtain⟨b3,h3,_⟩:=t70 m.old M0.old M0.oty;intro r
 induction r with
 |zero=>
  intro i hr hi hb;have h5:¬i<(l.length:Int):=by omega
  rw[FL36_0];simp only[L36_0];refine⟨decide ((m.uses.length:Int)<=12)&&b1&&b3&&decide ((m.forward.length:Int)<=6)&&decide ((m.back.length:Int)<=6),?_,fun _=>trivial⟩;simp[h5,h1,h3]
 |succ r IH=>
  intro i hr hi hb;have h5:i<(l.length:Int):=by omega
  have hlt:i.toNat<l.length:=by omega
  obtain⟨k,hk,_,_,_⟩:=t37 _ l[i.toNat] (NL _) (hL _ (NW hlt)) 40 16 (by omega) (by omega) (by omega);have h4:=IH (i+1) (by omega) (by omega) (by omega);rw[FL36_0];simp only[L36_0];simp (disch:=omega) [h5,kQ,ND l i.toNat hlt,hk,aF];split
  ·exact .no
  ·simpa using h4
theorem GX(m:Mod)(M0:m.Lim):∀(r:Nat)(i:Int),m.funcs.length-i.toNat=r->0<=i->i<=m.funcs.length->BB True (aj (L36_1 (ai pg) aj) [.ip (aa m.av),.int .i64 i]):=by
 have hB:au T 29 0 []=some (cb []):=rfl;have hfl:=M0.forward;have hbl:=M0.back;have hfu:=M0.funcs;have hend:∀i:Int,¬(i<(m.funcs.length:Int))\/¬i<9->BB True (aj (L36_1 (ai pg) aj) [.ip (aa m.av),.int .i64 i]):=by
  intro i hi;have e1:=LD m.forward (n:=min (m.forward.length:Int) 7) (by omega) (by omega);have e2:=LD m.back (n:=min (m.back.length:Int) 7) (by omega) (by omega);generalize hn1:(min (m.forward.length:Int) 7).toNat=n1 at e1;generalize hn2:(min (m.back.length:Int) 7).toNat=n2 at e2;have a1:ck T 29 (cb []) (cb (m.forward.take n1))=some (cb (m.forward.take n1)):=by
   have:=KR (a:=[]) (b:=m.forward.take n1) (by simp;omega)
   simpa using this
  have a2:ck T 29 (cb (m.forward.take n1)) (cb (m.back.take n2))=some (cb (m.forward.take n1++m.back.take n2)):=KR (by simp;omega);have h2:=GW m M0 (m.forward.take n1++m.back.take n2) (by simp;omega) (fun e he=>by
   rcases N6.1 he with h|h
   ·exact M0.fes _ (PN h)
   ·exact M0.bes _ (PN h)) _ 0 rfl (by omega) (by omega)
  simp at h2;rw[FL36_1];simp only[L36_1];rcases hi with hi|hi
  ·simp[hi,hB,e1,e2,a1,a2,h2]
  ·by_cases h:i<(m.funcs.length:Int)
   ·simp[h,hi,hB,e1,e2,a1,a2,h2]
   ·simp[h,hB,e1,e2,a1,a2,h2]
 intro r
 induction r with
 |zero=>
  intro i hr hi hb;exact hend i (.inl (by omega))
 | succ r IH=>
  intro i hr hi hb;by_cases hs:i<9
  ·have h5:i<(m.funcs.length:Int):=by omega
   have hlt:i.toNat<m.funcs.length:=by omega
   have hf:=M0.fns _ (NW hlt);obtain⟨b7,h7,_⟩:=t70 m.funcs[i.toNat].params hf.params hf.pty;obtain⟨k,h8,_,_⟩:=t71 _ m.funcs[i.toNat].result (NL _) hf.result 20 8 (by omega) (by omega) (by omega);have h4:=IH (i+1) (by omega) (by omega) (by omega);rw[FL36_1];simp only[L36_1];simp (disch:=omega) [h5,hs,mr,ND m.funcs i.toNat hlt,h7,h8,aF];split
   ·exact .no
   ·simpa using h4
  ·exact hend i (.inr hs)
def t36(m:Mod)(M0:m.Lim):BB True (ai pg 36 [m.av]):=by
 rw[C36];obtain⟨b,hb,h2⟩:=GX m M0 _ 0 rfl (by omega) (by omega);simp at hb;exact⟨b,by simp[S36,hb],h2⟩
def MP(K:List AV->M AV){Q:Prop}(s:Seen)(a:Adv)(i:Int)(hi0:0<=i)(hi1:i<=9)(him:i.toNat<s.prog.length)(M0:s.prog[i.toNat].Lim)(hF:s.prog[i.toNat].funcs.length<=4)(hK:BB Q (K [.ip (aa s.av),.ip (aa a.av),.int .i64 (i+1)])):∀(r:Nat)(j:Int),s.prog[i.toNat].funcs.length-j.toNat=r->0<=j->j<=s.prog[i.toNat].funcs.length->
  BB ((∀f∈s.prog[i.toNat].funcs.drop j.toNat,f.params.length<=6)/\Q) (aj (L9_0 (ai pg) aj K) [.ip (aa s.av),.ip (aa a.av),.int .i64 i,.int .i64 j]):=by
 have hml:i<(s.prog.length:Int):=by omega
 intro r
 induction r with
 |zero=>
  intro j hr hj hb;have h1:¬j<(s.prog[i.toNat].funcs.length:Int):=by omega
  rw[FL9_0];simp only[L9_0];simp at hK;simp (disch:=omega) [hml,fJ,ND s.prog i.toNat him,h1,aF];refine hK.imp fun q=>⟨fun f hf=>?_,q⟩;rw[NN (by omega)]at hf;cases hf
 | succ r IH=>
  intro j hr hj hb;have h1:j<(s.prog[i.toNat].funcs.length:Int):=by omega
  have hlt:j.toNat<s.prog[i.toNat].funcs.length:=by omega
  obtain⟨k,hk,_,_,_⟩:=t37 _ s.prog[i.toNat].funcs[j.toNat].body (NL _) (M0.fns _ (NW hlt)).body 40 16 (by omega) (by omega) (by omega);have h4:=IH (j+1) (by omega) (by omega) (by omega);rw[FL9_0];simp only[L9_0];simp (disch:=omega) [hml,fJ,ND s.prog i.toNat him,h1,mr,ND s.prog[i.toNat].funcs j.toNat hlt,hk,aF];split
  ·exact .no
  ·rename_i hno;have hg:s.prog[i.toNat].funcs[j.toNat].params.length<=6:=by simp at hno;omega
   have h5:=h4.imp (Q:=(∀f∈s.prog[i.toNat].funcs.drop j.toNat,f.params.length<=6)/\Q) fun h=>⟨fun f hf=>by
    rw[NI hlt]at hf;rcases NP.1 hf with rfl|hf
    ·exact hg
    ·exact h.1 f (by rw[show (j+1).toNat=j.toNat+1 by omega];exact hf),h.2⟩
   simpa using h5
def MQ(K:List AV->M AV){Q:Prop}(s:Seen)(a:Adv)(i:Int)(hi0:0<=i)(hi1:i<=9)(him:i.toNat<s.prog.length)(M0:s.prog[i.toNat].Lim)(hF:s.prog[i.toNat].funcs.length<=4)(hI:s.prog[i.toNat].init.length<=4)(hK:BB Q (K [.ip (aa s.av),.ip (aa a.av),.int .i64 (i+1)])):∀(r:Nat)(j:Int),s.prog[i.toNat].init.length-j.toNat=r->0<=j->j<=s.prog[i.toNat].init.length->
  BB ((∀f∈s.prog[i.toNat].funcs,f.params.length<=6)/\Q) (aj (L9_1 (ai pg) aj K) [.ip (aa s.av),.ip (aa a.av),.int .i64 i,.int .i64 j]):=by
 have hml:i<(s.prog.length:Int):=by omega
 intro r
 induction r with
 |zero=>
  intro j hr hj hb;have h1:¬j<(s.prog[i.toNat].init.length:Int):=by omega
  have h2:=MP K s a i hi0 hi1 him M0 hF hK _ 0 rfl (by omega) (by omega);rw[FL9_1];simp only[L9_1];simp at h2;simp (disch:=omega) [hml,fJ,ND s.prog i.toNat him,h1,aF];exact h2
 |succ r IH=>
  intro j hr hj hb;have h1:j<(s.prog[i.toNat].init.length:Int):=by omega
  have hlt:j.toNat<s.prog[i.toNat].init.length:=by omega
  obtain⟨k,hk,_,_,_⟩:=t37 _ s.prog[i.toNat].init[j.toNat] (NL _) (M0.ies _ (NW hlt)) 40 16 (by omega) (by omega) (by omega);have h4:=IH (j+1) (by omega) (by omega) (by omega);rw[FL9_1];simp only[L9_1];simp at h4;simp (disch:=omega) [hml,fJ,ND s.prog i.toNat him,h1,kQ,ND s.prog[i.toNat].init j.toNat hlt,hk,aF];split
  ·exact .no
  ·exact h4
def MR(K:List AV->M AV){Q:Prop}(s:Seen)(a:Adv)(i:Int)(hi0:0<=i)(hi1:i<=13)(him:i.toNat<s.calls.length)(M0:CallLim s.calls[i.toNat])(hF:s.calls[i.toNat].args.length<=6)(hK:BB Q (K [.ip (aa s.av),.ip (aa a.av),.int .i64 (i+1)])):∀(r:Nat)(j:Int),s.calls[i.toNat].args.length-j.toNat=r->0<=j->j<=s.calls[i.toNat].args.length->
  BB ((bJ (s.calls[i.toNat].args.drop j.toNat)<=140737488355341*30*(s.calls[i.toNat].args.length-j.toNat))/\Q) (aj (L9_2 (ai pg) aj K) [.ip (aa s.av),.ip (aa a.av),.int .i64 i,.int .i64 j]):=by
 have hml:i<(s.calls.length:Int):=by omega
 intro r
 induction r with
 |zero=>
  intro j hr hj hb;have h1:¬j<(s.calls[i.toNat].args.length:Int):=by omega
  rw[FL9_2];simp only[L9_2];simp at hK;simp (disch:=omega) [hml,mq,ND s.calls i.toNat him,h1,aF];refine hK.imp fun q=>⟨?_,q⟩;rw[NN (by omega)];simp[bJ]
 | succ r IH=>
  intro j hr hj hb;have h1:j<(s.calls[i.toNat].args.length:Int):=by omega
  have hlt:j.toNat<s.calls[i.toNat].args.length:=by omega
  obtain⟨k,hk,hk1,hk2,hk3⟩:=t38 _ s.calls[i.toNat].args[j.toNat] (NL _) (M0.args _ (NW hlt)) 30 8 (by omega) (by omega) (by omega);have h4:=IH (j+1) (by omega) (by omega) (by omega);rw[FL9_2];simp only[L9_2];simp (disch:=omega) [hml,mq,ND s.calls i.toNat him,h1,ou,ND s.calls[i.toNat].args j.toNat hlt,hk,aF];by_cases hg:30<k
  ·rw[NE hg];exact .no
  ·rw[if_neg hg];have h5:=h4.imp (Q:=(bJ (s.calls[i.toNat].args.drop j.toNat)<=140737488355341*30*(s.calls[i.toNat].args.length-j.toNat))/\Q) fun h=>⟨by
    have e1:=hk3 (by omega);have e2:=h.1;rw[NI hlt];rw[show (j+1).toNat=j.toNat+1 by omega]at e2;simp only[bJ];omega,h.2⟩
   simpa using h5
def CJ(s:Seen)(a:Adv):Prop:=s.prog.length<=4/\s.vsns.length<=6/\s.calls.length<=12/\a.ranges.length<=6/\bc a.cond
def MS(s:Seen)(a:Adv)(S0:s.Lim)(A0:a.Lim):∀(r:Nat)(i:Int),s.calls.length-i.toNat=r->0<=i->i<=s.calls.length->
  BB ((∀c∈s.calls.drop i.toNat,bJ c.args<=4611686018427387904)/\CJ s a) (aj (L9_3 (ai pg) aj) [.ip (aa s.av),.ip (aa a.av),.int .i64 i]):=by
 obtain⟨k,hk,_,_,hk3⟩:=t37 _ a.cond (NL _) A0.cond 30 16 (by omega) (by omega) (by omega);have hend:∀i:Int,¬(i<(s.calls.length:Int))\/¬i<13->aj (L9_3 (ai pg) aj) [.ip (aa s.av),.ip (aa a.av),.int .i64 i]=M.pure (.bool (decide ((s.prog.length:Int)<=4)&&decide ((s.vsns.length:Int)<=6)&&decide ((s.calls.length:Int)<=12)&&decide ((a.ranges.length:Int)<=6)&&decide (k<=30))):=by
  intro i hi;rw[FL9_3];simp only[L9_3];rcases hi with hi|hi
  ·simp[hi,hk]
  ·by_cases h:i<(s.calls.length:Int)
   ·simp[h,hi,hk]
   ·simp[h,hk]
 have hq:(decide ((s.prog.length:Int)<=4)&&decide ((s.vsns.length:Int)<=6)&&decide ((s.calls.length:Int)<=12)&&decide ((a.ranges.length:Int)<=6)&&decide (k<=30))=true->CJ s a:=fun h=>by
  simp only[NG,Oa]at h;exact⟨by omega,by omega,by omega,by omega,hk3 h.2⟩
 intro r
 induction r with
 |zero=>
  intro i hr hi hb;rw[hend i (.inl (by omega))];refine⟨_,rfl,fun h=>⟨fun c hc=>?_,hq h⟩⟩;rw[NN (by omega)]at hc;cases hc
 | succ r IH=>
  intro i hr hi hb;have h1:i<(s.calls.length:Int):=by omega
  have hlt:i.toNat<s.calls.length:=by omega
  by_cases hs:i<13
  ·by_cases hF:(6:Int)<(s.calls[i.toNat].args.length:Int)
   ·rw[FL9_3];simp only[L9_3];simp (disch:=omega) [h1,hs,mq,ND s.calls i.toNat hlt,hF];exact .no
   ·have h4:=MR _ s a i hi (by omega) hlt (S0.calls _ (NW hlt)) (by omega) (IH (i+1) (by omega) (by omega) (by omega)) _ 0 rfl (by omega) (by omega);have h5:=h4.imp (Q:=(∀c∈s.calls.drop i.toNat,bJ c.args<=4611686018427387904)/\CJ s a) fun h=>⟨fun c hc=>by
     rw[NI hlt]at hc;rcases NP.1 hc with rfl|hc
     ·have e:=h.1;simp at e;omega
     ·exact h.2.1 c (by rw[show (i+1).toNat=i.toNat+1 by omega];exact hc),h.2.2⟩
    rw[FL9_3];simp only[L9_3];simp at h5;simp (disch:=omega) [h1,hs,mq,ND s.calls i.toNat hlt,hF];exact h5
  ·rw[hend i (.inr hs)];refine⟨_,rfl,fun h=>?_⟩
   have:=(hq h).2.2.1
   omega
def MU(s:Seen)(a:Adv)(S0:s.Lim)(A0:a.Lim):∀(r:Nat)(i:Int),s.prog.length-i.toNat=r->0<=i->i<=s.prog.length->
  BB ((∀m∈s.prog.drop i.toNat,m.funcs.length<=4/\∀f∈m.funcs,f.params.length<=6)/\(∀c∈s.calls,bJ c.args<=4611686018427387904)/\CJ s a) (aj (L9_4 (ai pg) aj) [.ip (aa s.av),.ip (aa a.av),.int .i64 i]):=by
 have h3:=MS s a S0 A0 _ 0 rfl (by omega) (by omega);have hend:∀i:Int,¬(i<(s.prog.length:Int))\/¬i<5->aj (L9_4 (ai pg) aj) [.ip (aa s.av),.ip (aa a.av),.int .i64 i]=aj (L9_3 (ai pg) aj) [.ip (aa s.av),.ip (aa a.av),.int .i64 0]:=by
  intro i hi;rw[FL9_4];simp only[L9_4];rcases hi with hi|hi
  ·simp[hi]
  ·by_cases h:i<(s.prog.length:Int)
   ·simp[h,hi]
   ·simp[h]
 intro r
 induction r with
 |zero=>
  intro i hr hi hb;rw[hend i (.inl (by omega))];refine h3.imp fun h=>⟨fun c hc=>?_,by simpa using h.1,h.2⟩;rw[NN (by omega)]at hc;cases hc
 | succ r IH=>
  intro i hr hi hb;have h1:i<(s.prog.length:Int):=by omega
  have hlt:i.toNat<s.prog.length:=by omega
  by_cases hs:i<5
  ·obtain⟨b,hb1,_⟩:=t36 s.prog[i.toNat] (S0.mods _ (NW hlt));by_cases hF:(4:Int)<(s.prog[i.toNat].funcs.length:Int)
   ·rw[FL9_4];simp only[L9_4];simp (disch:=omega) [h1,hs,fJ,ND s.prog i.toNat hlt,hF];exact .no
   by_cases hV:(4:Int)<(s.prog[i.toNat].vars.length:Int)
   ·rw[FL9_4];simp only[L9_4];simp (disch:=omega) [h1,hs,fJ,ND s.prog i.toNat hlt,hF,hV];exact .no
   by_cases hI:(4:Int)<(s.prog[i.toNat].init.length:Int)
   ·rw[FL9_4];simp only[L9_4];simp (disch:=omega) [h1,hs,fJ,ND s.prog i.toNat hlt,hF,hV,hI];exact .no
   cases b with
   |false=>
    rw[FL9_4];simp only[L9_4];simp (disch:=omega) [h1,hs,fJ,ND s.prog i.toNat hlt,hF,hV,hI,hb1];exact .no
   | true=>
    have h4:=MQ _ s a i hi (by omega) hlt (S0.mods _ (NW hlt)) (by omega) (by omega) (IH (i+1) (by omega) (by omega) (by omega)) _ 0 rfl (by omega) (by omega);have h5:=h4.imp (Q:=(∀m∈s.prog.drop i.toNat,m.funcs.length<=4/\∀f∈m.funcs,f.params.length<=6)/\(∀c∈s.calls,bJ c.args<=4611686018427387904)/\CJ s a) fun h=>⟨fun c hc=>by
     rw[NI hlt]at hc;rcases NP.1 hc with rfl|hc
     ·exact⟨by omega,h.1⟩
     ·exact h.2.1 c (by rw[show (i+1).toNat=i.toNat+1 by omega];exact hc),h.2.2⟩
    rw[FL9_4];simp only[L9_4];simp at h5;simp (disch:=omega) [h1,hs,fJ,ND s.prog i.toNat hlt,hF,hV,hI,hb1];exact h5
  ·rw[hend i (.inr hs)];obtain⟨b,e,hb⟩:=h3;refine⟨b,e,fun h=>?_⟩
   have:=(hb h).2.1
   omega
structure FewB (s:Seen):Prop where
 len:s.prog.length<=4
 funcs:∀m∈s.prog,m.funcs.length<=4
 vsns:s.vsns.length<=6
 calls:s.calls.length<=12
def t9{s:Seen}{a:Adv}(S0:s.Lim)(A0:a.Lim):BB ((SB s/\AB a)/\FewB s) (ai pg 9 [s.av,a.av]):=by
 rw[C9,dS,eM];obtain⟨b,hb,h2⟩:=MU s a S0 A0 _ 0 rfl (by omega) (by omega);refine⟨b,?_,fun h=>?_⟩
 ·simp at hb;have key:S9 (ai pg) aj s.av a.av=M.pure (.bool b):=by simp[S9,hb]
  rw[key];exact lS b
 ·obtain⟨q1,q2,q3,q4,q5,q6,q7⟩:=h2 h;simp at q1;refine⟨⟨⟨Ko S0.mods (by omega) fun m hm=>by have:=(q1 m hm).1;omega,by omega,fun m hm=>by have:=(q1 m hm).1;omega,by omega,by omega,q2,fun m hm f hf=>by have:=(q1 m hm).2 f hf;omega⟩,⟨by omega,q7⟩⟩,by omega,fun m hm=>(q1 m hm).1,q4,q5⟩
def JP(l:List aG)(r:aG)(hb:l.length<=40000000):∀(n:Nat)(i:Int),l.length-i.toNat=n->0<=i->i<=l.length->aj (L23_0 (ai pg) aj) [aI l,.ip [.str r.1,.str r.2],.int .i64 i]=M.pure (.bool (decide (r∈l.drop i.toNat))):=by
 intro n
 induction n with
 |zero=>
  intro i hn hi hl;rw[FL23_0];simp only[L23_0];have h1:¬(i<(l.length:Int)):=by omega
  have h2:l.drop i.toNat=[]:=NN (by omega);have h3:aJ T 42 (aI l)=some (.int .i64 l.length):=by simp[aI]
  simp[h1,h2,h3]
 | succ n ih=>
  intro i hn hi hl;have h1:i<(l.length:Int):=by omega
  have hlt:i.toNat<l.length:=by omega
  have h3:aJ T 42 (aI l)=some (.int .i64 l.length):=by simp[aI]
  have h4:=ih (i+1) (by omega) (by omega) (by omega);rw[show (i+1).toNat=i.toNat+1 by omega]at h4;rw[FL23_0];simp only[L23_0];have h5:(r∈l.drop i.toNat)↔(l[i.toNat]=r\/r∈l.drop (i.toNat+1)):=by
   rw[NI hlt,NP];exact⟨fun h=>h.imp Eq.symm id,fun h=>h.imp Eq.symm id⟩
  simp (disch:=omega) [h1,h3,aF,ot,h4,ND l i.toNat hlt,pr];simp only[h5];by_cases h6:l[i.toNat]=r
  ·simp[h6]
  ·simp[h6]
def t23(l:List aG)(r:aG)(hb:l.length<=40000000):ai pg 23 [aI l,bp r]=M.pure (.bool (decide (r∈l))):=by
 rw[C23]
 have:=JP l r hb l.length 0 rfl (by omega) (by omega)
 simp at this;simp[S23,this]
def JI(a b:List aG)(hab:a.length=b.length)(hb:a.length<=40000000):∀(n:Nat)(i:Int),a.length-i.toNat=n->0<=i->i<=a.length->aj (L12_0 (ai pg) aj) [aI a,aI b,.int .i64 i]=M.pure (.bool (decide (a.drop i.toNat=b.drop i.toNat))):=by
 intro n;have h3:∀l,aJ T 42 (aI l)=some (.int .i64 l.length):=fun l=>by simp[aI]
 induction n with
 |zero=>
  intro i hn hi hl;rw[FL12_0];simp only[L12_0];have h1:¬(i<(a.length:Int)):=by omega
  have h2:a.drop i.toNat=[]:=NN (by omega);have h4:b.drop i.toNat=[]:=NN (by omega);simp[h1,h2,h3,h4]
 | succ n ih=>
  intro i hn hi hl;have h1:i<(a.length:Int):=by omega
  have hlt:i.toNat<a.length:=by omega
  have hlb:i.toNat<b.length:=by omega
  have h4:=ih (i+1) (by omega) (by omega) (by omega);rw[show (i+1).toNat=i.toNat+1 by omega]at h4;rw[FL12_0];simp only[L12_0];have h5:(a.drop i.toNat=b.drop i.toNat)↔(a[i.toNat]=b[i.toNat]/\a.drop (i.toNat+1)=b.drop (i.toNat+1)):=by
   rw[NI hlt,NI hlb,O3]
  have h7:i<(b.length:Int):=by omega
  simp (disch:=omega) [h1,h3,aF,ot,h4,ND a i.toNat hlt,ND b i.toNat hlb,IG];simp only[h5];by_cases h6:a[i.toNat]=b[i.toNat]
  ·simp[h6]
  ·simp[h6]
def t12(a b:List aG)(hb:a.length<=40000000):ai pg 12 [aI a,aI b]=M.pure (.bool (decide (a=b))):=by
 have h3:∀l,aJ T 42 (aI l)=some (.int .i64 l.length):=fun l=>by simp[aI]
 rw[C12];by_cases hab:a.length=b.length
 ·have:=JI a b hab hb a.length 0 rfl (by omega) (by omega)
  simp at this;have hc:(a.length:Int)=b.length:=by omega
  simp[S12,h3,hc,this]
 ·have hc:¬(a.length:Int)=b.length:=by omega
  have hne:¬a=b:=fun e=>hab (by rw[e]);simp[S12,h3,hab,hne]
def JJ(a b:List Int)(hab:a.length=b.length)(hb:a.length<=40000000):∀(n:Nat)(i:Int),a.length-i.toNat=n->0<=i->i<=a.length->aj (L15_0 (ai pg) aj) [ints a,ints b,.int .i64 i]=M.pure (.bool (decide (a.drop i.toNat=b.drop i.toNat))):=by
 intro n
 induction n with
 |zero=>
  intro i hn hi hl;rw[FL15_0];simp only[L15_0];have h1:¬(i<(a.length:Int)):=by omega
  have h2:a.drop i.toNat=[]:=NN (by omega);have h4:b.drop i.toNat=[]:=NN (by omega);simp[h1,h2,h4]
 | succ n ih=>
  intro i hn hi hl;have h1:i<(a.length:Int):=by omega
  have hlt:i.toNat<a.length:=by omega
  have hlb:i.toNat<b.length:=by omega
  have h4:=ih (i+1) (by omega) (by omega) (by omega);rw[show (i+1).toNat=i.toNat+1 by omega]at h4;rw[FL15_0];simp only[L15_0];have h5:(a.drop i.toNat=b.drop i.toNat)↔(a[i.toNat]=b[i.toNat]/\a.drop (i.toNat+1)=b.drop (i.toNat+1)):=by
   rw[NI hlt,NI hlb,O3]
  have h7:i<(b.length:Int):=by omega
  simp (disch:=omega) [h1,aF,Bi,h4,ND a i.toNat hlt,ND b i.toNat hlb,IG];simp only[h5];by_cases h6:a[i.toNat]=b[i.toNat]
  ·simp[h6]
  ·simp[h6]
def t15(a b:List Int)(hb:a.length<=40000000):ai pg 15 [ints a,ints b]=M.pure (.bool (decide (a=b))):=by
 rw[C15];by_cases hab:a.length=b.length
 ·have:=JJ a b hab hb a.length 0 rfl (by omega) (by omega)
  simp at this;have hc:(a.length:Int)=b.length:=by omega
  simp[S15,hc,this]
 ·have hc:¬(a.length:Int)=b.length:=by omega
  have hne:¬a=b:=fun e=>hab (by rw[e]);simp[S15,hab,hne]
def jh:Rs Val->Bool×Bool
 |.ok v _=>if v.kind=1 then(v.n== 1,false)else(false,true)
 |.er _ _=>(false,true)
def jo(x:Bool×Bool):AV:=.tup [.bool x.1,.bool x.2]
def xA(f:Fun)(a:Adv)(c:Ap.Call):cL f a c=if c.module=a.name/\c.func=a.func/\c.args.length=f.params.length then jh (nn a.cond (f.params.map (·.1)) c.args)else(false,false):=by
 unfold cL;by_cases h:c.module=a.name/\c.func=a.func/\c.args.length=f.params.length
 ·rw[NE h,NE h];cases nn a.cond (f.params.map (·.1)) c.args<;>rfl
 ·rw[if_neg h,if_neg h]
def JV(a:Adv)(A:AB a)(c:Ap.Call)(hc:bJ c.args<=4611686018427387904)(ps:List ie)(hp:ps.length<=1000000):∀(n:Nat)(i:Int)(ns:List bk),ps.length-i.toNat=n->0<=i->i<=ps.length->ns.length<=i.toNat->
  aj (L43_0 (ai pg) aj) [.ip (aa a.av),.ip (aa c.av),strs ns,di ps,.int .i64 ps.length,.int .i64 i]=M.pure (jo (jh (nn a.cond (ns++(ps.drop i.toNat).map (·.1)) c.args))):=by
 have hB:∀s:bk,au T 28 1 [(0,.str s)]=some (strs [s]):=fun s=>rfl;intro n
 induction n with
 | zero=>
  intro i ns hn hi hl hns;have h1:¬(i<(ps.length:Int)):=by omega
  have h2:ps.drop i.toNat=[]:=NN (by omega);have h3:=t51 a.cond ns c.args A.cond (by omega) hc;rw[FL43_0,h2];simp only[L43_0,PD,OE];cases hr:nn a.cond ns c.args with
  | ok v s=>
   rw[hr]at h3;simp only[jB]at h3;by_cases hk:v.kind=1
   ·by_cases h4:v.n=1
    ·simp[h1,h3,jh,jo,hk,h4]
    ·simp[h1,h3,jh,jo,hk,h4]
   ·simp[h1,h3,jh,jo,hk]
  | er e s=>
   rw[hr]at h3;simp only[jB]at h3;by_cases he:e=0
   ·have hk0:¬(default:Val).kind=1:=by decide
    simp[h1,h3,jh,jo,he,hk0]
   ·simp[h1,h3,jh,jo,he]
 |succ n ih=>
  intro i ns hn hi hl hns;have h1:i<(ps.length:Int):=by omega
  have hlt:i.toNat<ps.length:=by omega
  have h4:=ih (i+1) (ns++[ps[i.toNat].1]) (by omega) (by omega) (by omega) (by simp;omega);have h5:ck T 28 (strs ns) (strs [ps[i.toNat].1])=some (strs (ns++[ps[i.toNat].1])):=yC (by simp;omega);rw[show (i+1).toNat=i.toNat+1 by omega]at h4;rw[FL43_0,NI hlt,N8];simp only[L43_0];simp only[Oz,Pl]at h4;rw[<- h4];simp (disch:=omega) [h1,aF,un,ND ps i.toNat hlt,hB,h5]
def t43{a:Adv}(A:AB a)(f:Fun)(hf:f.params.length<=1000000)(c:Ap.Call)(hc:bJ c.args<=4611686018427387904):ai pg 43 [f.av,a.av,c.av]=M.pure (jo (cL f a c)):=by
 have h1:=JV a A c hc f.params hf _ 0 [] rfl (by omega) (by omega) (by simp);rw[C43,yU,eM,qg,xA];rw[show strs []=AV.sl []from rfl]at h1;simp at h1;have key:S43 (ai pg) aj f.av a.av c.av=M.pure (jo (if c.module=a.name/\c.func=a.func/\c.args.length=f.params.length then jh (nn a.cond (f.params.map (·.1)) c.args)else(false,false))):=by
  by_cases g1:c.module=a.name
  ·by_cases g2:c.func=a.func
   ·by_cases g3:c.args.length=f.params.length
    ·have g4:(c.args.length:Int)=f.params.length:=by omega
     rw[NE ⟨g1,g2,g3⟩];simp[S43,g1,g2,g4];rw[g1,g2]at h1;exact h1
    ·have g4:¬(c.args.length:Int)=f.params.length:=by omega
     rw[if_neg (fun h=>g3 h.2.2)];simp[S43,g1,g2,g3,jo]
   ·rw[if_neg (fun h=>g2 h.2.1)];simp[S43,g1,g2,jo]
  ·rw[if_neg (fun h=>g1 h.1)];simp[S43,g1,jo]
 rw[key];exact bb fun g=>by simp[jo,cl,eV]
def JK{a:Adv}(A:AB a)(f:Fun)(hf:f.params.length<=1000000)(cs:List Ap.Call)(hl:cs.length<=1000000)(hc:∀c∈cs,bJ c.args<=4611686018427387904):∀(n:Nat)(i:Int)(o:List Int),cs.length-i.toNat=n->0<=i->i<=cs.length->o.length<=i.toNat->
  aj (L16_0 (ai pg) aj) [.ip (aa a.av),.ip (aa f.av),ints o,Ap.calls cs,.int .i64 cs.length,.int .i64 i]=M.pure (ints (o++iA (fun c=>(cL f a c).1) (cs.drop i.toNat) i)):=by
 have hB:∀k:Int,au T 45 1 [(0,.int .i64 k)]=some (ints [k]):=fun k=>rfl;intro n
 induction n with
 |zero=>
  intro i o hn hi hl hns;have h1:¬(i<(cs.length:Int)):=by omega
  have h2:cs.drop i.toNat=[]:=NN (by omega);rw[FL16_0,h2];simp only[L16_0];simp[h1,iA]
 | succ n ih=>
  intro i o hn hi hl hns;have h1:i<(cs.length:Int):=by omega
  have hlt:i.toNat<cs.length:=by omega
  have h3:=t43 A f hf cs[i.toNat] (hc _ (NW hlt));rw[FL16_0,NI hlt];simp only[L16_0,iA];simp only[jo]at h3;rcases O1 (cL f a cs[i.toNat]).1 with hm|hm
  ·have h4:=ih (i+1) (o++[i]) (by omega) (by omega) (by omega) (by simp;omega);have h5:ck T 45 (ints o) (ints [i])=some (ints (o++[i])):=FZ (by simp;omega);rw[show (i+1).toNat=i.toNat+1 by omega]at h4;rw[hm]at h3;simp at h4;simp (disch:=omega) [h1,aF,mq,ND cs i.toNat hlt,h3,hB];simp[hm,h5,h4]
  ·have h4:=ih (i+1) o (by omega) (by omega) (by omega) (by omega);rw[show (i+1).toNat=i.toNat+1 by omega]at h4;rw[hm]at h3;simp at h4;simp (disch:=omega) [h1,aF,mq,ND cs i.toNat hlt,h3];simp[hm,h4]
def mC{s:Seen}{a:Adv}(B:SB s){f:Fun}(h:ez s a=some f):f.params.length<=1000000:=by
 rcases qK s a with⟨_,h3⟩|⟨k,hk,_,h3⟩
 ·rw[h3]at h;cases h
 ·rcases h3 with⟨_,h3⟩|⟨j,hj,_,h3⟩
  ·rw[h3]at h;cases h
  ·rw[h3]at h;split at h
   ·cases h;exact B.params _ (NW hk) _ (NW hj)
   ·cases h
def t16{s:Seen}{a:Adv}(B:SB s)(A:AB a):ai pg 16 [s.av,a.av]=M.pure (ints (mH s a)):=by
 have h1:=t39 B A;rw[C16,dS,eM];have key:S16 (ai pg) aj s.av a.av=M.pure (ints (mH s a)):=by
  unfold mH;cases hb:ez s a with
  |none=>
   rw[hb]at h1;simp[S16,h1,bn,dK,ints]
  |some f=>
   rw[hb]at h1;have h2:=JK A f (mC B hb) s.calls B.calls B.args _ 0 [] rfl (by omega) (by omega) (by simp);rw[show ints []=AV.sl []from rfl]at h2;simp at h2;simp[S16,h1,bn,dK,h2]
 rw[key];exact bb fun g=>qh g _
def J4(l:List aG)(r:aG)(hb:l.length<=40000000):∀(n:Nat)(i:Int),l.length-i.toNat=n->0<=i->i<=l.length->
  ∃k:Int,aj (L82_0 (ai pg) aj) [aI l,.ip [.str r.1,.str r.2],.int .i64 l.length,.int .i64 i]=M.pure (.int .i64 k)/\decide (0<=k)=decide (r∈l.drop i.toNat):=by
 intro n
 induction n with
 |zero=>
  intro i hn hi hl;have h1:¬(i<(l.length:Int)):=by omega
  have h2:l.drop i.toNat=[]:=NN (by omega);refine⟨-1,?_,by rw[h2];simp⟩;rw[FL82_0];simp only[L82_0];simp[h1]
 | succ n ih=>
  intro i hn hi hl;have h1:i<(l.length:Int):=by omega
  have hlt:i.toNat<l.length:=by omega
  obtain⟨k,h4,h5⟩:=ih (i+1) (by omega) (by omega) (by omega);rw[show (i+1).toNat=i.toNat+1 by omega]at h5;have hd:=NI hlt;rw[FL82_0];simp only[L82_0];by_cases h6:r=l[i.toNat]
  ·refine⟨i,?_,by rw[hd,OM hi,OM (by rw[h6];exact Oq)]⟩;simp (disch:=omega) [h1,aF,ot,ND l i.toNat hlt,pr,h6]
  ·refine⟨k,?_,by rw[h5,hd];exact decide_eq_decide.2 ⟨fun h=>OC _ h,fun h=>(NP.1 h).resolve_left h6⟩⟩;rw[<- h4];simp (disch:=omega) [h1,aF,ot,ND l i.toNat hlt,pr,h6]
def t45(l:List aG)(r:aG)(hb:l.length<=40000000):ai pg 45 [aI l,bp r]=M.pure (.bool (decide (r∈l))):=by
 have h3:aJ T 42 (aI l)=some (.int .i64 l.length):=by simp[aI]
 obtain⟨k,h1,h2⟩:=J4 l r hb l.length 0 rfl (by omega) (by omega);have h4:ai pg 82 [aI l,bp r]=M.pure (.int .i64 k):=by
  rw[C82];simp[S82,h3,h1]
 rw[C45];simp at h2;simp[S45,h4,h2]
def JM{a:Adv}(A:AB a)(f:Fun)(hf:f.params.length<=1000000)(l:List aG)(hb:l.length<=40000000)(cs:List Ap.Call)(hl:cs.length<=1000000)(hc:∀c∈cs,bJ c.args<=4611686018427387904):∀(n:Nat)(i:Int),cs.length-i.toNat=n->0<=i->i<=cs.length->
  aj (L18_0 (ai pg) aj) [.ip (aa a.av),.ip (aa f.av),aI l,Ap.calls cs,.int .i64 cs.length,.int .i64 i]=M.pure (.int .i64 (if(cs.drop i.toNat).any (fun c=>(cL f a c).2||(!f.pub&&decide ((c.module,c.func)∈l)))=true then 1 else 0)):=by
 intro n
 induction n with
 |zero=>
  intro i hn hi hl;have h1:¬(i<(cs.length:Int)):=by omega
  have h2:cs.drop i.toNat=[]:=NN (by omega);rw[FL18_0,h2];simp only[L18_0];simp[h1]
 | succ n ih=>
  intro i hn hi hl;have h1:i<(cs.length:Int):=by omega
  have hlt:i.toNat<cs.length:=by omega
  have h3:=t43 A f hf cs[i.toNat] (hc _ (NW hlt));have h4:=ih (i+1) (by omega) (by omega) (by omega);have h5:=t45 l (cs[i.toNat].module,cs[i.toNat].func) hb;rw[show (i+1).toNat=i.toNat+1 by omega]at h4;rw[FL18_0,NI hlt,QD];simp only[L18_0];simp only[jo]at h3;rcases O1 (cL f a cs[i.toNat]).2 with hm|hm
  ·simp (disch:=omega) [h1,aF,mq,ND cs i.toNat hlt,h3];simp[hm]
  ·rcases O1 f.pub with hp|hp
   ·simp[hp]at h4;simp (disch:=omega) [h1,aF,mq,ND cs i.toNat hlt,h3];simp[hm,hp,h4]
   ·simp[hp]at h4;by_cases h6:(cs[i.toNat].module,cs[i.toNat].func)∈l
    ·rw[OM h6]at h5;simp (disch:=omega) [h1,aF,mq,ND cs i.toNat hlt,h3,IQ];simp[hm,hp,h5,h6,jq]
    ·rw[PE h6]at h5;simp (disch:=omega) [h1,aF,mq,ND cs i.toNat hlt,h3,IQ];simp[hm,hp,h5,h6,jq,h4]
def Gz(f:Fun)(a:Adv)(cs:List Ap.Call):(0<(iA (fun c=>(cL f a c).1) cs 0).length)↔cs.any (fun c=>(cL f a c).1)=true:=by
 rw[P9,Qa,rq,Pf];constructor
 ·intro h;apply Pj;intro h2;exact h fun x hx=>by
   cases hq:(cL f a x).1 with
   |false=>rfl
   |true=>exact absurd ⟨x,hx,hq⟩ h2
 ·rintro⟨x,hx,hq⟩ h;rw[h x hx]at hq;cases hq
def oC{s:Seen}(B:SB s)(a:Adv):(dL bA s a).length<=1000000:=by
 unfold dL;split
 ·exact ui B.sm _
 ·exact OX _
theorem t18{s:Seen}{a:Adv}(B:SB s)(A:AB a):ai pg 18 [s.av,a.av]=M.pure (.int .i64 (eD bA s a)):=by
 have h1:=t39 B A;have h2:=t16 B A;have h3:=t13 B A;have h4:=oC B a;have hlR:∀l:List aG,aJ T 42 (aI l)=some (.int .i64 l.length):=fun l=>by simp[aI]
 rw[C18,dS,eM]
 have key:S18 (ai pg) aj s.av a.av=M.pure (.int .i64 (eD bA s a)):=by
  unfold eD;cases hb:ez s a with
  |none=>
   have g1:mH s a=[]:=by unfold mH;rw[hb]
   have g2:dL bA s a=[]:=by unfold dL;rw[hb];rfl
   rw[hb]at h1;rw[g1]at h2;rw[g2]at h3;simp[S18,h1,bn,dK,h2,h3]
  | some f=>
   have g1:mH s a=iA (fun c=>(cL f a c).1) s.calls 0:=by unfold mH;rw[hb]
   rw[hb]at h1;have g2:=Gz f a s.calls;rw[<- g1]at g2;by_cases hd:s.calls.any (fun c=>(cL f a c).1)=true
   ·have g3:¬mH s a=[]:=fun h=>by have:=g2.2 hd;rw[h]at this;exact absurd this (by decide)
    simp only;rw[NE hd];simp[S18,h1,bn,dK,h2,g3]
   ·have g3:mH s a=[]:=NV (Nat.eq_zero_of_not_pos fun h=>hd (g2.1 h));rw[g3]at h2;simp only;rw[if_neg hd];by_cases hc:dL bA s a=[]
    ·rw[NE hc];rw[hc]at h3;simp[S18,h1,bn,dK,h2,h3,hlR]
    ·rw[if_neg hc];cases hw:s.whole with
     |false=>
      simp[S18,h1,bn,dK,h2,h3,hlR,hc];simp[hw]
     |true=>
      have h5:=JM A f (mC B hb) (dL bA s a) (by omega) s.calls B.calls B.args _ 0 rfl (by omega) (by omega);have h6:s.calls.any (Ce bA s a f)=(s.calls.drop (0:Int).toNat).any (fun c=>(cL f a c).2||(!f.pub&&decide ((c.module,c.func)∈dL bA s a))):=rfl;rw[h6,if_neg (show ¬(true=false) by decide),<- h5];simp[S18,h1,bn,dK,h2,h3,hlR,hc];simp[hw]
 rw[key];exact de _ _
def JN{a:Adv}(A:AB a)(l:List Seen)(hl:l.length<=1000000)(hB:∀s∈l,SB s):∀(n:Nat)(i:Int)(o:List Int),l.length-i.toNat=n->0<=i->i<=l.length->o.length<=i.toNat->
  aj (L20_0 (ai pg) aj) [.ip (aa a.av),ints o,io l,.int .i64 l.length,.int .i64 i]=M.pure (ints (o++iA (fun s=>!s.whole&&eD bA s a== 1) (l.drop i.toNat) i)):=by
 have hB1:∀k:Int,au T 45 1 [(0,.int .i64 k)]=some (ints [k]):=fun k=>rfl;intro n
 induction n with
 |zero=>
  intro i o hn hi hl hns;have h1:¬(i<(l.length:Int)):=by omega
  have h2:l.drop i.toNat=[]:=NN (by omega);rw[FL20_0,h2];simp only[L20_0];simp[h1,iA]
 | succ n ih=>
  intro i o hn hi hl hns;have h1:i<(l.length:Int):=by omega
  have hlt:i.toNat<l.length:=by omega
  have h3:=t18 (hB _ (NW hlt)) A;have h4:=ih (i+1) (o++[i]) (by omega) (by omega) (by omega) (by simp;omega);have h4':=ih (i+1) o (by omega) (by omega) (by omega) (by omega);have h5:ck T 45 (ints o) (ints [i])=some (ints (o++[i])):=FZ (by simp;omega);rw[show (i+1).toNat=i.toNat+1 by omega]at h4 h4';rw[FL20_0,NI hlt];simp only[L20_0,iA];simp at h4 h4';rcases O1 l[i.toNat].whole with hw|hw
  ·simp (disch:=omega) [h1,aF,Bh,ND l i.toNat hlt,h3];simp[hw,h4']
  ·by_cases hj:eD bA l[i.toNat] a=1
   ·simp (disch:=omega) [h1,aF,Bh,ND l i.toNat hlt,h3];simp[hw,hj,hB1,h5,h4]
   ·simp (disch:=omega) [h1,aF,Bh,ND l i.toNat hlt,h3];simp[hw,hj,h4']
def t20{a:Adv}(A:AB a)(l:List Seen)(hl:l.length<=1000000)(hB:∀s∈l,SB s):ai pg 20 [io l,a.av]=M.pure (ints (vY bA l a)):=by
 have h2:=JN A l hl hB _ 0 [] rfl (by omega) (by omega) (by simp);rw[C20,wm,eM];rw[show ints []=AV.sl []from rfl]at h2;simp at h2;have key:S20 (ai pg) aj (io l) a.av=M.pure (ints (vY bA l a)):=by
  unfold vY;simp[S20,h2]
 rw[key];exact bb fun g=>qh g _
def xE:Exp:=.mk 2 0 [120] [] [] []
def sP:List Mod:=
 [⟨[98,97,115,101],[[103,101,111]],[],[],[⟨[116,119,111],true,[([120],.mk 0 [])],.mk 0 [],0,.mk 15 0 [105,100] [103,101,111] [] [xE]⟩],false,[],[],[]⟩,
   ⟨[103,101,111],[],[],[],[⟨[105,100],true,[([120],.mk 0 [])],.mk 0 [],0,xE⟩],false,[],[],[]⟩]
def yB(w:Bool):Seen:=⟨sP,[⟨1,0,0⟩,⟨1,2,0⟩],[],w⟩
def pB:Adv:=⟨1,[103,101,111],[⟨⟨1,0,0⟩,⟨2,0,0⟩⟩],[105,100],.mk 6 0 [] [] [] [.mk 0 4 [] [] [] [],xE]⟩
def GD(m f:bk)(n:Int):Ap.Call:=⟨m,f,[.mk 0 n [] []]⟩
def kl:Seen:=⟨sP,[⟨1,0,0⟩,⟨1,2,0⟩],[GD [98,97,115,101] [116,119,111] 9,GD [103,101,111] [105,100] 3],true⟩
def qV:Seen:=⟨sP,[⟨1,0,0⟩,⟨1,2,0⟩],[GD [103,101,111] [105,100] 3,GD [103,101,111] [105,100] 5],true⟩
def fM:Seen:=⟨sP,[⟨1,0,0⟩,⟨2,0,0⟩],[],false⟩
abbrev rT:aG:=([98,97,115,101],[116,119,111])
abbrev rI:aG:=([103,101,111],[105,100])
def t35(m f:bk)(n:Int):ai pg 35 [.str m,.str f,.int .i64 n]=M.pure (GD m f n).av:=by
 have h1:ai pg 69 [.int .i64 n]=M.pure (Val.av (.mk 0 n [] [])):=by
  rw[C69];exact bb fun g=>li g (.mk 0 n [] [])
 rw[C35];have h:S35 (ai pg) aj (.str m) (.str f) (.int .i64 n)=M.pure (GD m f n).av:=by
  simp only[S35,h1,aA];rfl
 simp only[cl];rw[h];exact bb fun g=>qg g _
theorem t34(w:Bool):ai pg 34 [.bool w]=M.pure (yB w).av:=by
 rw[C34];have h:S34 (ai pg) aj (.bool w)=M.pure (yB w).av:=rfl;simp only[cl];rw[h];exact bb fun g=>dS g _
theorem t33:ai pg 33 []=M.pure pB.av:=by
 rw[C33];have h:S33 (ai pg) aj=M.pure pB.av:=rfl;rw[h];exact bb fun g=>eM g _
def ET:xE.Lim:=ku (by simp) (by simp) (fun x hx=>by cases hx)
def L2:Sm sP where
 len:=by simp[sP]
 funcs:=fun m hm=>by
  simp only[sP,NP,OJ,Pz]at hm;rcases hm with rfl|rfl<;>simp
 idx:=by decide
 body:=vZ (fun m hm f hf=>by
  simp only[sP,NP,OJ,Pz]at hm;rcases hm with rfl|rfl
  ·simp only[NP,OJ,Pz]at hf;subst hf;refine ku (by simp) (by simp) (fun x hx=>?_);simp only[NP,OJ,Pz]at hx;subst hx;exact ET
  ·simp only[NP,OJ,Pz]at hf;subst hf;exact ET)
def Bc(v:List Ver)(cs:List Ap.Call)(w:Bool)(hv:v.length<=2)(hc:cs.length<=2)(ha:∀c∈cs,bJ c.args<=100):SB ⟨sP,v,cs,w⟩ where
 sm:=L2
 len:=by simp[sP]
 funcs:=fun m hm=>by
  simp only[sP,NP,OJ,Pz]at hm;rcases hm with rfl|rfl<;>simp
 vsns:=by simp only;omega
 calls:=by simp only;omega
 args:=fun c hm=>by have:=ha c hm;omega
 params:=fun m hm f hf=>by
  simp only[sP,NP,OJ,Pz]at hm;rcases hm with rfl|rfl
  ·simp only[NP,OJ,Pz]at hf;subst hf;simp
  ·simp only[NP,OJ,Pz]at hf;subst hf;simp
def Lc:AB pB where
 ranges:=by simp[pB]
 cond:=by simp[pB,xE,bc,lQ]
def Jv:ez (yB false) pB=some ⟨[105,100],true,[([120],.mk 0 [])],.mk 0 [],0,xE⟩:=by kernel_rfl
def Et:dL bA (yB false) pB=[rT,rI]:=by kernel_rfl
def GE:dL bA fM pB=[]:=by kernel_rfl
def Jw:mH qV pB=[1]:=by kernel_rfl
def Lv:eD bA (yB false) pB=1:=by kernel_rfl
def Lw:eD bA (yB true) pB=0:=by kernel_rfl
def Lx:eD bA kl pB=0:=by kernel_rfl
def Ly:eD bA qV pB=2:=by kernel_rfl
def Lz:eD bA fM pB=0:=by kernel_rfl
def Ju:vY bA [kl,yB false,fM] pB=[1]:=by kernel_rfl
theorem jR(s:Seen):af T 26 (.ip (aa s.av))=some s.av:=rfl
def hQ(a:Adv):af T 33 (.ip (aa a.av))=some a.av:=by simp
def FG(call:FuncId->List AV->M AV)(xa:call 33 []=M.pure pB.av)(xs:∀w,call 34 [.bool w]=M.pure (yB w).av)(xc:∀m f n,call 35 [.str m,.str f,.int .i64 n]=M.pure (GD m f n).av)(b1:call 10 [(yB false).av,pB.av]=M.pure (.tup [bp rI,.bool true]))(c1:call 13 [(yB false).av,pB.av]=M.pure (aI [rT,rI]))(r1:call 12 [aI [rT,rI],aI [rT,rI]]=M.pure (.bool true))(j1:call 18 [(yB false).av,pB.av]=M.pure (.int .i64 1))(j2:call 18 [(yB true).av,pB.av]=M.pure (.int .i64 0))(j3:call 18 [kl.av,pB.av]=M.pure (.int .i64 0))(d1:call 16 [qV.av,pB.av]=M.pure (ints [1]))(i1:call 15 [ints [1],ints [1]]=M.pure (.bool true))(j4:call 18 [qV.av,pB.av]=M.pure (.int .i64 2))(c2:call 13 [fM.av,pB.av]=M.pure (aI []))(j5:call 18 [fM.av,pB.av]=M.pure (.int .i64 0))(k1:call 20 [io [kl,yB false,fM],pB.av]=M.pure (ints [1])):S8 call aj=M.pure (.bool true):=by
 unfold S8;refine st xa ?_;refine st (yT _) ?_;refine st (xs _) ?_;refine st (wg _) ?_;refine st (xs _) ?_;refine st (ju _) ?_;refine st (xc _ _ _) ?_;refine st (xc _ _ _) ?_;refine st (bD (show _=some (Ap.calls kl.calls)from rfl)) ?_;refine st (show cI _=M.pure (Ap.calls kl.calls)from rfl) ?_;refine st (xs _) ?_;refine st (ju _) ?_;refine st (xc _ _ _) ?_;refine st (xc _ _ _) ?_;refine st (bD (show _=some (Ap.calls qV.calls)from rfl)) ?_;refine st (show cI _=M.pure (Ap.calls qV.calls)from rfl) ?_;refine st (xs _) ?_;refine st (ju _) ?_;refine st (bD (show _=some (Ver.av ⟨1,0,0⟩)from rfl)) ?_;refine st (bD (show _=some (Ver.av ⟨2,0,0⟩)from rfl)) ?_;refine st (bD (show _=some (ol fM.vsns)from rfl)) ?_;refine st (show cI _=M.pure (ol fM.vsns)from rfl) ?_;refine st (bD (jR _)) ?_;refine st (bD (hQ _)) ?_;refine st b1 ?_;refine st (bD rfl) ?_;refine st (bD rfl) ?_;refine st (lu _) ?_;refine st (bD (IQ _ _)) ?_;refine st (bD (IQ _ _)) ?_;refine st (bD (MV _ _)) ?_;refine st (gE (st (bD (JC _)) (st (bD (show _=some _ from rfl)) (st (bD (show _=some (bp rI)from rfl)) (st (bD (pr _ _)) rfl))))) ?_;refine st (bD (show _=some (.bool true) by rfl)) ?_;refine st (gE (st (bD (jR _)) (st (bD (hQ _)) (st (np c1) (st (np r1) rfl))))) ?_;refine st (bD rfl) ?_;refine st (gE (st (bD (jR _)) (st (bD (hQ _)) (st (np j1) (st (bD rfl) rfl))))) ?_;refine st (bD rfl) ?_;refine st (gE (st (np (xs _)) (st (bD (hQ _)) (st (np j2) (st (bD rfl) rfl))))) ?_;refine st (bD rfl) ?_;refine st (gE (st (bD (hQ _)) (st (np j3) (st (bD rfl) rfl)))) ?_;refine st (bD rfl) ?_;refine st (bD (hQ _)) ?_;refine st d1 ?_;refine st (bD (show _=some (ints [1])from rfl)) ?_;refine st i1 ?_;refine st (gE (st (bD (hQ _)) (st j4 (st (bD rfl) rfl)))) ?_;refine st (bD rfl) ?_;refine st (gE (st (bD (hQ _)) (st c2 (st (bD rfl) (st (bD rfl) rfl))))) ?_;refine st (bD rfl) ?_;refine st (gE (st (bD (hQ _)) (st j5 (st (bD rfl) rfl)))) ?_;refine st (bD rfl) ?_;refine st (gE rfl) ?_;refine st (bD rfl) ?_;refine st (gE (st (bD (jR _)) (st (bD (show _=some (io [kl,yB false,fM])from rfl)) (st (bD (hQ _)) (st k1 (st (bD (show _=some (ints [1])from rfl)) (st i1 rfl))))))) ?_;refine st (bD rfl) ?_;rfl
def t8:ai pg 8 []=M.pure (.bool true):=by
 have B1:∀w,SB (yB w):=fun w=>Bc _ _ _ (by simp) (by simp) (fun c hc=>by cases hc);have ha:∀m f n,bJ (GD m f n).args<=100:=fun m f n=>by simp[GD,bJ,Val.sz]
 have B2:SB kl:=Bc _ _ _ (by simp) (by simp) (fun c hc=>by
  simp only[NP,OJ,Pz]at hc;rcases hc with rfl|rfl<;>exact ha _ _ _)
 have B3:SB qV:=Bc _ _ _ (by simp) (by simp) (fun c hc=>by
  simp only[NP,OJ,Pz]at hc;rcases hc with rfl|rfl<;>exact ha _ _ _)
 have B4:SB fM:=Bc _ _ _ (by simp) (by simp) (fun c hc=>by cases hc);have A:=Lc;have b1:=t10 (B1 false) A;have c1:=t13 (B1 false) A;have c2:=t13 B4 A;have d1:=t16 B3 A;have j1:=t18 (B1 false) A;have j2:=t18 (B1 true) A;have j3:=t18 B2 A;have j4:=t18 B3 A;have j5:=t18 B4 A;have k1:=t20 A [kl,yB false,fM] (by simp) (fun s hs=>by
  simp only[NP,OJ,Pz]at hs;rcases hs with rfl|rfl|rfl
  ·exact B2
  ·exact B1 false
  ·exact B4)
 rw[Jv]at b1;rw[Et]at c1;rw[GE]at c2;rw[Jw]at d1;rw[Lv]at j1;rw[Lw]at j2;rw[Lx]at j3;rw[Ly]at j4;rw[Lz]at j5;rw[Ju]at k1;rw[C8];rw[FG (ai pg) t33 t34 t35 b1 c1 (by rw[t12 _ _ (by simp)];rfl) j1 j2 j3 d1 (by rw[t15 _ _ (by simp)];rfl) j4 c2 j5 k1];exact lS true
def jp(x:Bool×Bool):Int:=if x.1=true then 2 else if x.2=true then 1 else 0
def GF{e:Exp}{ns:List bk}{vs:List Val}{v:Val}{s:Ms}(h:nn e ns vs= .ok v s)(hk:v.kind=1):v.n=0\/v.n=1:=by
 unfold nn at h;split at h
 ·rename_i hc;have hr:Rv v:=(m0 100000 (-1) ns vs e ⟨hc.1,fun x hx=>Oc.1 hc.2 x hx⟩ (dA [] 100000 []) ⟨fun l hl=>by simp[dA]at hl,fun l hl=>by simp[dA]at hl⟩).2.2 _ _ h;unfold Rv at hr;simp only[bU,hk]at hr;simp at hr;omega
 ·cases h
def JW(a:Adv)(A:AB a)(c:Ap.Call)(hc:bJ c.args<=4611686018427387904)(f:Fun)(hp:f.params.length<=1000000):∀(n:Nat)(i:Int)(ns:List bk),f.params.length-i.toNat=n->0<=i->i<=f.params.length->ns.length<=i.toNat->
  aj (L44_0 (ai pg) aj) [.ip (aa a.av),.ip (aa c.av),.ip (aa f.av),strs ns,.int .i64 i]=M.pure (.int .i64 (jp (jh (nn a.cond (ns++(f.params.drop i.toNat).map (·.1)) c.args)))):=by
 have hB:∀s:bk,au T 28 1 [(0,.str s)]=some (strs [s]):=fun s=>rfl;intro n
 induction n with
 | zero=>
  intro i ns hn hi hl hns;have h1:¬(i<(f.params.length:Int)):=by omega
  have h2:f.params.drop i.toNat=[]:=NN (by omega);have h3:=t81 a.cond ns c.args A.cond (by omega) hc;rw[FL44_0,h2];simp only[L44_0,PD,OE];cases hr:nn a.cond ns c.args with
  | ok v s=>
   rw[hr]at h3;simp only[jB]at h3;by_cases hk:v.kind=1
   ·rcases GF hr hk with h4|h4
    ·simp[h1,h3,jh,jp,hk,h4,aF]
    ·simp[h1,h3,jh,jp,hk,h4,aF]
   ·simp[h1,h3,jh,jp,hk]
  | er e s=>
   rw[hr]at h3;simp only[jB]at h3;by_cases he:e=0
   ·have hk0:¬(default:Val).kind=1:=by decide
    simp[h1,h3,jh,jp,he,hk0]
   ·simp[h1,h3,jh,jp,he]
 |succ n ih=>
  intro i ns hn hi hl hns;have h1:i<(f.params.length:Int):=by omega
  have hlt:i.toNat<f.params.length:=by omega
  have h4:=ih (i+1) (ns++[f.params[i.toNat].1]) (by omega) (by omega) (by omega) (by simp;omega);have h5:ck T 28 (strs ns) (strs [f.params[i.toNat].1])=some (strs (ns++[f.params[i.toNat].1])):=yC (by simp;omega);rw[show (i+1).toNat=i.toNat+1 by omega]at h4;rw[FL44_0,NI hlt,N8];simp only[L44_0];simp only[Oz,Pl]at h4;rw[<- h4];simp (disch:=omega) [h1,aF,un,ND f.params i.toNat hlt,hB,h5]
def lW(s:Seen)(a:Adv)(c:Ap.Call):Int:=match ez s a with
 |none=>0
 |some f=>jp (cL f a c)
def t44{s:Seen}{a:Adv}(B:SB s)(A:AB a)(c:Ap.Call)(hc:bJ c.args<=4611686018427387904):ai pg 44 [s.av,a.av,c.av]=M.pure (.int .i64 (lW s a c)):=by
 have h0:=t40 B A;rw[C44,dS,eM,qg]
 have key:S44 (ai pg) aj s.av a.av c.av=M.pure (.int .i64 (lW s a c)):=by
  unfold lW;cases hb:ez s a with
  |none=>
   rw[hb]at h0;simp[S44,h0,bn,dK]
  | some f=>
   have hf:=mC B hb;have h1:=JW a A c hc f hf _ 0 [] rfl (by omega) (by omega) (by simp);rw[hb]at h0;rw[show strs []=AV.sl []from rfl]at h1;simp at h1;simp only;rw[xA];by_cases g1:c.module=a.name
   ·by_cases g2:c.func=a.func
    ·by_cases g3:c.args.length=f.params.length
     ·rw[NE ⟨g1,g2,g3⟩];simp[S44,h0,bn,dK,g1,g2,g3];rw[g1,g2]at h1;exact h1
     ·rw[if_neg (fun h=>g3 h.2.2)];simp[S44,h0,bn,dK,g1,g2,g3,jp]
    ·rw[if_neg (fun h=>g2 h.2.1)];simp[S44,h0,bn,dK,g1,g2,jp]
   ·rw[if_neg (fun h=>g1 h.1)];simp[S44,h0,bn,dK,g1,jp]
 rw[key];exact de _ _
def JL{s:Seen}{a:Adv}(B:SB s)(A:AB a):∀(n:Nat)(i:Int)(o:List Int),s.calls.length-i.toNat=n->0<=i->i<=s.calls.length->o.length<=i.toNat->
  aj (L17_0 (ai pg) aj) [.ip (aa s.av),.ip (aa a.av),ints o,.int .i64 i]=M.pure (ints (o++iA (fun c=>lW s a c== 2) (s.calls.drop i.toNat) i)):=by
 have hB:∀k:Int,au T 45 1 [(0,.int .i64 k)]=some (ints [k]):=fun k=>rfl;have hBc:=B.calls;intro n
 induction n with
 |zero=>
  intro i o hn hi hl hns;have h1:¬(i<(s.calls.length:Int)):=by omega
  have h2:s.calls.drop i.toNat=[]:=NN (by omega);rw[FL17_0,h2];simp only[L17_0];simp[h1,iA]
 | succ n ih=>
  intro i o hn hi hl hns;have h1:i<(s.calls.length:Int):=by omega
  have hlt:i.toNat<s.calls.length:=by omega
  have h3:=t44 B A s.calls[i.toNat] (B.args _ (NW hlt));rw[FL17_0,NI hlt];simp only[L17_0,iA];by_cases hm:lW s a s.calls[i.toNat]=2
  ·have h4:=ih (i+1) (o++[i]) (by omega) (by omega) (by omega) (by simp;omega);have h5:ck T 45 (ints o) (ints [i])=some (ints (o++[i])):=FZ (by simp;omega);rw[show (i+1).toNat=i.toNat+1 by omega]at h4;simp at h4;simp (disch:=omega) [h1,aF,mq,ND s.calls i.toNat hlt,h3,hB,h5,hm,K17_0,h4]
  ·have h4:=ih (i+1) o (by omega) (by omega) (by omega) (by omega);rw[show (i+1).toNat=i.toNat+1 by omega]at h4;simp at h4;simp (disch:=omega) [h1,aF,mq,ND s.calls i.toNat hlt,h3,hm,K17_0,h4]
def xS(x:Bool×Bool):(jp x== 2)=x.1:=by
 unfold jp;cases x.1<;>cases x.2<;>rfl
def Jp(s:Seen)(a:Adv):iA (fun c=>lW s a c== 2) s.calls 0=mH s a:=by
 unfold mH lW;cases ez s a with
 |none=>exact rq.2 fun x _=>rfl
 |some f=>simp only[xS]
def t17{s:Seen}{a:Adv}(B:SB s)(A:AB a):ai pg 17 [s.av,a.av]=M.pure (ints (mH s a)):=by
 have h2:=JL B A _ 0 [] rfl (by omega) (by omega) (by simp);rw[show ints []=AV.sl []from rfl]at h2;rw[C17,dS,eM,<- Jp];simp at h2;have key:S17 (ai pg) aj s.av a.av=M.pure (ints (iA (fun c=>lW s a c== 2) s.calls 0)):=by simp[S17,h2]
 rw[key];exact bb fun g=>qh g _
def Fw(s:Seen)(a:Adv)(c:Ap.Call):lW s a c=0\/lW s a c=1\/lW s a c=2:=by
 unfold lW jp;cases ez s a with
 |none=>exact .inl rfl
 |some f=>
  simp only
  repeat' split
  all_goals simp
def zE(s:Seen)(a:Adv)(l:List Ap.Call)(m:Int):Int:=l.foldl (fun m c=>max m (lW s a c)) m
def G5{m k:Int}(h:m=0\/m=1\/m=2)(hk:k=0\/k=1\/k=2):max m k=2↔(m=2\/k=2):=by omega
def G4{m k:Int}(h:m=0\/m=1\/m=2)(hk:k=0\/k=1\/k=2)(h1:¬m=2)(h2:¬k=2):max m k=1↔(m=1\/k=1):=by omega
theorem IV(s:Seen)(a:Adv):∀(l:List Ap.Call)(m:Int),(m=0\/m=1\/m=2)->zE s a l m=if m=2\/∃c∈l,lW s a c=2 then 2 else if m=1\/∃c∈l,lW s a c=1 then 1 else 0
 |[],m,h=>by
  unfold zE;rcases h with rfl|rfl|rfl<;>simp
 | c:: l,m,h=>by
  have hk:=Fw s a c;have h2:=IV s a l (max m (lW s a c)) (by omega);have h3:zE s a (c:: l) m=zE s a l (max m (lW s a c)):=rfl;rw[h3,h2];simp only[NP,QP];have e2:(max m (lW s a c)=2\/∃c∈l,lW s a c=2)↔(m=2\/lW s a c=2\/∃c∈l,lW s a c=2):=by
   rw[<- or_assoc];exact or_congr (G5 h hk) Iff.rfl
  by_cases g:m=2\/lW s a c=2\/∃c∈l,lW s a c=2
  ·rw[NE g,NE (e2.2 g)]
  ·rw[if_neg g,if_neg (fun h=>g (e2.1 h))];have e1:(max m (lW s a c)=1\/∃c∈l,lW s a c=1)↔(m=1\/lW s a c=1\/∃c∈l,lW s a c=1):=by
    rw[<- or_assoc];exact or_congr (G4 h hk (fun h=>g (.inl h)) (fun h=>g (.inr (.inl h)))) Iff.rfl
   simp only[e1]
def AU{s:Seen}{a:Adv}(B:SB s)(f:Fun)(l:List aG)(hl:l.length<=40000000):∀(n:Nat)(i:Int),s.calls.length-i.toNat=n->0<=i->i<=s.calls.length->
  aj (L19_0 (ai pg) aj) [.ip (aa s.av),.ip (aa f.av),aI l,.int .i64 i]=M.pure (.int .i64 (if(s.calls.drop i.toNat).any (fun c=>!f.pub&&decide ((c.module,c.func)∈l))=true then 1 else 0)):=by
 have hBc:=B.calls;intro n
 induction n with
 |zero=>
  intro i hn hi hb;have h1:¬(i<(s.calls.length:Int)):=by omega
  have h2:s.calls.drop i.toNat=[]:=NN (by omega);rw[FL19_0,h2];simp only[L19_0];simp[h1]
 | succ n ih=>
  intro i hn hi hb;have h1:i<(s.calls.length:Int):=by omega
  have hlt:i.toNat<s.calls.length:=by omega
  have h4:=ih (i+1) (by omega) (by omega) (by omega);have h5:=t23 l (s.calls[i.toNat].module,s.calls[i.toNat].func) hl;rw[show (i+1).toNat=i.toNat+1 by omega]at h4;rw[FL19_0,NI hlt,QD];simp only[L19_0];rcases O1 f.pub with hp|hp
  ·have h6:(s.calls.drop (i.toNat+1)).any (fun c=>!f.pub&&decide ((c.module,c.func)∈l))=false:=by
    rw[hp];simp
   rw[h6];simp[h1];simp[hp]
  ·simp[hp]at h4;by_cases h6:(s.calls[i.toNat].module,s.calls[i.toNat].func)∈l
   ·rw[OM h6]at h5;simp (disch:=omega) [h1,aF,mq,ND s.calls i.toNat hlt,IQ];simp[hp,h5,h6,jq]
   ·rw[PE h6]at h5;simp (disch:=omega) [h1,aF,mq,ND s.calls i.toNat hlt,IQ];simp[hp,h5,h6,jq,h4]
def I6{s:Seen}{a:Adv}{f:Fun}(h:ez s a=some f):(∃c∈s.calls,lW s a c=2)↔s.calls.any (fun c=>(cL f a c).1)=true:=by
 rw[Pf];refine exists_congr fun c=>and_congr Iff.rfl ?_
 have:=xS (cL f a c)
 unfold lW;rw[h,<- this,Ol]
def Ga{s:Seen}{a:Adv}{f:Fun}(h:ez s a=some f)(h2:¬s.calls.any (fun c=>(cL f a c).1)=true):(∃c∈s.calls,lW s a c=1)↔s.calls.any (fun c=>(cL f a c).2)=true:=by
 rw[Pf];refine exists_congr fun c=>and_congr_right fun hc=>?_;have h3:(cL f a c).1=false:=by
  cases hx:(cL f a c).1 with
  |false=>rfl
  |true=>exact absurd (Pf.2 ⟨c,hc,hx⟩) h2
 unfold lW jp;rw[h];simp only[h3];cases (cL f a c).2<;>simp
def L6{s:Seen}{a:Adv}(B:SB s)(A:AB a)(i:Int)(hi:¬i<(s.calls.length:Int)):aj (L19_1 (ai pg) aj) [.ip (aa s.av),.ip (aa a.av),.int .i64 (zE s a s.calls 0),.int .i64 i]=M.pure (.int .i64 (eD bA s a)):=by
 have h1:=t40 B A;have h3:=t14 B A;have h4:=oC B a;have hlR:∀l:List aG,aJ T 42 (aI l)=some (.int .i64 l.length):=fun l=>by simp[aI]
 have hm:=IV s a s.calls 0 (.inl rfl);simp only[show ((0:Int)=2)=False from by simp,show ((0:Int)=1)=False from by simp,false_or]at hm;rw[FL19_1];simp only[L19_1];unfold eD;cases hb:ez s a with
 |none=>
  have g0:∀c,lW s a c=0:=fun c=>by unfold lW;rw[hb]
  have g2:dL bA s a=[]:=by unfold dL;rw[hb];rfl
  rw[hb]at h1;rw[g2]at h3;have hm':zE s a s.calls 0=0:=by rw[hm];simp[g0]
  simp[hi,hm',h1,bn,dK,h3]
 | some f=>
  have g1:=I6 hb;rw[hb]at h1;by_cases hd:s.calls.any (fun c=>(cL f a c).1)=true
  ·have hm':zE s a s.calls 0=2:=by rw[hm,NE (g1.2 hd)]
   simp only;rw[NE hd];simp[hi,hm']
  ·have g3:=Ga hb hd;rw[if_neg (fun h=>hd (g1.1 h))]at hm;simp only;rw[if_neg hd];have hm2:¬zE s a s.calls 0=2:=by rw[hm];split<;>omega
   by_cases hc:dL bA s a=[]
   ·rw[NE hc];rw[hc]at h3;simp[hi,hm2,h1,bn,dK,h3,hlR]
   ·rw [if_neg hc];have hlA:=AU (a:=a) B f (dL bA s a) (by omega) _ 0 rfl (by omega) (by omega);simp at hlA;cases hw:s.whole with
    |false=>
     simp[hi,hm2,h1,bn,dK,h3,hlR,hc];simp[hw]
    | true=>
     rw[if_neg (show ¬(true=false) by decide)];by_cases h2:s.calls.any (fun c=>(cL f a c).2)=true
     ·have hm1:zE s a s.calls 0=1:=by rw[hm,NE (g3.2 h2)]
      have h5:s.calls.any (Ce bA s a f)=true:=by
       obtain⟨c,hc1,hc2⟩:=Pf.1 h2;exact Pf.2 ⟨c,hc1,by unfold Ce;rw[hc2];rfl⟩
      rw[NE h5];simp[hi,hm1,h1,bn,dK,h3,hlR,hc]
     ·have hm1:zE s a s.calls 0=0:=by rw[hm,if_neg (fun h=>h2 (g3.1 h))]
      have h5:s.calls.any (Ce bA s a f)=s.calls.any (fun c=>!f.pub&&decide ((c.module,c.func)∈dL bA s a)):=by
       rw[Pa,Pf,Pf];refine exists_congr fun c=>and_congr_right fun hc=>?_;have h6:(cL f a c).2=false:=by
        cases hx:(cL f a c).2 with
        |false=>rfl
        |true=>exact absurd (Pf.2 ⟨c,hc,hx⟩) h2
       unfold Ce;rw[h6,Bool.false_or]
      have h7:=AU (a:=a) B f (dL bA s a) (by omega) _ 0 rfl (by omega) (by omega);rw[h5,show s.calls=s.calls.drop (0:Int).toNat from rfl,<- h7];simp[hi,hm1,h1,bn,dK,h3,hlR,hc];simp[hw]
def GZ{s:Seen}{a:Adv}(B:SB s)(A:AB a):∀(n:Nat)(i:Int),s.calls.length-i.toNat=n->0<=i->i<=s.calls.length->
  aj (L19_1 (ai pg) aj) [.ip (aa s.av),.ip (aa a.av),.int .i64 (zE s a (s.calls.take i.toNat) 0),.int .i64 i]=M.pure (.int .i64 (eD bA s a)):=by
 have hBc:=B.calls;intro n
 induction n with
 |zero=>
  intro i hn hi hb;rw[OY (by omega)];exact L6 B A i (by omega)
 | succ n ih=>
  intro i hn hi hb;have h1:i<(s.calls.length:Int):=by omega
  have hlt:i.toNat<s.calls.length:=by omega
  have h4:=ih (i+1) (by omega) (by omega) (by omega);have h3:=t44 B A s.calls[i.toNat] (B.args _ (NW hlt));rw[show (i+1).toNat=i.toNat+1 by omega,<- List.take_append_getElem hlt]at h4;have h5:zE s a (s.calls.take i.toNat++[s.calls[i.toNat]]) 0=max (zE s a (s.calls.take i.toNat) 0) (lW s a s.calls[i.toNat]):=by
   unfold zE;rw[Ql];rfl
  rw[h5]at h4;rw[FL19_1];simp only[L19_1];simp at h4;simp (disch:=omega) [h1,aF,mq,ND s.calls i.toNat hlt,h3,Go.Av.oS,h4]
theorem t19{s:Seen}{a:Adv}(B:SB s)(A:AB a):ai pg 19 [s.av,a.av]=M.pure (.int .i64 (eD bA s a)):=by
 have h1:=GZ B A _ 0 rfl (by omega) (by omega);have h2:zE s a (s.calls.take (0:Int).toNat) 0=0:=rfl;rw[h2]at h1;rw[C19,dS,eM];simp at h1;have key:S19 (ai pg) aj s.av a.av=M.pure (.int .i64 (eD bA s a)):=by simp[S19,h1]
 rw[key];exact de _ _
def JO{a:Adv}(A:AB a)(l:List Seen)(hl:l.length<=1000000)(hB:∀s∈l,SB s):∀(n:Nat)(i:Int)(o:List Int),l.length-i.toNat=n->0<=i->i<=l.length->o.length<=i.toNat->
  aj (L21_0 (ai pg) aj) [io l,.ip (aa a.av),ints o,.int .i64 i]=M.pure (ints (o++iA (fun s=>!s.whole&&eD bA s a== 1) (l.drop i.toNat) i)):=by
 have hB1:∀k:Int,au T 45 1 [(0,.int .i64 k)]=some (ints [k]):=fun k=>rfl;intro n
 induction n with
 |zero=>
  intro i o hn hi hl hns;have h1:¬(i<(l.length:Int)):=by omega
  have h2:l.drop i.toNat=[]:=NN (by omega);rw[FL21_0,h2];simp only[L21_0];simp[h1,iA]
 | succ n ih=>
  intro i o hn hi hl hns;have h1:i<(l.length:Int):=by omega
  have hlt:i.toNat<l.length:=by omega
  have h3:=t19 (hB _ (NW hlt)) A;have h4:=ih (i+1) (o++[i]) (by omega) (by omega) (by omega) (by simp;omega);have h4':=ih (i+1) o (by omega) (by omega) (by omega) (by omega);have h5:ck T 45 (ints o) (ints [i])=some (ints (o++[i])):=FZ (by simp;omega);rw[show (i+1).toNat=i.toNat+1 by omega]at h4 h4';rw[FL21_0,NI hlt];simp only[L21_0,iA];simp at h4 h4';by_cases hj:eD bA l[i.toNat] a=1
  ·rcases O1 l[i.toNat].whole with hw|hw
   ·simp (disch:=omega) [h1,aF,Bh,ND l i.toNat hlt,h3,hj];simp (disch:=omega) [hw,K21_0,aF,h4']
   ·simp (disch:=omega) [h1,aF,Bh,ND l i.toNat hlt,h3,hj];simp (disch:=omega) [hw,hB1,h5,K21_0,aF,h4]
  ·simp (disch:=omega) [h1,aF,Bh,ND l i.toNat hlt,h3,hj,K21_0,h4']
def t21{a:Adv}(A:AB a)(l:List Seen)(hl:l.length<=1000000)(hB:∀s∈l,SB s):ai pg 21 [io l,a.av]=M.pure (ints (vY bA l a)):=by
 have h2:=JO A l hl hB _ 0 [] rfl (by omega) (by omega) (by simp);rw[C21,wm,eM];rw[show ints []=AV.sl []from rfl]at h2;simp at h2;have key:S21 (ai pg) aj (io l) a.av=M.pure (ints (vY bA l a)):=by
  unfold vY;simp[S21,h2]
 rw[key];exact bb fun g=>qh g _
def mP(x y:Bool):ao T .eql 4 (.bool x) (.bool y)=some (.bool (x== y)):=by cases x<;>cases y<;>rfl
def gF{m:M (List AV)}{r:M (List AV)}(e:m=r):aB (.bool false) false 1 m=r:=by rw[<- e];rfl
def cF{x y r:M AV}(e:y=r):ar (.bool false) x y=r:=by rw[<- e];rfl
theorem Hu(call:FuncId->List AV->M AV)(s t:Seen)(a:Adv)(r:aG)(x:Bool)(l:List aG)(d:List Int)(j:Int)(k:List Int)(sm:call 8 []=M.pure (.bool true))(f1:call 9 [s.av,a.av]=M.pure (.bool true))(f2:call 9 [t.av,a.av]=M.pure (.bool true))(b1:call 10 [s.av,a.av]=M.pure (.tup [bp r,.bool x]))(b2:call 11 [s.av,a.av]=M.pure (.tup [bp r,.bool x]))(c1:call 13 [s.av,a.av]=M.pure (aI l))(c2:call 14 [s.av,a.av]=M.pure (aI l))(c3:call 12 [aI l,aI l]=M.pure (.bool true))(d1:call 16 [s.av,a.av]=M.pure (ints d))(d2:call 17 [s.av,a.av]=M.pure (ints d))(d3:call 15 [ints d,ints d]=M.pure (.bool true))(j1:call 18 [s.av,a.av]=M.pure (.int .i64 j))(j2:call 19 [s.av,a.av]=M.pure (.int .i64 j))(k1:call 20 [io [s,t,s],a.av]=M.pure (ints k))(k2:call 21 [io [s,t,s],a.av]=M.pure (ints k))(k3:call 15 [ints k,ints k]=M.pure (.bool true)):S3 call aj s.av t.av a.av=M.pure (.bool true):=by
 have hB:au T 40 3 [(0,s.av),(1,t.av),(2,s.av)]=some (io [s,t,s]):=rfl;have hr:ao T .eql 37 (bp r) (bp r)=some (.bool true):=by rw[pr,OM rfl]
 have hx:ao T .eql 4 (.bool x) (.bool x)=some (.bool true):=by rw[mP,OB]
 have hj:ao T .eql 3 (.int .i64 j) (.int .i64 j)=some (.bool true):=by simp
 unfold S3;refine st sm ?_;refine st (bD (jR _)) ?_;refine st (bD (hQ _)) ?_;refine st f1 ?_;refine st (bD rfl) ?_;refine st (gF (st (bD (jR _)) (st (bD (hQ _)) (st f2 (st (bD rfl) rfl))))) ?_;refine st (bD rfl) ?_;refine cF ?_;refine st (bD (jR _)) ?_;refine st (bD (hQ _)) ?_;refine st b1 ?_;refine st (bD rfl) ?_;refine st (bD rfl) ?_;refine st (lu _) ?_;refine st (bD (jR _)) ?_;refine st (bD (hQ _)) ?_;refine st b2 ?_;refine st (bD rfl) ?_;refine st (bD rfl) ?_;refine st (lu _) ?_;refine st (bD (jR _)) ?_;refine st (bD (jR _)) ?_;refine st (bD (jR _)) ?_;refine st (bD hB) ?_;refine st (bD (JC _)) ?_;refine st (bD (JC _)) ?_;refine st (bD hr) ?_;refine st (gE (st (bD hx) rfl)) ?_;refine st (bD rfl) ?_;refine st (gE (st (bD (jR _)) (st (bD (hQ _)) (st (np c1) (st (bD (jR _)) (st (bD (hQ _)) (st (np c2) (st (np c3) rfl)))))))) ?_;refine st (bD rfl) ?_;refine st (gE (st (bD (jR _)) (st (bD (hQ _)) (st (np d1) (st (bD (jR _)) (st (bD (hQ _)) (st (np d2) (st (np d3) rfl)))))))) ?_;refine st (bD rfl) ?_;refine st (gE rfl) ?_;refine st (bD rfl) ?_;refine st (gE (st (bD (jR _)) (st (bD (hQ _)) (st (np j1) (st (bD (jR _)) (st (bD (hQ _)) (st (np j2) (st (bD hj) rfl)))))))) ?_;refine st (bD rfl) ?_;refine st (gE (st (bD (hQ _)) (st (np k1) (st (bD (hQ _)) (st (np k2) (st (np k3) rfl)))))) ?_;refine st (bD rfl) ?_;rfl
def Cu(l:List aG)(h:l.length<=40000000):ai pg 12 [aI l,aI l]=M.pure (.bool true):=by rw[t12 l l h,OM rfl]
def uc(l:List Int)(h:l.length<=40000000):ai pg 15 [ints l,ints l]=M.pure (.bool true):=by rw[t15 l l h,OM rfl]
def GA{s:Seen}(B:SB s)(a:Adv):(mH s a).length<=40000000:=by
 unfold mH;cases ez s a with
 |none=>exact OX _
 |some f=>
  have:=rp (fun c=>(cL f a c).1) s.calls 0
  have:=B.calls
  simp only;omega
def Hr{s t:Seen}{a:Adv}(B:SB s)(A:AB a)(B2:SB t)(f1:ai pg 9 [s.av,a.av]=M.pure (.bool true))(f2:ai pg 9 [t.av,a.av]=M.pure (.bool true)):S3 (ai pg) aj s.av t.av a.av=M.pure (.bool true):=by
 have hl:∀x∈[s,t,s],SB x:=fun x hx=>by
  simp only[NP,OJ,Pz]at hx;rcases hx with rfl|rfl|rfl<;>assumption
 have h3:[s,t,s].length<=1000000:=by simp only[Of,Ot];omega
 have h4:(vY bA [s,t,s] a).length<=40000000:=O0 (rp _ _ _) (by simp only[Of,Ot];omega);have h1:=t10 B A;have h2:=t11 B A;obtain⟨r,hr⟩:∃r,mZ (ez s a).isSome (gh a)= .tup [bp r,.bool (ez s a).isSome]:=by
  cases (ez s a).isSome with
  |true=>exact⟨gh a,rfl⟩
  |false=>exact⟨([],[]),rfl⟩
 rw[hr]at h1 h2;exact Hu (ai pg) s t a r _ _ _ _ _ t8 f1 f2 h1 h2 (t13 B A) (t14 B A) (Cu _ (by have:=oC B a;omega)) (t16 B A) (t17 B A) (uc _ (GA B a)) (t18 B A) (t19 B A) (t20 A [s,t,s] h3 hl) (t21 A [s,t,s] h3 hl) (uc _ h4)
def cT{x y r:M AV}(e:x=r):ar (.bool true) x y=r:=by rw[<- e];rfl
def Ht(call:FuncId->List AV->M AV)(s t:Seen)(a:Adv)(sm:call 8 []=M.pure (.bool true))(f1:call 9 [s.av,a.av]=M.pure (.bool false)):S3 call aj s.av t.av a.av=M.pure (.bool true):=by
 unfold S3;refine st sm ?_;refine st (bD (jR _)) ?_;refine st (bD (hQ _)) ?_;refine st f1 ?_;refine st (bD rfl) ?_;refine st (show aB (.bool true) false 1 _=M.pure _ from rfl) ?_;refine st (bD rfl) ?_;refine cT ?_;rfl
def Hs(call:FuncId->List AV->M AV)(s t:Seen)(a:Adv)(sm:call 8 []=M.pure (.bool true))(f1:call 9 [s.av,a.av]=M.pure (.bool true))(f2:call 9 [t.av,a.av]=M.pure (.bool false)):S3 call aj s.av t.av a.av=M.pure (.bool true):=by
 unfold S3;refine st sm ?_;refine st (bD (jR _)) ?_;refine st (bD (hQ _)) ?_;refine st f1 ?_;refine st (bD rfl) ?_;refine st (gF (st (bD (jR _)) (st (bD (hQ _)) (st f2 (st (bD rfl) rfl))))) ?_;refine st (bD rfl) ?_;refine cT ?_;rfl
def t3(s:Seen)(S0:s.Lim)(t:Seen)(T0:t.Lim)(a:Adv)(A0:a.Lim):ai pg 3 [s.av,t.av,a.av]=M.pure (.bool true):=by
 rw[C3,dS,dS,eM];obtain⟨b,hb1,hb2⟩:=t9 S0 A0;obtain⟨c,hc1,hc2⟩:=t9 T0 A0;have key:S3 (ai pg) aj s.av t.av a.av=M.pure (.bool true):=by
  cases b with
  |false=>exact Ht (ai pg) s t a t8 hb1
  |true=>
   cases c with
   |false=>exact Hs (ai pg) s t a t8 hb1 hc1
   |true=>exact Hr (hb2 rfl).1.1 (hb2 rfl).1.2 (hc2 rfl).1.1 hb1 hc1
 rw[key];exact lS true
end Go.Proofs.YtnipfhmghjdnmaaGreat
