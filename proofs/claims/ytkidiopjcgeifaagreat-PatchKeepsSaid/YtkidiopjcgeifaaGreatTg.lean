/- What the functions compute, part 7. Conditions: bounds. -/
import Derived.Test.YtkidiopjcgeifaaGreatTf
set_option linter.defProp false
set_option linter.unusedSimpArgs false
set_option linter.unusedVariables false
namespace Go.Proofs.YtkidiopjcgeifaaGreat.MgM
open Go Go.Av Go.Av.Ap
set_option maxRecDepth 100000
def sl(l:List Mig):AV:=.sl (l.map dB)
def ix{l:List Mig}{i:Nat}(h:i<l.length):ax T 179 (sl l) (qi (i:Int))=some (.ip (ab (dB l[i]))):=by
 have:=bi (T:=T) (t:=179) (e:=27) rfl rfl rfl (f:=dB) (l:=l) (n:=(i:Int)) (fun _=>by first|rfl|(simp;done)|exact Mg.szM _|(simp;rfl)) WD WD
 rw[acG,acF l i h]at this;exact this
def ap{a b:List Mig}(h:(a.length+b.length)*72<=140737488355328):dL T 179 (sl a) (sl b)=some (sl (a++b)):=by
 have:=ga (T:=T) (t:=179) (e:=27) rfl rfl rfl (f:=dB) (fun _=>by first|rfl|(simp;done)|exact Mg.ZX _|(simp;rfl)) (a:=a) (b:=b) h Vc
 simpa [sl]using this
def ln(l:List Mig):ff T 179 (sl l)=some (.int .i64 l.length):=by
 show some (AV.int .i64 (l.map dB).length)=_;rw[adJ]
def VH(x:Mig):cn 3 (dB x)=true:=by first|rfl|(simp;done)|exact Mg.ZX x|(simp;rfl)
def ld(x:Mig):ay T 27 (.ip (ab (dB x)))=some (dB x):=by first|rfl|(simp;done)|exact Mg.ldM x
def cm(x:Mig):bB 3 (dB x)=ao (dB x):=by first|rfl|(simp;done)|exact Mg.cmM x
def clA(g:Nat->Nat->Nat->Nat->Bool->AV)(x:Mig):cl g (dB x)=dB x:=by first|rfl|(simp;done)|exact Mg.clM g x
def clS(g:Nat->Nat->Nat->Nat->Bool->AV)(l:List Mig):cl g (sl l)=sl l:=by
 show AV.sl (eB g (l.map dB))=_;rw[eC g dB (clA g)];rfl
def P(a b:FuncId):AV:=.agg [.fn (.func a) [] [],.fn (.func b) [] []]
def ok:MgP.Ok ⟨179,27,294,170,167,168,3,215,162,160,214,161,216,99⟩ dB where
 ix:=ix
 ap:=fun h=>ap WD
 ln:=ln
 ld:=ld
 cm:=cm
 clA:=clA
 clS:=clS
 cut:=fun l k hk=>by
  have hok:dK 3 (l.map dB)=true:=by
   simp only[dK,ae1,acQ];exact fun x _=>VH x
  have:=nE (T:=T) (t:=179) (e:=27) rfl rfl rfl (l.map dB) hok (a:=0+(k:Int)) (b:=(k:Int)+1) WD WD (by rw[adJ];omega)
  rw[show ((k:Int)+1).toNat=k+1 by omega,show ((0:Int)+(k:Int)).toNat=k by omega]at this;refine this.trans ?_;rw[<- aex,<- ae6,adP hk,ad4 Bk,List.drop_eq_nil_of_le Bk];rfl
 lL:=fun _ _ _=>rfl
 i0:=fun _ _ _=>rfl
 i1:=fun _ _ _=>rfl
 i2:=fun _ _ _=>rfl
 lS:=fun _=>rfl
 c0:=fun _ _ _=>rfl
 p0:=fun _ _=>rfl
 p1:=fun _ _=>rfl
 pN:=fun _ _=>rfl
 pS:=fun _=>rfl
 pP:=fun _ _=>rfl
 grow:=fun n h=>by
  have e0:aa pg 214 [.hn,qi (n:Int)]=mM (aa pg) [.hn,qi (n:Int)]:=ct hOther rfl _;rw[e0];have h1:(decide (0<=(n:Int))&&decide ((n:Int)<=1000000))=true:=by simp;omega
  simp only[mM,h1,acD];rfl
 ci:=C215
 ce:=C162
 cc:=C160
 cf:=C161
 cg:=C216
 cM:=C99
 fi:=FL215_0 (aa pg)
 fe:=FL162_0 (aa pg)
 fc:=FL160_0 (aa pg)
 fd:=FL160_1 (aa pg)
 fm:=FL99_0 (aa pg)
def vg(r:List Mig×aA×Bool):AV:=.tup [sl r.1,.str r.2.1,.bool r.2.2]
def t99{a b:FuncId}{nm:Mig->aA}{same:Mig->Mig->Bool}(base mine theirs:List Mig)(hl:base.length+(mine.length+theirs.length)<=1000000)(hnm:∀x∈base++(mine++theirs),aa pg a [dB x]=ao (.str (nm x)))(hsm:∀x∈base++(mine++theirs),∀y∈base++(mine++theirs),aa pg b [dB x,dB y]=ao (.bool (same x y))):aa pg 99 [P a b,sl base,sl mine,sl theirs]=ao (vg (cb nm same base mine theirs)):=ok.t_merge base mine theirs hl hnm hsm
end Go.Proofs.YtkidiopjcgeifaaGreat.MgM
namespace Go.Proofs.YtkidiopjcgeifaaGreat.Mg
open Go Go.Av Go.Av.Ap
set_option maxRecDepth 100000
def varsOf(m:Mod):List Vr:=m.vars.zip m.init
theorem GL{α β:Type}:∀(a:List α)(b:List β)(i:Nat)(h1:i<a.length)(h2:i<b.length),(a.zip b).take (i+1)=(a.zip b).take i++[(a[i],b[i])]
 |x:: a,y:: b,0,_,_=>rfl
 |x:: a,y:: b,i+1,h1,h2=>by
  have:=GL a b i (by simpa using h1) (by simpa using h2)
  simp_all
def t97(m:Mod)(hb:m.vars.length<=1000000)(hi:m.vars.length<=m.init.length):aa pg 97 [m.av]=ao (MgV.sl (varsOf m)):=by
 have hloop:∀(n i:Nat),m.vars.length-i=n->i<=m.vars.length->
   ae (L97_0 (aa pg) ae) [.ip (ab m.av),MgV.sl ((varsOf m).take i),aE m.vars,qi m.vars.length,qi i]=ao (MgV.sl (varsOf m)):=by
  intro n
  induction n with
  |zero=>
   intro i hn hl;obtain rfl:i=m.vars.length:=WD
   have h1:¬((m.vars.length:Int)<(m.vars.length:Int)):=WD
   have h2:(varsOf m).take m.vars.length=varsOf m:=adY (by grind [varsOf]);rw[FL97_0];simp_all[L97_0]
  | succ n ih=>
   intro i hn hl;have hlt:i<m.vars.length:=WD
   have h1:(i:Int)<(m.vars.length:Int):=WD
   have hw:IntKind.i64.wrap ((i:Int)+1)=((i+1:Nat):Int):=aH WD;have h4:=ih (i+1) WD WD;have i1:=lP (l:=m.vars) (n:=(i:Int)) WD h1;rw[acG,acF m.vars i hlt]at i1;have i2:=lj (l:=m.init) (n:=(i:Int)) WD WD;rw[acG,acF m.init i WD]at i2;have hap:=MgV.ap (a:=(varsOf m).take i) (b:=[(m.vars[i],m.init[i])]) qr;rw[varsOf,<- GL m.vars m.init i hlt WD]at hap;have l1:ay T 79 (.ip (ab (aR m.vars[i])))=some (aR m.vars[i]):=AI
   have l2:ay T 54 (.ip (ab m.init[i].av))=some m.init[i].av:=AI
   have f1:∀cs,ar T 29 (.ip cs) 3=some (.ip (cs.drop 3)):=fun _=>rfl;have l3:ay T 24 (.ip ((ab m.av).drop 3))=some (bg m.init):=AI
   have b1:∀(f:ca)(e:Exp),bW T false 159 [(0,aR f),(1,e.av)]=some (fp (f,e)):=fun f e=>by
    rw[wF,gE,Exp.av,Exp.cells_eq];rfl
   have b2:∀v:Vr,aI T 173 1 [(0,fp v)]=some (MgV.sl [v]):=fun v=>by
    rw[show MgV.sl [v]= .sl [fp v]from rfl,wF];rfl
   rw[FL97_0];simp_all[L97_0,varsOf]
 have h0:=hloop m.vars.length 0 rfl WD;have f2:∀cs,ar T 29 (.ip cs) 2=some (.ip (cs.drop 2)):=fun _=>rfl;have l4:ay T 23 (.ip ((ab m.av).drop 2))=some (aE m.vars):=AI
 rw[C97,fL];have e:S97 (aa pg) ae m.av=ao (MgV.sl (varsOf m)):=by
  simp -implicitDefEqProofs only[S97,f2,af,l4,oM];exact h0
 rw[e];exact aZ fun g=>MgV.clS g _
def da(m:Mod):List Mig:=if m.moves=true then[⟨m.old,m.forward,m.back⟩]else[]
def t100(m:Mod):aa pg 100 [m.av]=ao (MgM.sl (da m)):=by
 rw[C100,fL];have f5:∀cs,ar T 29 (.ip cs) 5=some (.ip (cs.drop 5)):=fun _=>rfl;have f6:∀cs,ar T 29 (.ip cs) 6=some (.ip (cs.drop 6)):=fun _=>rfl;have l5:ay T 4 (.ip ((ab m.av).drop 5))=some (.bool m.moves):=AI
 have l6:ay T 27 (.ip ((ab m.av).drop 6))=some (dB ⟨m.old,m.forward,m.back⟩):=by
  rw[show (ab m.av).drop 6=[aE m.old,bg m.forward,bg m.back] by simp];rfl
 have b2:∀v:Mig,aI T 179 1 [(0,dB v)]=some (MgM.sl [v]):=fun v=>rfl;have e:S100 (aa pg) ae m.av=ao (MgM.sl (da m)):=by
  simp -implicitDefEqProofs only[S100,f5,f6,af,l5,l6,b9,ah,b2];unfold da;cases m.moves<;>rfl
 rw[e];exact aZ fun g=>MgM.clS g _
def eF(l:List Vr):List ca->List Vr->List Vr×Bool
 |[],out=>(out,out.length== l.length)
 |f:: fs,out=>match l.find? (fun v=>nP v== f.1)with
  |none=>([],false)
  |some v=>eF l fs (out++[v])
def t164(v:Vr)(f:ca):aa pg 164 [fp v,.ip (ab (aR f))]=ao (.bool (nP v== f.1)):=by
 have c:cl ai (.ip (ab (aR f)))= .ip (ab (aR f)):=by simp[cl,eB]
 have hb:∀x y:aA,bN T .eql 9 (.str x) (.str y)=some (.bool (x== y)):=fun _ _=>rfl;simp_all[C164,ZT,S164,sR,nP]
theorem t101(l:List Vr)(fs:List ca)(hl:l.length<=1000000)(hf:fs.length<=1000000):aa pg 101 [MgV.sl l,aE fs]=ao (.tup [MgV.sl (eF l fs []).1,.bool (eF l fs []).2]):=by
 have hloop:∀(n i:Nat)(out:List Vr),fs.length-i=n->i<=fs.length->out.length<=i->
   ae (L101_0 (aa pg) ae) [MgV.sl l,MgV.sl out,aE fs,qi fs.length,qi i]=ao (.tup [MgV.sl (eF l (fs.drop i) out).1,.bool (eF l (fs.drop i) out).2]):=by
  intro n
  induction n with
  |zero=>
   intro i out hn hi ho;have h1:¬((i:Int)<(fs.length:Int)):=WD
   have he:((out.length:Int)== (l.length:Int))=(out.length== l.length):=by rw[aen];simp
   rw[FL101_0,List.drop_eq_nil_of_le WD];simp -implicitDefEqProofs only[L101_0,ak,au,aC,af,ah,h1,adg,acA,acI,MgV.ln,ej,he,eF]
  | succ n ih=>
   intro i out hn hi ho;have hlt:i<fs.length:=WD
   have h1:(i:Int)<(fs.length:Int):=WD
   have hw:IntKind.i64.wrap ((i:Int)+1)=((i+1:Nat):Int):=aH WD;have i1:=lP (l:=fs) (n:=(i:Int)) WD h1;rw[acG,acF fs i hlt]at i1;rw[List.drop_eq_getElem_cons hlt];generalize fs[i]=f at *;have l1:ay T 79 (.ip (ab (aR f)))=some (aR f):=AI
   have hix:=MgV.t163 (.fn (.func 164) [] [.ip (ab (aR f))]) (fun v=>nP v== f.1) l hl (fun g=>by simp[cl,eB]) (fun v _=>t164 v f);have b2:∀v:Vr,aI T 173 1 [(0,fp v)]=some (MgV.sl [v]):=fun v=>by
    rw[show MgV.sl [v]= .sl [fp v]from rfl,wF];rfl
   rw[FL101_0];simp -implicitDefEqProofs only[L101_0,ak,au,aC,af,ah,h1,acX,acK,i1,l1,rS,aj,hix];rcases oh (fun v=>nP v== f.1) l 0 (WD)with⟨g1,g2⟩|⟨k,hk,g1,g2⟩
   ·have hn1:decide ((-1:Int)<0)=true:=rfl;simp -implicitDefEqProofs only[g1,hn1,acK,eF,g2]
    try rfl
   ·have hn1:decide ((0:Int)+(k:Int)<0)=false:=AI
    have hix2:=MgV.ix hk;have hz:(0:Int)+(k:Int)=(k:Int):=WD
    have hap:=MgV.ap (a:=out) (b:=[l[k]]) qr;have h4:=ih (i+1) (out++[l[k]]) WD WD qr;simp -implicitDefEqProofs only[g1,hn1,acA,acI,hz,hix2,af,ZW,b2,hap,aY,hw,eF,g2];exact h4
 have h0:=hloop fs.length 0 [] rfl WD AI;rw[C101,MgV.clS,wR];have e:S101 (aa pg) ae (MgV.sl l) (aE fs)=ao (.tup [MgV.sl (eF l fs []).1,.bool (eF l fs []).2]):=by
  simp -implicitDefEqProofs only[S101,oM,af];exact h0
 rw[e];exact aZ fun g=>by
  show AV.tup [cl g (MgV.sl _),.bool _]=_;rw[MgV.clS]
end Go.Proofs.YtkidiopjcgeifaaGreat.Mg
namespace Go.Proofs.YtkidiopjcgeifaaGreat.MgS
open Go Go.Av Go.Av.Ap
set_option maxRecDepth 100000
def sl(l:List aA):AV:=.sl (l.map AV.str)
def ix{l:List aA}{i:Nat}(h:i<l.length):ax T 22 (sl l) (qi (i:Int))=some (.ip (ab (AV.str l[i]))):=by
 have:=bi (T:=T) (t:=22) (e:=9) rfl rfl rfl (f:=AV.str) (l:=l) (n:=(i:Int)) (fun _=>by first|rfl|(simp;done)|exact Mg.szS _|(simp;rfl)) WD WD
 rw[acG,acF l i h]at this;exact this
def ap{a b:List aA}(h:(a.length+b.length)*16<=140737488355328):dL T 22 (sl a) (sl b)=some (sl (a++b)):=by
 have:=ga (T:=T) (t:=22) (e:=9) rfl rfl rfl (f:=AV.str) (fun _=>AN) (a:=a) (b:=b) h Vc
 simpa [sl]using this
def ln(l:List aA):ff T 22 (sl l)=some (.int .i64 l.length):=by
 show some (AV.int .i64 (l.map AV.str).length)=_
 grind
def VH(x:aA):cn 1 (AV.str x)=true:=AN
def ld(x:aA):ay T 9 (.ip (ab (AV.str x)))=some (AV.str x):=AN
def clA(g:Nat->Nat->Nat->Nat->Bool->AV)(x:aA):cl g (AV.str x)=AV.str x:=AN
def clS(g:Nat->Nat->Nat->Nat->Bool->AV)(l:List aA):cl g (sl l)=sl l:=by
 show AV.sl (eB g (l.map AV.str))=_;rw[eC g AV.str (clA g)];rfl
def Qx(f:AV)(F:aA->Bool)(l:List aA)(hb:l.length<=1000000)(hf:∀x∈l,ba (aa pg) f [AV.str x]=ao (.bool (F x))):∀(n i:Nat),l.length-i=n->i<=l.length->
  ae (L208_0 (aa pg) ae) [sl l,f,.int .i64 l.length,.int .i64 i]=ao (.int .i64 (aL F (l.drop i) i)):=by
 intro n
 induction n with
 |zero=>
  intro i hn hl;obtain rfl:i=l.length:=WD
  have h1:¬((l.length:Int)<(l.length:Int)):=WD
  rw[FL208_0];simp_all[L208_0,aL]
 |succ n ih=>
  intro i hn hl;have hlt:i<l.length:=WD
  have h1:(i:Int)<(l.length:Int):=WD
  have hw:IntKind.i64.wrap ((i:Int)+1)=((i+1:Nat):Int):=aH WD;have h3:=hf l[i] (List.getElem_mem hlt);have h4:=ih (i+1) WD WD;rw[FL208_0,List.drop_eq_getElem_cons hlt];simp_all[L208_0,ix,aL]
def t208(f:AV)(F:aA->Bool)(l:List aA)(hb:l.length<=1000000)(hc:∀g,cl g f=f)(hf:∀x∈l,ba (aa pg) f [AV.str x]=ao (.bool (F x))):aa pg 208 [sl l,f]=ao (.int .i64 (aL F l 0)):=by
 have h:=Qx f F l hb hf l.length 0 rfl WD;rw[C208,clS,hc];simp_all[S208,ln]
def P(a b:FuncId):AV:=.agg [.fn (.func a) [] [],.fn (.func b) [] []]
theorem t209{a b:FuncId}{nm:aA->aA}{x:aA}(h:aa pg a [AV.str x]=ao (.str (nm x)))(s:aA):aa pg 209 [AV.str x,.ip [.fn (.func a) [] [],.fn (.func b) [] []],.ip [.str s]]=ao (.bool (nm x== s)):=by
 have h2:ba (AY (aa pg)) (.fn (.func a) [] []) [AV.str x]=ao (.str (nm x)):=Mg.xM h;have c1:cl ai (.ip [.fn (.func a) [] [],.fn (.func b) [] []])= .ip [.fn (.func a) [] [],.fn (.func b) [] []]:=rfl;have c2:cl ai (.ip [.str s])= .ip [.str s]:=rfl;have c3:ar T 157 (.ip [.fn (.func a) [] [],.fn (.func b) [] []]) 0=some (.ip [.fn (.func a) [] [],.fn (.func b) [] []]):=rfl;have c4:ay T 154 (.ip [.fn (.func a) [] [],.fn (.func b) [] []])=some (.fn (.func a) [] []):=rfl;have c5:ay T 9 (.ip [.str s])=some (.str s):=rfl;have c6:bN T .eql 9 (.str (nm x)) (.str s)=some (.bool (nm x== s)):=rfl;simp_all[C209,S209]
theorem t153{a b:FuncId}{nm:aA->aA}(l:List aA)(hb:l.length<=1000000)(h:∀x∈l,aa pg a [AV.str x]=ao (.str (nm x)))(s:aA):aa pg 153 [P a b,sl l,.str s]=ao (sl (aJ nm l s)):=by
 have c1:cl ai (P a b)=P a b:=rfl;have c2:cl ai (.str s)= .str s:=rfl;have hi:=t208 (.fn (.func 209) [] [.ip [.fn (.func a) [] [],.fn (.func b) [] []],.ip [.str s]]) (fun x=>nm x== s) l hb (fun _=>rfl) (fun x hx=>t209 (h x hx) s);have ha:ab (P a b)=[.fn (.func a) [] [],.fn (.func b) [] []]:=rfl;have hs:ab (.str s)=[.str s]:=rfl;rw[C153,c1,clS,c2];have e:S153 (aa pg) ae (P a b) (sl l) (.str s)=ao (sl (aJ nm l s)):=by
  simp -implicitDefEqProofs only[S153,ha,hs,hi,aj,aC,af,ah];unfold aJ;rcases oh (fun x=>nm x== s) l 0 (WD)with⟨h1,h2⟩|⟨k,hk,h1,h2⟩
  ·rw[h1,h2];rfl
  ·have hn:¬((0:Int)+(k:Int)<0):=WD
   have hw:IntKind.i64.wrap ((0:Int)+(k:Int)+1)=(k:Int)+1:=by rw[aff,aW WD WD]
   have hsl:eR T 22 (sl l) (some (.int .i64 (0+(k:Int)))) (some (.int .i64 ((k:Int)+1))) none=some (sl [l[k]]):=by
    have hok:dK 1 (l.map AV.str)=true:=by
     simp only[dK,ae1,acQ];exact fun x _=>VH x
    have:=nE (T:=T) (t:=22) (e:=9) rfl rfl rfl (l.map AV.str) hok (a:=0+(k:Int)) (b:=(k:Int)+1) WD WD qr
    rw[show ((k:Int)+1).toNat=k+1 by omega,show ((0:Int)+(k:Int)).toNat=k by omega]at this;refine this.trans ?_;rw[<- aex,<- ae6,adP hk,ad4 Bk,List.drop_eq_nil_of_le Bk];rfl
   simp -implicitDefEqProofs only[h1,h2,hn,adg,acA,acI,aY,af,hw,hsl];rfl
 rw[e];exact aZ fun g=>clS g _
def Qo(f:AV)(F:aA->aA->Bool)(a b:List aA)(hb:a.length<=1000000)(hab:a.length=b.length)(hf:∀x∈a,∀y∈b,ba (aa pg) f [AV.str x,AV.str y]=ao (.bool (F x y))):∀(n i:Nat),a.length-i=n->i<=a.length->
  ae (L154_0 (aa pg) ae) [sl b,f,sl a,qi a.length,qi i]=ao (.bool (bp F (a.drop i) (b.drop i))):=by
 intro n
 induction n with
 |zero=>
  intro i hn hl;obtain rfl:i=a.length:=WD
  have h1:¬((a.length:Int)<(a.length:Int)):=WD
  rw[FL154_0,afg,List.drop_eq_nil_of_le (by omega:b.length<=a.length)];simp_all[L154_0,bp]
 |succ n ih=>
  intro i hn hl;have hlt:i<a.length:=WD
  have hlt':i<b.length:=WD
  have h1:(i:Int)<(a.length:Int):=WD
  have hw:IntKind.i64.wrap ((i:Int)+1)=((i+1:Nat):Int):=aH WD;have h3:=hf a[i] (List.getElem_mem hlt) b[i] (List.getElem_mem hlt');have h4:=ih (i+1) WD WD;rw[FL154_0,ij F a b i hlt hlt'];simp_all[L154_0,ix]
def t154(f:AV)(F:aA->aA->Bool)(a b:List aA)(hb:a.length<=1000000)(hc:∀g,cl g f=f)(hf:∀x∈a,∀y∈b,ba (aa pg) f [AV.str x,AV.str y]=ao (.bool (F x y))):aa pg 154 [sl a,sl b,f]=ao (.bool (bp F a b)):=by
 rw[C154,clS,clS,hc];have e:S154 (aa pg) ae (sl a) (sl b) f=ao (.bool (bp F a b)):=by
  simp -implicitDefEqProofs only[S154,ln,af,jI,ah];by_cases h:a.length=b.length
  ·have h2:((a.length:Int) != (b.length:Int))=false:=by simp[h]
   have:=Qo f F a b hb h hf a.length 0 rfl WD
   grind
  ·simp_all[cR]
 rw[e];rfl
def t206(n:Nat)(h:n<=1000000):aa pg 206 [.hn,qi (n:Int)]=ao (sl []):=by
 have e0:aa pg 206 [.hn,qi (n:Int)]=mM (aa pg) [.hn,qi (n:Int)]:=ct hOther rfl _;rw[e0];have h1:(decide (0<=(n:Int))&&decide ((n:Int)<=1000000))=true:=by simp;omega
 simp only[mM,h1,acD];rfl
theorem t151(a b c:List aA)(h:a.length+(b.length+c.length)<=1000000):aa pg 151 [.sl [sl a,sl b,sl c]]=ao (sl (a++(b++c))):=by
 have i0:∀(x y z:List aA),ax T 287 (.sl [sl x,sl y,sl z]) (qi 0)=some (.ip [sl x]):=fun _ _ _=>rfl;have i1:∀(x y z:List aA),ax T 287 (.sl [sl x,sl y,sl z]) (qi 1)=some (.ip [sl y]):=fun _ _ _=>rfl;have i2:∀(x y z:List aA),ax T 287 (.sl [sl x,sl y,sl z]) (qi 2)=some (.ip [sl z]):=fun _ _ _=>rfl;have lL:ff T 287 (.sl [sl a,sl b,sl c])=some (.int .i64 3):=rfl;have lS:∀x:List aA,ay T 22 (.ip [sl x])=some (sl x):=fun _=>rfl;have w0:IntKind.i64.wrap ((0:Int)+(a.length:Int))=(a.length:Int):=by rw[aW WD WD];omega
 have w1:IntKind.i64.wrap ((a.length:Int)+(b.length:Int))=((a.length+b.length:Nat):Int):=by rw[aW WD WD];omega
 have w2:IntKind.i64.wrap (((a.length+b.length:Nat):Int)+(c.length:Int))=((a.length+b.length+c.length:Nat):Int):=by rw[aW WD WD];omega
 have v0:IntKind.i64.wrap ((0:Int)+1)=1:=Vc
 have v1:IntKind.i64.wrap ((1:Int)+1)=2:=Vc
 have v2:IntKind.i64.wrap ((2:Int)+1)=3:=Vc
 have n0:∀n:Nat,decide ((n:Int)<0)=false:=fun n=>AI
 have k0:decide ((0:Int)<3)=true:=rfl;have k1:decide ((1:Int)<3)=true:=rfl;have k2:decide ((2:Int)<3)=true:=rfl;have k3:decide ((3:Int)<3)=false:=rfl;have g:=t206 (a.length+b.length+c.length) WD;have a1:=ap (a:=[]) (b:=a) qr;have a2:=ap (a:=a) (b:=b) WD;have a3:=ap (a:=a++b) (b:=c) qr;rw[acT]at a1;have p0:∀x:AV,ae (L151_0 (aa pg) ae) [sl [],.sl [sl a,sl b,sl c],qi 3,qi 0]=ao (sl (a++(b++c))):=by
  intro _;have q3:ae (L151_0 (aa pg) ae) [sl (a++b++c),.sl [sl a,sl b,sl c],qi 3,qi 3]=ao (sl (a++(b++c))):=by
   rw[FL151_0];simp -implicitDefEqProofs only[L151_0,ak,au,aC,af,ah,k3,acA,acI,aec]
  have q2:ae (L151_0 (aa pg) ae) [sl (a++b),.sl [sl a,sl b,sl c],qi 3,qi 2]=ao (sl (a++(b++c))):=by
   rw[FL151_0];simp -implicitDefEqProofs only[L151_0,ak,au,aC,af,ah,k2,acK,i2,lS,a3,aY,v2];exact q3
  have q1:ae (L151_0 (aa pg) ae) [sl a,.sl [sl a,sl b,sl c],qi 3,qi 1]=ao (sl (a++(b++c))):=by
   rw[FL151_0];simp -implicitDefEqProofs only[L151_0,ak,au,aC,af,ah,k1,acK,i1,lS,a2,aY,v1];exact q2
  rw[FL151_0];simp -implicitDefEqProofs only[L151_0,ak,au,aC,af,ah,k0,acK,i0,lS,a1,aY,v0];exact q1
 have s3:ae (L151_1 (aa pg) ae) [.sl [sl a,sl b,sl c],qi ((a.length+b.length+c.length:Nat):Int),.sl [sl a,sl b,sl c],qi 3,qi 3]=ao (sl (a++(b++c))):=by
  rw[FL151_1];simp -implicitDefEqProofs only[L151_1,ak,au,aC,af,ah,k3,acA,acI,g,aj,lL];exact p0 .any
 have s2:ae (L151_1 (aa pg) ae) [.sl [sl a,sl b,sl c],qi ((a.length+b.length:Nat):Int),.sl [sl a,sl b,sl c],qi 3,qi 2]=ao (sl (a++(b++c))):=by
  rw[FL151_1];simp -implicitDefEqProofs only[L151_1,ak,au,aC,af,ah,k2,acK,i2,lS,ln,aY,w2,n0,acA,acI,v2];exact s3
 have s1:ae (L151_1 (aa pg) ae) [.sl [sl a,sl b,sl c],qi (a.length:Int),.sl [sl a,sl b,sl c],qi 3,qi 1]=ao (sl (a++(b++c))):=by
  rw[FL151_1];simp -implicitDefEqProofs only[L151_1,ak,au,aC,af,ah,k1,acK,i1,lS,ln,aY,w1,n0,acA,acI,v1];exact s2
 have s0:ae (L151_1 (aa pg) ae) [.sl [sl a,sl b,sl c],qi 0,.sl [sl a,sl b,sl c],qi 3,qi 0]=ao (sl (a++(b++c))):=by
  rw[FL151_1];simp -implicitDefEqProofs only[L151_1,ak,au,aC,af,ah,k0,acK,i0,lS,ln,aY,w0,n0,acA,acI,v0];exact s1
 have hcl:cl ai (.sl [sl a,sl b,sl c])= .sl [sl a,sl b,sl c]:=by
  show AV.sl [cl ai (sl a),cl ai (sl b),cl ai (sl c)]=_;rw[clS,clS,clS]
 rw[C151,hcl];have e:S151 (aa pg) ae (.sl [sl a,sl b,sl c])=ao (sl (a++(b++c))):=by
  simp -implicitDefEqProofs only[S151,lL,af];exact s0
 rw[e];exact aZ fun g=>clS g _
def vg(r:List aA×aA×Bool):AV:=.tup [sl r.1,.str r.2.1,.bool r.2.2]
theorem VD{a b:FuncId}{nm:aA->aA}{same:aA->aA->Bool}(base mine theirs:List aA)(hl:base.length+(mine.length+theirs.length)<=1000000)(hnm:∀x∈base++(mine++theirs),aa pg a [AV.str x]=ao (.str (nm x)))(hsm:∀x∈base++(mine++theirs),∀y∈base++(mine++theirs),aa pg b [AV.str x,AV.str y]=ao (.bool (same x y))):∀(n i:Nat)(out:List aA)(done:List aA),(base++(mine++theirs)).length-i=n->i<=(base++(mine++theirs)).length->out.length<=i->done.length<=i->
  ae (L95_0 (aa pg) ae) [sl base,sl mine,sl theirs,.ip (ab (P a b)),sl out,strs done,sl (base++(mine++theirs)),qi (base++(mine++theirs)).length,qi i]=ao (vg (dS nm same base mine theirs ((base++(mine++theirs)).drop i) out done)):=by
 have hL:(base++(mine++theirs)).length<=1000000:=by simp only[ac7];omega
 have mb:∀s,∀x∈aJ nm base s,x∈base++(mine++theirs):=fun s x h=>adB _ (eV nm h).1;have mm:∀s,∀x∈aJ nm mine s,x∈base++(mine++theirs):=fun s x h=>adt _ (adB _ (eV nm h).1);have mt:∀s,∀x∈aJ nm theirs s,x∈base++(mine++theirs):=fun s x h=>adt _ (adt _ (eV nm h).1);have fb:=fun s=>t153 (a:=a) (b:=b) (nm:=nm) base WD (fun x hx=>hnm x (adB _ hx)) s;have fm:=fun s=>t153 (a:=a) (b:=b) (nm:=nm) mine WD (fun x hx=>hnm x (adt _ (adB _ hx))) s;have ft:=fun s=>t153 (a:=a) (b:=b) (nm:=nm) theirs WD (fun x hx=>hnm x (adt _ (adt _ hx))) s;have hq:∀(l r:List aA),l.length<=1000000->(∀x∈l,x∈base++(mine++theirs))->(∀x∈r,x∈base++(mine++theirs))->aa pg 154 [sl l,sl r,.fn (.func b) [] []]=ao (.bool (bp same l r)):=fun l r h h1 h2=>
  t154 (.fn (.func b) [] []) same l r h (fun _=>rfl) (fun x hx y hy=>hsm x (h1 x hx) y (h2 y hy))
 have q1:=fun s=>hq (aJ nm base s) (aJ nm mine s) (adi (eY nm base s) Vc) (mb s) (mm s);have q2:=fun s=>hq (aJ nm base s) (aJ nm theirs s) (adi (eY nm base s) Vc) (mb s) (mt s);have q3:=fun s=>hq (aJ nm mine s) (aJ nm theirs s) (adi (eY nm mine s) Vc) (mm s) (mt s);have c3:ar T 157 (.ip (ab (P a b))) 0=some (.ip [.fn (.func a) [] [],.fn (.func b) [] []]):=rfl;have c4:ay T 154 (.ip [.fn (.func a) [] [],.fn (.func b) [] []])=some (.fn (.func a) [] []):=rfl;have c5:ar T 157 (.ip (ab (P a b))) 1=some (.ip [.fn (.func b) [] []]):=rfl;have c6:ay T 155 (.ip [.fn (.func b) [] []])=some (.fn (.func b) [] []):=rfl;have c7:ay T 157 (.ip (ab (P a b)))=some (P a b):=rfl;have c8:∀s:aA,aI T 22 1 [(0,.str s)]=some (strs [s]):=fun _=>rfl;intro n
 induction n with
 |zero=>
  intro i out done hn hi ho hd;have h1:¬((i:Int)<((base++(mine++theirs)).length:Int)):=WD
  rw[FL95_0,List.drop_eq_nil_of_le WD];simp -implicitDefEqProofs only[L95_0,ak,au,aC,af,ah,h1,adg,acA,acI,dS];rfl
 |succ n ih=>
  intro i out done hn hi ho hd;have hlt:i<(base++(mine++theirs)).length:=WD
  have h1:(i:Int)<((base++(mine++theirs)).length:Int):=WD
  have hw:IntKind.i64.wrap ((i:Int)+1)=((i+1:Nat):Int):=aH WD;have hix:=ix hlt;have hmem:=List.getElem_mem hlt;rw[List.drop_eq_getElem_cons hlt];have hcv:ba (aa pg) (.fn (.func a) [] []) [AV.str (base++(mine++theirs))[i]]=ao (.str (nm (base++(mine++theirs))[i])):=hnm _ hmem;generalize (base++(mine++theirs))[i]=x at *;have hct:=VS (nm x) done WD;have hap:=wI (a:=done) (b:=[nm x]) qr;have l1:=eY nm theirs (nm x);have l2:=eY nm mine (nm x);have ha1:=ap (a:=out) (b:=aJ nm theirs (nm x)) WD;have ha2:=ap (a:=out) (b:=aJ nm mine (nm x)) WD;have i0:=ih (i+1) out done WD WD WD WD;have i1:=ih (i+1) (out++aJ nm theirs (nm x)) (done++[nm x]) WD WD qr AN;have i2:=ih (i+1) (out++aJ nm mine (nm x)) (done++[nm x]) WD WD qr AN;rw[FL95_0];simp -implicitDefEqProofs only[L95_0,K95_0,qt,ak,au,aC,af,ah,h1,acX,acK,hix,ld,c3,c4,c5,c6,c7,c8,hcv,aj,hct,hap,fb,fm,ft,bE,q1,q2,q3,ha1,ha2,aY,hw,i0,i1,i2,dS];cases done.contains (nm x)<;>cases bp same (aJ nm base (nm x)) (aJ nm mine (nm x))<;>cases bp same (aJ nm base (nm x)) (aJ nm theirs (nm x))<;>cases bp same (aJ nm mine (nm x)) (aJ nm theirs (nm x))<;>rfl
theorem t95{a b:FuncId}{nm:aA->aA}{same:aA->aA->Bool}(base mine theirs:List aA)(hl:base.length+(mine.length+theirs.length)<=1000000)(hnm:∀x∈base++(mine++theirs),aa pg a [AV.str x]=ao (.str (nm x)))(hsm:∀x∈base++(mine++theirs),∀y∈base++(mine++theirs),aa pg b [AV.str x,AV.str y]=ao (.bool (same x y))):aa pg 95 [P a b,sl base,sl mine,sl theirs]=ao (vg (cb nm same base mine theirs)):=by
 have h:=VD base mine theirs hl hnm hsm _ 0 [] [] rfl WD AI AI;have hcn:=t151 base mine theirs hl;have c0:aI T 287 3 [(0,sl base),(1,sl mine),(2,sl theirs)]=some (.sl [sl base,sl mine,sl theirs]):=rfl;have cP:cl ai (P a b)=P a b:=rfl;rw[C95,cP,clS,clS,clS];have e:S95 (aa pg) ae (P a b) (sl base) (sl mine) (sl theirs)=ao (vg (cb nm same base mine theirs)):=by
  simp -implicitDefEqProofs only[S95,c0,af,hcn,aj,ln];exact h
 rw[e];exact aZ fun g=>by
  show AV.tup [cl g (sl _),.str _,.bool _]=_;rw[clS];rfl
end Go.Proofs.YtkidiopjcgeifaaGreat.MgS
namespace Go.Proofs.YtkidiopjcgeifaaGreat.MgF
open Go Go.Av Go.Av.Ap
set_option maxRecDepth 100000
def sl(l:List Fun):AV:=.sl (l.map Fun.av)
def ix{l:List Fun}{i:Nat}(h:i<l.length):ax T 25 (sl l) (qi (i:Int))=some (.ip (ab (Fun.av l[i]))):=by
 have:=bi (T:=T) (t:=25) (e:=56) rfl rfl rfl (f:=Fun.av) (l:=l) (n:=(i:Int)) (fun _=>AN) WD WD
 rw[acG,acF l i h]at this;exact this
def ap{a b:List Fun}(h:(a.length+b.length)*184<=140737488355328):dL T 25 (sl a) (sl b)=some (sl (a++b)):=by
 have:=ga (T:=T) (t:=25) (e:=56) rfl rfl rfl (f:=Fun.av) (fun _=>AN) (a:=a) (b:=b) h Vc
 simpa [sl]using this
def ln(l:List Fun):ff T 25 (sl l)=some (.int .i64 l.length):=by
 show some (AV.int .i64 (l.map Fun.av).length)=_
 grind
def VH(x:Fun):cn 12 (Fun.av x)=true:=AN
def ld(x:Fun):ay T 56 (.ip (ab (Fun.av x)))=some (Fun.av x):=AN
def cm(x:Fun):bB 12 (Fun.av x)=ao (Fun.av x):=AN
def clA(g:Nat->Nat->Nat->Nat->Bool->AV)(x:Fun):cl g (Fun.av x)=Fun.av x:=AN
def clS(g:Nat->Nat->Nat->Nat->Bool->AV)(l:List Fun):cl g (sl l)=sl l:=by
 show AV.sl (eB g (l.map Fun.av))=_;rw[eC g Fun.av (clA g)];rfl
def P(a b:FuncId):AV:=.agg [.fn (.func a) [] [],.fn (.func b) [] []]
def ok:MgP.Ok ⟨25,56,292,166,164,110,12,182,63,158,212,159,213,98⟩ Fun.av where
 ix:=ix
 ap:=fun h=>ap WD
 ln:=ln
 ld:=ld
 cm:=cm
 clA:=clA
 clS:=clS
 cut:=fun l k hk=>by
  have hok:dK 12 (l.map Fun.av)=true:=by
   simp only[dK,ae1,acQ];exact fun x _=>VH x
  have:=nE (T:=T) (t:=25) (e:=56) rfl rfl rfl (l.map Fun.av) hok (a:=0+(k:Int)) (b:=(k:Int)+1) WD WD qr
  rw[show ((k:Int)+1).toNat=k+1 by omega,show ((0:Int)+(k:Int)).toNat=k by omega]at this;refine this.trans ?_;rw[<- aex,<- ae6,adP hk,ad4 Bk,List.drop_eq_nil_of_le Bk];rfl
 lL:=fun _ _ _=>rfl
 i0:=fun _ _ _=>rfl
 i1:=fun _ _ _=>rfl
 i2:=fun _ _ _=>rfl
 lS:=fun _=>rfl
 c0:=fun _ _ _=>rfl
 p0:=fun _ _=>rfl
 p1:=fun _ _=>rfl
 pN:=fun _ _=>rfl
 pS:=fun _=>rfl
 pP:=fun _ _=>rfl
 grow:=fun n h=>by
  have e0:aa pg 212 [.hn,qi (n:Int)]=mM (aa pg) [.hn,qi (n:Int)]:=ct hOther rfl _;rw[e0];have h1:(decide (0<=(n:Int))&&decide ((n:Int)<=1000000))=true:=by simp;omega
  simp only[mM,h1,acD];rfl
 ci:=C182
 ce:=C63
 cc:=C158
 cf:=C159
 cg:=C213
 cM:=C98
 fi:=FL182_0 (aa pg)
 fe:=FL63_0 (aa pg)
 fc:=FL158_0 (aa pg)
 fd:=FL158_1 (aa pg)
 fm:=FL98_0 (aa pg)
def vg(r:List Fun×aA×Bool):AV:=.tup [sl r.1,.str r.2.1,.bool r.2.2]
def t98{a b:FuncId}{nm:Fun->aA}{same:Fun->Fun->Bool}(base mine theirs:List Fun)(hl:base.length+(mine.length+theirs.length)<=1000000)(hnm:∀x∈base++(mine++theirs),aa pg a [Fun.av x]=ao (.str (nm x)))(hsm:∀x∈base++(mine++theirs),∀y∈base++(mine++theirs),aa pg b [Fun.av x,Fun.av y]=ao (.bool (same x y))):aa pg 98 [P a b,sl base,sl mine,sl theirs]=ao (vg (cb nm same base mine theirs)):=ok.t_merge base mine theirs hl hnm hsm
end Go.Proofs.YtkidiopjcgeifaaGreat.MgF
namespace Go.Proofs.YtkidiopjcgeifaaGreat.Mg
open Go Go.Av Go.Av.Ap
set_option maxRecDepth 100000
def qu:Mod:=⟨[],[],[],[],[],false,[],[],[]⟩
def H7:aA:=[109,111,118,101]
def ZF(m:Mod)(s:aA)(b:Bool):AV:=.tup [m.av,.str s,.bool b]
def lh(name:aA)(uses:List aA)(l:List Vr)(fs:List Fun)(mv:Bool)(g:Mig):Mod:=⟨name,uses,l.map Prod.fst,l.map Prod.snd,fs,mv,g.old,g.forward,g.back⟩
def iT{α β:Type}(f:α->β)(l:List α)(i:Nat)(h:i<l.length):(l.take i).map f++[f l[i]]=(l.take (i+1)).map f:=by
 grind [List.take_add_one]
theorem Qz(l:List Vr)(hl:l.length<=1000000)(z0 z1 z2 z3 z4 z5 z6 z7 z8:AV)(name:aA)(uses:List aA)(fs:List Fun)(mv:Bool)(g:Mig):∀(n i:Nat),l.length-i=n->i<=l.length->
  ae (L37_0 (aa pg) ae) [MgV.sl l,qi l.length,qi i,z0,z1,z2,z3,z4,z5,z6,z7,z8,.str name,strs uses,aE ((l.take i).map Prod.fst),bg ((l.take i).map Prod.snd),eL fs,.bool mv,aE g.old,bg g.forward,bg g.back]=ao (ZF (lh name uses l fs mv g) [] true):=by
 intro n
 induction n with
 |zero=>
  intro i hn hi;obtain rfl:i=l.length:=WD
  have h1:¬((l.length:Int)<(l.length:Int)):=WD
  have hm:AV.agg [.str name,strs uses,aE (l.map Prod.fst),bg (l.map Prod.snd),eL fs,.bool mv,aE g.old,bg g.forward,bg g.back]=(lh name uses l fs mv g).av:=rfl;rw[FL37_0,adV];simp -implicitDefEqProofs only[L37_0,ak,au,aC,af,ah,h1,adg,acA,acI,hm,iq,aj,bu];rfl
 | succ n ih=>
  intro i hn hi;have hlt:i<l.length:=WD
  have h1:(i:Int)<(l.length:Int):=WD
  have hw:IntKind.i64.wrap ((i:Int)+1)=((i+1:Nat):Int):=aH WD;have h4:=ih (i+1) WD WD;have hix:=MgV.ix hlt;have l0:∀x:Vr,ay T 79 (.ip ((ab (fp x)).drop 0))=some (aR x.1):=fun x=>by rw[sR,gE];rfl
  have l1:∀x:Vr,ay T 54 (.ip ((ab (fp x)).drop 3))=some x.2.av:=fun x=>by rw[sR,Exp.av,Exp.cells_eq];rfl
  have b0:∀f:ca,aI T 23 1 [(0,aR f)]=some (aE [f]):=fun f=>by
   rw[show aE [f]= .sl [aR f]from rfl,gE];rfl
  have b1:∀e:Exp,aI T 24 1 [(0,e.av)]=some (bg [e]):=fun e=>by
   rw[show bg [e]= .sl [e.av]from rfl,Exp.av,Exp.cells_eq];rfl
  have a0:=LM (a:=(l.take i).map Prod.fst) (b:=[l[i].1]) qr;have a1:=Wy (a:=(l.take i).map Prod.snd) (b:=[l[i].2]) qr;rw[iT Prod.fst l i hlt]at a0;rw[iT Prod.snd l i hlt]at a1;have c0:∀l:List ca,dP (aE l)=ao (aE l):=fun _=>rfl;have c1:∀l:List Exp,dP (bg l)=ao (bg l):=fun _=>rfl;rw[FL37_0];simp -implicitDefEqProofs only[L37_0,ak,au,aC,af,ah,h1,acX,acK,hix,ZW,cmV,aj,FV0,FV1,l0,l1,b0,b1,a0,a1,c0,c1,aY,hw];exact h4
def BS(base mine theirs:Mod)(uses:List aA)(l:List Vr):Mod×aA×Bool:=
 let f:=cb Fun.name ic base.funcs mine.funcs theirs.funcs
 if f.2.2=false then(qu,f.2.1,false)else
 let m:=cb (fun _=>H7) jj (da base) (da mine) (da theirs)
 if m.2.2=false then(qu,m.2.1,false)else
 match m.1 with
 |[]=>(lh base.name uses l f.1 false ⟨[],[],[]⟩,[],true)
 |g:: _=>
  let o:=eF l (if(mine.moves&&jj ⟨mine.old,mine.forward,mine.back⟩ g)=true then mine else theirs).vars []
  if o.2=false then(qu,H7,false)else(lh base.name uses o.1 f.1 true g,[],true)
def GF(r:Mod×aA×Bool):AV:=ZF r.1 r.2.1 r.2.2
theorem Ym(l:List ca):dP (aE l)=ao (aE l):=rfl
theorem Yl(l:List Exp):dP (bg l)=ao (bg l):=rfl
theorem Yn(l:List Fun):dP (eL l)=ao (eL l):=rfl
theorem Yo(l:List aA):dP (strs l)=ao (strs l):=rfl
theorem pe:bW T false 29 []=some qu.av:=rfl
structure Sm (m:Mod):Prop where
 lim:m.Lim
 vars:m.vars.length<=1000
 init:m.init.length=m.vars.length
 uses:m.uses.length<=1000
 funcs:m.funcs.length<=1000
def qw{m:Mod}(h:m.Lim){x:Mig}(hx:x∈da m):MigLim x:=by
 unfold da at hx;split at hx
 ·rw[adk]at hx;subst hx;exact⟨h.old,h.oty,h.forward,h.fes,h.back,h.bes⟩
 ·cases hx
theorem NP(m:Mod):(da m).length<=1:=by unfold da;split<;>simp
theorem uT(l:List Vr):∀(fs:List ca)(out:List Vr),(eF l fs out).1.length<=out.length+fs.length
 |[],out=>by simp[eF]
 | f:: fs,out=>by
  unfold eF;split
  ·simp
  ·rename_i v _
   have:=uT l fs (out++[v])
   grind
def NZ(l:List Vr)(fr:List ca)(name:aA)(uses:List aA)(fs:List Fun)(g:Mig):Mod×aA×Bool:=
 if(eF l fr []).2=false then(qu,H7,false)else(lh name uses (eF l fr []).1 fs true g,[],true)
def WH(l:List Vr)(hl:l.length<=1000000)(fr:List ca)(hv:fr.length<=1000000)(name:aA)(uses:List aA)(fs:List Fun)(g:Mig)(z0 z1 z2 z3 z4 z5 z6 z7 z8 y0 y1 c0 c1 c3 c4 c5 c6 c7 c8:AV):
  K37_0 (aa pg) ae [MgV.sl l,z0,z1,z2,z3,z4,z5,z6,z7,z8,.str name,strs uses,y0,y1,eL fs,.bool true,aE g.old,bg g.forward,bg g.back,c0,c1,aE fr,c3,c4,c5,c6,c7,c8]=ao (GF (NZ l fr name uses fs g)):=by
 have ho:=t101 l fr hl hv;have hlen:=uT l fr [];rw[acS,ac8]at hlen;unfold K37_0 NZ;simp -implicitDefEqProofs only[ak,au,ho,aj,cC,acV,adc,af,b9,ah,pe,iq,bu,MgV.ln];cases h:(eF l fr []).2 with
 |false=>rfl
 |true=>
  have h2:=Qz (eF l fr []).1 WD z0 z1 z2 z3 z4 z5 z6 z7 z8 name uses fs true g _ 0 rfl WD;simp -implicitDefEqProofs only[adb,acA,acI];exact h2
def vj(g:Nat->Nat->Nat->Nat->Bool->AV)(r:Mod×aA×Bool):cl g (GF r)=GF r:=by
 show AV.tup [cl g (Mod.av _),.str _,.bool _]=_;rw[fL];rfl
theorem P3{r v:AV}(h:∀g,cl g r=v):aF (ao r)=ao v:=by
 funext hp;show R.ok (jt 6 [] r) hp=R.ok v hp;congr 1;exact h _
theorem Q2(base mine theirs:Mod)(hb:Sm base)(hm:Sm mine)(ht:Sm theirs)(uses:List aA)(l:List Vr)(hl:l.length<=1000000):
  ∃r,ae (L37_1 (aa pg) ae) [.ip (ab base.av),.ip (ab mine.av),.ip (ab theirs.av),.ip [.fn (.func 91) [] [],.fn (.func 92) [] []],.ip [.fn (.func 93) [] [],.fn (.func 94) [] []],MgV.sl l,MgV.sl l,qi l.length,qi l.length,
   .str [],.sl [],.sl [],.sl [],.sl [],.bool false,.sl [],.sl [],.sl [],.str base.name,strs uses,aE (l.map Prod.fst),bg (l.map Prod.snd),.hn,.bool false,.hn,.hn,.hn]=ao r/\∀g,cl g r=GF (BS base mine theirs uses l):=by
 have h1:¬((l.length:Int)<(l.length:Int)):=WD
 have hf:aa pg 98 [MgF.P 91 92,eL base.funcs,eL mine.funcs,eL theirs.funcs]=ao (.tup [eL (cb Fun.name ic base.funcs mine.funcs theirs.funcs).1,.str (cb Fun.name ic base.funcs mine.funcs theirs.funcs).2.1,.bool (cb Fun.name ic base.funcs mine.funcs theirs.funcs).2.2]):=
  MgF.t98 base.funcs mine.funcs theirs.funcs (by have:=hb.funcs;have:=hm.funcs;have:=ht.funcs;omega) (fun x _=>t91 x) (fun x hx y _=>t92 x y (by
   rcases acZ.1 hx with h|h
   ·exact hb.lim.fns x h
   ·rcases acZ.1 h with h|h
    ·exact hm.lim.fns x h
    ·exact ht.lim.fns x h))
 have hg:aa pg 99 [MgM.P 93 94,MgM.sl (da base),MgM.sl (da mine),MgM.sl (da theirs)]=ao (.tup [MgM.sl (cb (fun _=>H7) jj (da base) (da mine) (da theirs)).1,.str (cb (fun _=>H7) jj (da base) (da mine) (da theirs)).2.1,.bool (cb (fun _=>H7) jj (da base) (da mine) (da theirs)).2.2]):=
  MgM.t99 (da base) (da mine) (da theirs) (by grind [NP]) (fun x _=>t93 x) (fun x hx y _=>t94 x y (by
   rcases acZ.1 hx with h|h
   ·exact qw hb.lim h
   ·rcases acZ.1 h with h|h
    ·exact qw hm.lim h
    ·exact qw ht.lim h))
 have p1:ay T 166 (.ip [.fn (.func 91) [] [],.fn (.func 92) [] []])=some (MgF.P 91 92):=rfl;have p2:ay T 170 (.ip [.fn (.func 93) [] [],.fn (.func 94) [] []])=some (MgM.P 93 94):=rfl;have f4:∀cs,ar T 29 (.ip cs) 4=some (.ip (cs.drop 4)):=fun _=>rfl;have f5:∀cs,ar T 29 (.ip cs) 5=some (.ip (cs.drop 5)):=fun _=>rfl;have f6:∀cs,ar T 29 (.ip cs) 6=some (.ip (cs.drop 6)):=fun _=>rfl;have l4:∀m:Mod,ay T 25 (.ip ((ab m.av).drop 4))=some (eL m.funcs):=fun m=>AI
 have l5:∀m:Mod,ay T 4 (.ip ((ab m.av).drop 5))=some (.bool m.moves):=fun m=>AI
 have l6:∀m:Mod,ay T 27 (.ip ((ab m.av).drop 6))=some (dB ⟨m.old,m.forward,m.back⟩):=fun m=>by
  rw[show (ab m.av).drop 6=[aE m.old,bg m.forward,bg m.back] by simp];rfl
 have lm:∀m:Mod,ay T 29 (.ip (ab m.av))=some m.av:=fun m=>AI
 have mb:=t100 base;have mm:=t100 mine;have mt:=t100 theirs;rw[FL37_1];unfold BS;simp -implicitDefEqProofs only[L37_1,ak,au,aC,af,ah,h1,adg,acA,acI,p1,p2,f4,l4,hf,aj,cC,acV,adc,Yn,b9,pe,iq,lm,mb,mm,mt,bE,hg,MgM.ln,ej];generalize cb Fun.name ic base.funcs mine.funcs theirs.funcs=f;obtain⟨fl,fs,fb⟩:=f;cases fb with
 |false=>simp -implicitDefEqProofs only[adG,acK,bu];exact⟨_,rfl,fun g=>vj g (qu,_,false)⟩
 | true=>
  simp -implicitDefEqProofs only[adb,acA,ad6,acI];generalize cb (fun _=>H7) jj (da base) (da mine) (da theirs)=q;obtain⟨ql,qs,qb⟩:=q;cases qb with
  |false=>simp -implicitDefEqProofs only[adG,acK,bu];exact⟨_,rfl,fun g=>vj g (qu,_,false)⟩
  | true=>
   simp -implicitDefEqProofs only[adb,acA,ad6,acI];cases ql with
   |nil=>
    have hz:(((([]:List Mig).length:Nat):Int)== 0)=true:=rfl;have hm:aK 9 [] (AV.agg [.str base.name,strs uses,aE (l.map Prod.fst),bg (l.map Prod.snd),eL fl,.bool false,.hn,.hn,.hn])=ao (AV.agg [.str base.name,strs uses,aE (l.map Prod.fst),bg (l.map Prod.snd),eL fl,.bool false,.hn,.hn,.hn]):=rfl;have ag:∀cs,ab (.agg cs)=cs:=fun _=>rfl;simp -implicitDefEqProofs only[hz,acK,hm,aj,ag,ak,au];refine⟨_,rfl,fun g=>?_⟩;show AV.tup [AV.agg [.str base.name,cl g (strs uses),cl g (aE (l.map Prod.fst)),cl g (bg (l.map Prod.snd)),cl g (eL fl),.bool false,.sl [],.sl [],.sl []],.str [],.bool true]=_;rw[lU,wR,Px,Py];rfl
   | cons g t=>
    have hz:((((g:: t).length:Nat):Int)== 0)=false:=by rw[acM,acR];omega
    have hix:ax T 179 (MgM.sl (g:: t)) (qi 0)=some (.ip (ab (dB g))):=MgM.ix (l:=g:: t) (i:=0) AI;have hcn:aK 3 [] (dB g)=ao (dB g):=by rw[cw (ZX g)];rfl
    have hac:ab (dB g)=[aE g.old,bg g.forward,bg g.back]:=rfl;have hsm:aa pg 94 [dB ⟨mine.old,mine.forward,mine.back⟩,dB g]=ao (.bool (jj ⟨mine.old,mine.forward,mine.back⟩ g)):=t94 _ _ ⟨hm.lim.old,hm.lim.oty,hm.lim.forward,hm.lim.fes,hm.lim.back,hm.lim.bes⟩;have hc1:dP (.bool true)=ao (.bool true):=rfl;have K1:=WH l hl mine.vars (by have:=hm.vars;omega) base.name uses fl g;have K2:=WH l hl theirs.vars (by have:=ht.vars;omega) base.name uses fl g;simp -implicitDefEqProofs only[hz,acA,acI,hix,ldM,af,hc1,aj,hcn,iq,qt,f5,l5,f6,l6,hsm,bE,aV,ak,eW,ah];cases (mine.moves&&jj ⟨mine.old,mine.forward,mine.back⟩ g)with
    |true=>
     simp -implicitDefEqProofs only[acK,hac,bu,ak,au];exact⟨_,K1 _ _ _ _ _ _ _ _ _ _ _ _ _ _ _ _ _ _ _,fun g=>vj g _⟩
    |false=>
     simp -implicitDefEqProofs only[acA,acI,hac,bu,ak,au];exact⟨_,K2 _ _ _ _ _ _ _ _ _ _ _ _ _ _ _ _ _ _ _,fun g=>vj g _⟩
theorem nA{α:Type}(nm:α->aA)(same:α->α->Bool)(a b c:List α):∀(xs out:List α)(done:List aA),(dS nm same a b c xs out done).1.length<=out.length+xs.length
 |[],out,_=>by simp[dS]
 | x:: xs,out,done=>by
  have l1:=eY nm c (nm x);have l2:=eY nm b (nm x);unfold dS;rw[acR];split
  ·have:=nA nm same a b c xs out done;omega
  ·split
   ·have:=nA nm same a b c xs (out++aJ nm c (nm x)) (done++[nm x]);grind
   ·split
    ·have:=nA nm same a b c xs (out++aJ nm b (nm x)) (done++[nm x]);grind
    ·simp
def mQ{α:Type}(nm:α->aA)(same:α->α->Bool)(a b c:List α):(cb nm same a b c).1.length<=a.length+(b.length+c.length):=by
 grind [nA,cb]
def QA(base mine theirs:Mod)(hb:Sm base)(hm:Sm mine)(ht:Sm theirs)(uses:List aA)(l:List Vr)(hl:l.length<=1000000):∀(n i:Nat),l.length-i=n->i<=l.length->
  ∃r,ae (L37_1 (aa pg) ae) [.ip (ab base.av),.ip (ab mine.av),.ip (ab theirs.av),.ip [.fn (.func 91) [] [],.fn (.func 92) [] []],.ip [.fn (.func 93) [] [],.fn (.func 94) [] []],MgV.sl l,MgV.sl l,qi l.length,qi i,
   .str [],.sl [],.sl [],.sl [],.sl [],.bool false,.sl [],.sl [],.sl [],.str base.name,strs uses,aE ((l.take i).map Prod.fst),bg ((l.take i).map Prod.snd),.hn,.bool false,.hn,.hn,.hn]=ao r/\∀g,cl g r=GF (BS base mine theirs uses l):=by
 intro n
 induction n with
 |zero=>
  intro i hn hi;obtain rfl:i=l.length:=WD
  rw[adV];exact Q2 base mine theirs hb hm ht uses l hl
 | succ n ih=>
  intro i hn hi;have hlt:i<l.length:=WD
  have h1:(i:Int)<(l.length:Int):=WD
  have hw:IntKind.i64.wrap ((i:Int)+1)=((i+1:Nat):Int):=aH WD;have h4:=ih (i+1) WD WD;have hix:=MgV.ix hlt;have l0:∀x:Vr,ay T 79 (.ip ((ab (fp x)).drop 0))=some (aR x.1):=fun x=>by rw[sR,gE];rfl
  have l1:∀x:Vr,ay T 54 (.ip ((ab (fp x)).drop 3))=some x.2.av:=fun x=>by rw[sR,Exp.av,Exp.cells_eq];rfl
  have b0:∀f:ca,aI T 23 1 [(0,aR f)]=some (aE [f]):=fun f=>by
   rw[show aE [f]= .sl [aR f]from rfl,gE];rfl
  have b1:∀e:Exp,aI T 24 1 [(0,e.av)]=some (bg [e]):=fun e=>by
   rw[show bg [e]= .sl [e.av]from rfl,Exp.av,Exp.cells_eq];rfl
  have a0:=LM (a:=(l.take i).map Prod.fst) (b:=[l[i].1]) qr;have a1:=Wy (a:=(l.take i).map Prod.snd) (b:=[l[i].2]) qr;rw[iT Prod.fst l i hlt]at a0;rw[iT Prod.snd l i hlt]at a1;rw[FL37_1];simp -implicitDefEqProofs only[L37_1,ak,au,aC,af,ah,h1,acX,acK,hix,ZW,cmV,aj,FV0,FV1,l0,l1,b0,b1,a0,a1,Ym,Yl,aY,hw];exact h4
def fW(base mine theirs:Mod):Mod×aA×Bool:=
 let u:=cb (fun s=>s) (fun x y=>x== y) base.uses mine.uses theirs.uses
 if u.2.2=false then(qu,u.2.1,false)else
 let v:=cb nP m6 (varsOf base) (varsOf mine) (varsOf theirs)
 if v.2.2=false then(qu,v.2.1,false)else BS base mine theirs u.1 v.1
def qN{m:Mod}(h:m.Lim){x:Vr}(hx:x∈varsOf m):x.1.2.Lim/\x.2.Lim:=by
 have:=List.of_mem_zip (a:=x.1) (b:=x.2) hx
 exact⟨h.vty _ this.1,h.ies _ this.2⟩
def oL(m:Mod):(varsOf m).length<=m.vars.length:=by
 grind [varsOf]
theorem t37(base mine theirs:Mod)(hb:Sm base)(hm:Sm mine)(ht:Sm theirs):aa pg 37 [base.av,mine.av,theirs.av]=ao (GF (fW base mine theirs)):=by
 have hu:aa pg 95 [MgS.P 87 88,strs base.uses,strs mine.uses,strs theirs.uses]=ao (.tup [strs (cb (fun s=>s) (fun x y=>x== y) base.uses mine.uses theirs.uses).1,.str (cb (fun s:aA=>s) (fun x y=>x== y) base.uses mine.uses theirs.uses).2.1,.bool (cb (fun s:aA=>s) (fun x y=>x== y) base.uses mine.uses theirs.uses).2.2]):=
  MgS.t95 base.uses mine.uses theirs.uses (by have:=hb.uses;have:=hm.uses;have:=ht.uses;omega) (fun x _=>t87 x) (fun x _ y _=>t88 x y)
 have vb:=t97 base (by have:=hb.vars;omega) (by have:=hb.init;omega);have vm:=t97 mine (by have:=hm.vars;omega) (by have:=hm.init;omega);have vt:=t97 theirs (by have:=ht.vars;omega) (by have:=ht.init;omega);have hsum:(varsOf base).length+((varsOf mine).length+(varsOf theirs).length)<=3000:=by
  have:=oL base;have:=oL mine;have:=oL theirs
  have:=hb.vars;have:=hm.vars;have:=ht.vars
  omega
 have hv:aa pg 96 [MgV.P 89 90,MgV.sl (varsOf base),MgV.sl (varsOf mine),MgV.sl (varsOf theirs)]=ao (.tup [MgV.sl (cb nP m6 (varsOf base) (varsOf mine) (varsOf theirs)).1,.str (cb nP m6 (varsOf base) (varsOf mine) (varsOf theirs)).2.1,.bool (cb nP m6 (varsOf base) (varsOf mine) (varsOf theirs)).2.2]):=
  MgV.t96 (varsOf base) (varsOf mine) (varsOf theirs) WD (fun x _=>t89 x) (fun x hx y _=>by
   have:x.1.2.Lim/\x.2.Lim:=by
    rcases acZ.1 hx with h|h
    ·exact qN hb.lim h
    ·rcases acZ.1 h with h|h
     ·exact qN hm.lim h
     ·exact qN ht.lim h
   exact t90 x y this.1 this.2)
 have hlen:=mQ nP m6 (varsOf base) (varsOf mine) (varsOf theirs);have f0:∀cs,ar T 29 (.ip cs) 0=some (.ip (cs.drop 0)):=fun _=>rfl;have f1:∀cs,ar T 29 (.ip cs) 1=some (.ip (cs.drop 1)):=fun _=>rfl;have l0:∀m:Mod,ay T 9 (.ip ((ab m.av).drop 0))=some (.str m.name):=fun m=>AI
 have l1:∀m:Mod,ay T 22 (.ip ((ab m.av).drop 1))=some (strs m.uses):=fun m=>AI
 have lm:∀m:Mod,ay T 29 (.ip (ab m.av))=some m.av:=fun m=>AI
 have b0:∀s:aA,bW T true 29 [(0,.str s)]=some (.agg [.str s,.hn,.hn,.hn,.hn,.bool false,.hn,.hn,.hn]):=fun _=>rfl;have n0:∀s:aA,aK 9 [2,3] (.agg [.str s,.hn,.hn,.hn,.hn,.bool false,.hn,.hn,.hn])=ao (.agg [.str s,.hn,.hn,.hn,.hn,.bool false,.hn,.hn,.hn]):=fun _=>rfl;have ag:∀cs,ab (.agg cs)=cs:=fun _=>rfl;have q1:bW T false 157 [(0,.fn (.func 87) [] []),(1,.fn (.func 88) [] [])]=some (.agg [.fn (.func 87) [] [],.fn (.func 88) [] []]):=rfl;have q2:bW T false 163 [(0,.fn (.func 89) [] []),(1,.fn (.func 90) [] [])]=some (.agg [.fn (.func 89) [] [],.fn (.func 90) [] []]):=rfl;have q3:bW T false 166 [(0,.fn (.func 91) [] []),(1,.fn (.func 92) [] [])]=some (.agg [.fn (.func 91) [] [],.fn (.func 92) [] []]):=rfl;have q4:bW T false 170 [(0,.fn (.func 93) [] []),(1,.fn (.func 94) [] [])]=some (.agg [.fn (.func 93) [] [],.fn (.func 94) [] []]):=rfl;have cc:∀a b:FuncId,bB 2 (.agg [.fn (.func a) [] [],.fn (.func b) [] []])=ao (.agg [.fn (.func a) [] [],.fn (.func b) [] []]):=fun _ _=>rfl;have p1:ay T 157 (.ip [.fn (.func 87) [] [],.fn (.func 88) [] []])=some (MgS.P 87 88):=rfl;have p2:ay T 163 (.ip [.fn (.func 89) [] [],.fn (.func 90) [] []])=some (MgV.P 89 90):=rfl;rw[C37,fL,fL,fL];have e:∃r,S37 (aa pg) ae base.av mine.av theirs.av=ao r/\∀g,cl g r=GF (fW base mine theirs):=by
  unfold fW;simp -implicitDefEqProofs only[S37,f0,f1,l0,l1,lm,af,b0,n0,aj,q1,q2,q3,q4,cc,ag,p1,p2,hu,cC,acV,adc,Yo,b9,ah,pe,iq,vb,vm,vt,bE,hv,MgV.ln,ak,au];have key:=fun u v hl=>QA base mine theirs hb hm ht u v hl _ 0 rfl WD;generalize cb (fun s:aA=>s) (fun x y=>x== y) base.uses mine.uses theirs.uses=u;obtain⟨ul,us,ub⟩:=u;cases ub with
  |false=>simp -implicitDefEqProofs only[adG,acK];exact⟨_,rfl,fun g=>vj g (qu,_,false)⟩
  | true=>
   simp -implicitDefEqProofs only[adb,acA,ad6,acI];generalize cb nP m6 (varsOf base) (varsOf mine) (varsOf theirs)=v at *;obtain⟨vl,vs,vb⟩:=v;cases vb with
   |false=>simp -implicitDefEqProofs only[adG,acK];exact⟨_,rfl,fun g=>vj g (qu,_,false)⟩
   |true=>
    simp -implicitDefEqProofs only[adb,acA,ad6,acI];exact key ul vl qr
 grind [P3]
end Go.Proofs.YtkidiopjcgeifaaGreat.Mg
namespace Go.Proofs.YtkidiopjcgeifaaGreat
open Go Go.Av Go.Av.Ap
set_option maxRecDepth 100000
theorem MP(k:Int)(es:List Exp):bW T false 54 [(0,qi k),(5,bg es)]=some (Exp.mk k 0 [] [] [] es).av:=rfl
def CI(e:Exp):bB 6 e.av=ao e.av:=AN
def My(e:Exp):aK 6 [] e.av=ao e.av:=AN
def f6(o n:Int)(s m:aA)(ns:List aA)(es:List Exp):AV.agg [qi o,qi n,.str s,.str m,strs ns,bg es]=(Exp.mk o n s m ns es).av:=qj (Exp.mk o n s m ns es)
def f6n(o n:Int)(s m:aA)(es:List Exp):AV.agg [qi o,qi n,.str s,.str m,.sl [],bg es]=(Exp.mk o n s m [] es).av:=qj (Exp.mk o n s m [] es)
def Jr(e:Exp)(n:Int):aF (ao (.tup [e.av,qi n]))=ao (.tup [e.av,qi n]):=aZ fun g=>by simp[cl,eB]
def kd(o n:Int)(s m:aA)(ns:List aA)(es:List Exp):ab (Exp.mk o n s m ns es).av=[.int .i64 o,.int .i64 n,.str s,.str m,strs ns,bg es]:=bV _
def t194(e:Exp):aa pg 194 [e.av]=ao (.tup [(jc e).1.av,.int .i64 (jc e).2]):=by
 have hc1:∀n:Int,dP (.int .i64 n)=ao (.int .i64 n):=fun n=>rfl;have hc2:∀s:aA,dP (.str s)=ao (.str s):=fun s=>rfl;have hc3:∀s:List aA,dP (strs s)=ao (strs s):=fun s=>rfl;rw[C194];obtain⟨o,n,s,m,ns,es⟩:=e;have ho:o=0\/o=1\/o=2\/o=17\/o=18\/o=14\/o=16\/o=10\/o=12\/o=11\/o=13\/o=15\/(o≠0/\o≠1/\o≠2/\o≠17/\o≠18/\o≠14/\o≠16/\o≠10/\o≠12/\o≠11/\o≠13/\o≠15):=WD
 rcases ho with rfl|rfl|rfl|rfl|rfl|rfl|rfl|rfl|rfl|rfl|rfl|rfl|⟨h0,h1,h2,h17,h18,h14,h16,h10,h12,h11,h13,h15⟩
 all_goals first
  | (simp[S194,K194_0,K194_1,K194_2,MP,My,kd,f6,f6n,hc1,hc2,hc3,jc,Exp.op,Exp.n,Exp.s,Exp.m,Exp.names,Exp.args]
     exact Jr _ _)
  | (simp[S194,K194_0,K194_1,K194_2,MP,My,kd,f6,f6n,hc1,hc2,hc3,jc,Exp.op,Exp.n,Exp.s,Exp.m,Exp.names,Exp.args,h0,h1,h2,h17,h18,h14,h16,h10,h12,h11,h13,h15]
     exact Jr _ _)
theorem NR(e:Exp)(he:e.Lim):ae (L195_0 (aa pg) ae) [.ip (ab e.av),strs e.names,qi e.names.length,qi 0]=ao (.bool (Dh e.names)):=by
 have hlen:=he.names
 have hloop:∀(m i:Nat),e.names.length-i=m->i<=e.names.length->ae (L195_0 (aa pg) ae) [.ip (ab e.av),strs e.names,qi e.names.length,qi i]=ao (.bool ((List.range' i (e.names.length-i)).all (fun k=>ew e.names[k]! && (decide (k=0)||i8 e.names[k-1]! e.names[k]!))&&decide (e.names.length<=8))):=by
  intro m
  induction m with
  |zero=>
   intro i hm hi;rw[FL195_0,hm];have h1:¬((i:Int)<(e.names.length:Int)):=WD
   have h2:decide ((e.names.length:Int)<=8)=decide (e.names.length<=8):=by rw[ad9];omega
   simp[L195_0,h1,h2]
  | succ m ih=>
   intro i hm hi;have hlt:i<e.names.length:=WD
   have h1:(i:Int)<(e.names.length:Int):=WD
   have ih':=ih (i+1) WD WD;have er:List.range' i (e.names.length-i)=i:: List.range' (i+1) (e.names.length-(i+1)):=by
    rw[show e.names.length-i=(e.names.length-(i+1))+1 by omega,List.range'_succ]
   have hix:=pH (l:=e.names) (n:=(i:Int)) WD h1;rw[acG]at hix;have hw:IntKind.i64.wrap ((i:Int)+1)=((i+1:Nat):Int):=aH WD;have h2:=t70 e.names[i]!;rw[FL195_0,er,adz];generalize e.names[i]! = s at hix h2 |-;cases hn:ew s with
   |false=>
    simp_all[L195_0]
   | true=>
    rw[hn]at h2;rcases adp i with hk0|hk0
    ·subst hk0;have hix0:ax T 22 (strs e.names) (qi 0)=some (.ip (ab (.str s))):=hix;have hw0:IntKind.i64.wrap 1=1:=rfl;simp_all[L195_0]
    ·have hp:IntKind.i64.wrap ((i:Int)-1)=((i-1:Nat):Int):=by
      rw[aW WD WD];omega
     have h4:((i-1:Nat):Int)<(e.names.length:Int):=WD
     have hix2:=pH (l:=e.names) (n:=((i-1:Nat):Int)) WD h4;rw[acG]at hix2;generalize e.names[i-1]! = g at hix2 |-;have hk2:0<(i:Int):=WD
     have hk3:¬i=0:=WD
     have hle:bN T .leq 9 (.str s) (.str g)=some (.bool (!(i8 g s))):=by
      have:bN T .leq 9 (.str s) (.str g)=some (.bool (aU s g||s== g)):=rfl;rw[this];simp[i8]
     cases hs:i8 g s with
     |false=>
      simp_all[L195_0]
     |true=>
      simp_all[L195_0]
 have h:=hloop e.names.length 0 rfl (acU _);rw[aeN,IY]at h;exact h
theorem t195(e:Exp)(he:e.Lim):aa pg 195 [e.av]=ao (.bool (ju e)):=by
 rw[C195];have hs:=t70 e.s;have hm:=t70 e.m;have hbn:=NR e he;obtain⟨o,n,s,m,ns,es⟩:=e;simp only[kd,Exp.names]at hbn;simp only[Exp.s,Exp.m]at hs hm;have ho:o=0\/o=1\/o=2\/o=17\/o=18\/o=14\/o=16\/o=12\/o=13\/o=15\/(o≠0/\o≠1/\o≠2/\o≠17/\o≠18/\o≠14/\o≠16/\o≠12/\o≠13/\o≠15):=WD
 rcases ho with rfl|rfl|rfl|rfl|rfl|rfl|rfl|rfl|rfl|rfl|⟨h0,h1,h2,h17,h18,h14,h16,h12,h13,h15⟩
 ·simp[S195,K195_0,kd,ju,Exp.op,Exp.n,Exp.s,Exp.m,Exp.names,Exp.args];rfl
 ·simp_all[S195,ju,Exp.op]
 ·simp_all[S195,K195_0,ju,Exp.op,Exp.s]
 ·simp_all[S195,K195_0,ju,Exp.op,Exp.s]
 ·simp_all[S195,K195_0,ju,Exp.op,Exp.s]
 ·simp_all[S195,K195_0,ju,Exp.op,Exp.s]
 ·simp_all[S195,ju,Exp.op]
 ·simp_all[S195,K195_0,ju,Exp.op,Exp.s]
 ·simp_all[S195,K195_0,ju,Exp.op,Exp.n,Exp.s,Exp.m,Exp.names,Exp.args]
 ·have e6:bN T .leq 3 (qi es.length) (qi 6)=some (.bool (decide (es.length<=6))):=by
   have:bN T .leq 3 (qi es.length) (qi 6)=some (.bool (decide ((es.length:Int)<=6))):=rfl;rw[this];exact acY (fun b=>some (AV.bool b)) (ad9.2 WD)
  cases ha:ew s with
  |false=>simp_all[S195,K195_0,ju,Exp.op,Exp.s]
  | true=>
   rw[ha]at hs;by_cases hme:m=[]
   ·simp[S195,K195_0,kd,ju,Exp.op,Exp.n,Exp.s,Exp.m,Exp.names,Exp.args,hs,ha,hme,e6,-lR];try rfl
   ·cases hb:ew m with
    |false=>rw[hb]at hm;simp[S195,K195_0,kd,ju,Exp.op,Exp.n,Exp.s,Exp.m,Exp.names,Exp.args,hs,hm,ha,hb,hme,e6,-lR];try rfl
    |true=>rw[hb]at hm;simp[S195,K195_0,kd,ju,Exp.op,Exp.n,Exp.s,Exp.m,Exp.names,Exp.args,hs,hm,ha,hb,hme,e6,-lR];try rfl
 simp_all[S195,K195_0,ju,Exp.op]
theorem t133:∀(d:Nat),d<=100->∀(e:Exp),e.Lim->aa pg 133 [e.av,qi d]=ao (.bool (ey d e))
 |0,_,e,_=>by
  rw[C133];simp[S133,ey]
 | d+1,hd,e,he=>by
  have hlen:=he.len;have hd1:IntKind.i64.wrap (((d+1:Nat):Int)-1)=(d:Int):=Ce WD;have hloop:∀(m i:Nat),e.args.length-i=m->i<=e.args.length->ae (L133_0 (aa pg) ae) [qi ((d+1:Nat):Int),bg e.args,qi e.args.length,qi i]=ao (.bool ((e.args.drop i).all (ey d))):=by
   intro m
   induction m with
   |zero=>
    intro i hm hi;have h1:¬((i:Int)<(e.args.length:Int)):=WD
    have h2:e.args.drop i=[]:=List.drop_eq_nil_of_le WD;rw[FL133_0,h2];simp[L133_0,h1]
   |succ m ih=>
    intro i hm hi;have hlt:i<e.args.length:=WD
    have h1:(i:Int)<(e.args.length:Int):=WD
    have h2:e.args.drop i=e.args[i]:: e.args.drop (i+1):=List.drop_eq_getElem_cons hlt;have hix:=lj (l:=e.args) (n:=(i:Int)) WD h1;rw[acG,acF e.args i hlt]at hix;have hw:IntKind.i64.wrap ((i:Int)+1)=((i+1:Nat):Int):=aH WD;have hb:=t133 d WD e.args[i] (he.kid (List.getElem_mem hlt));have ih':=ih (i+1) WD WD;rw[h2,adz,FL133_0];generalize e.args[i]=x at hix hb |-;cases hr:ey d x<;>rw[hr]at hb <;>
    simp only[L133_0,ak,au,aC,af,h1,acX,ah,acK,hix,bV,LD54,acR,acS,ac8,Nat.reduceAdd,acC,adF,ady,qj,CI,aj,Cw,hd1,hb,b9,adG,adb,acA,acI,aY,hw,ih',ae4,aep]
  have hx':ae (L133_0 (aa pg) ae) [qi ((d:Int)+1),bg e.args,qi e.args.length,qi 0]=ao (.bool (e.args.all (ey d))):=hloop e.args.length 0 rfl (acU _);have hc:=t194 e;have hl:=t195 e he;rw[C133,qH];unfold pt;generalize (jc e).1=c at hc |-;generalize (jc e).2=n at hc |-;have g1:(((d:Int)+1)== 0)=false:=by rw[acM];omega
  have x0:jK (.tup [c.av,qi n]) 0=some c.av:=rfl;have x1:jK (.tup [c.av,qi n]) 1=some (.int .i64 n):=rfl;have e1:bN T .neq 3 (qi c.n) (qi e.n)=some (.bool (!(c.n== e.n))):=rfl;have e2:bN T .neq 9 (.str c.s) (.str e.s)=some (.bool (!(c.s== e.s))):=rfl;have e3:bN T .neq 9 (.str c.m) (.str e.m)=some (.bool (!(c.m== e.m))):=rfl;have e4:bN T .neq 3 (qi c.names.length) (qi e.names.length)=some (.bool (!((c.names.length:Int)== (e.names.length:Int)))):=rfl;have e5:bN T .neq 3 (qi n) (qi e.args.length)=some (.bool (!(n== (e.args.length:Int)))):=rfl;have e6:bN T .geq 3 (qi n) (qi 0)=some (.bool (!(decide (n<0)))):=by
   have:bN T .geq 3 (qi n) (qi 0)=some (.bool (decide (0<=n))):=rfl;rw[this,<- decide_not];exact acY (fun b=>some (AV.bool b)) (ad9.2 WD)
  have e7:bN T .lss 3 (qi e.op) (qi 0)=some (.bool (!(decide (0<=e.op)))):=by
   have:bN T .lss 3 (qi e.op) (qi 0)=some (.bool (decide (e.op<0))):=rfl;rw[this,<- decide_not];exact acY (fun b=>some (AV.bool b)) (ad9.2 WD)
  have e8:bN T .geq 3 (qi e.op) (qi 19)=some (.bool (!(decide (e.op<19)))):=by
   have:bN T .geq 3 (qi e.op) (qi 19)=some (.bool (decide (19<=e.op))):=rfl;rw[this,<- decide_not];exact acY (fun b=>some (AV.bool b)) (ad9.2 WD)
  generalize (c.n== e.n)=b1 at e1 |-;generalize (c.s== e.s)=b2 at e2 |-;generalize (c.m== e.m)=b3 at e3 |-;generalize ((c.names.length:Int)== (e.names.length:Int))=b4 at e4 |-;generalize (n== (e.args.length:Int))=b5 at e5 |-;generalize decide (n<0)=b6 at e6 |-;generalize decide (0<=e.op)=b7 at e7 |-;generalize decide (e.op<19)=b8 at e8 |-;generalize ju e=bl at hl |-;generalize e.args.all (ey d)=bx at hx' |-;cases b7 with
  |false=>simp[S133,g1,e7,-aC]
  | true=>
   cases b8 with
   |false=>simp_all[S133]
   |true=>
    cases b6<;>cases b5<;>cases b1<;>cases b2<;>cases b3<;>cases b4<;>cases bl<;>simp[S133,g1,hc,x0,x1,CI,hl,hx',e1,e2,e3,e4,e5,e6,e7,e8,-aC,-oQ,-jI]
def t73(e:Exp)(he:e.Lim):aa pg 73 [e.av]=ao (.bool (Lp e)):=by
 have hb':aa pg 133 [e.av,qi 12]=ao (.bool (ey 12 e)):=t133 12 WD e he;rw[C73];simp[S73,hb']
def setRow(ns:List aA):List AV:=ns.map fun s=>.tup [.str s,.bool true]
theorem UZ(a b:aA):vK T 20 9 (.str a) (.str b)=some (a== b):=rfl
theorem uC(s:aA):(ns:List aA)->(i:Nat)->(ns.contains s=false/\gC T 9 (.str s) (setRow ns) i=some none)\/(ns.contains s=true/\∃(j:Nat)(k:AV),gC T 9 (.str s) (setRow ns) i=some (some (j,k,.bool true)))
 |[],i=>.inl ⟨rfl,rfl⟩
 | x:: ns,i=>by
  show (_/\gC T 9 (.str s) (.tup [.str x,.bool true]:: setRow ns) i=_)\/(_/\∃(j:Nat)(k:AV),gC T 9 (.str s) (.tup [.str x,.bool true]:: setRow ns) i=_);unfold gC;rw[UZ,List.contains_cons];cases h:s== x with
  |true=>grind
  |false=>
   rcases uC s ns (i+1)with⟨h1,h2⟩|⟨h1,j,k,h2⟩
   all_goals grind
theorem yN{h:Hp}{l:Nat}{ns:List aA}(hl:h[l]? = some [.tup (setRow ns)])(s:aA):iO T 138 (.mp l) (.str s) false h= .ok (.bool (ns.contains s)) h:=by
 have e:pF T 138 (setRow ns) (.str s) false=(match gC T 9 (.str s) (setRow ns) 0 with
   |some (some (_,_,v))=>some v
   |some none=>some (.bool false)
   |none=>none):=rfl
 grind [iO,mE,uC]
theorem Dn{h:Hp}{l:Nat}{ns:List aA}(hl:h[l]? = some [.tup (setRow ns)])(s:aA)(hs:ns.contains s=false):tZ T 138 (.mp l) (.str s) (.bool true) h= .ok (.tup []) (h.set l [.tup (setRow (ns++[s]))]):=by
 have e:tZ T 138 (.mp l) (.str s) (.bool true) h=(match h[l]? with
   |some [.tup es]=>(match uY T 9 es (.str s) (.bool true)with
    |some es'=>.ok (.tup []) (h.set l [.tup es'])
    |none=>.fail)
   |_=>.fail):=rfl
 grind [uY,uC,setRow]
theorem VB(l:List ca)(hb:l.length<=140737488355328)(ht:∀f∈l,f.2.Lim)(most:Int)(q:Nat):∀(n i:Nat),l.length-i=n->i<=l.length->∀(seen:List aA)(h:Hp),h[q]? = some [.tup (setRow seen)]->
  ∃h',ae (L71_0 (aa pg) ae) [aE l,qi most,.mp q,aE l,qi l.length,qi i] h= .ok (.bool (FQ seen (l.drop i)&&decide ((l.length:Int)<=most))) h':=by
 intro n
 induction n with
 |zero=>
  intro i hn hi seen h hq;rw[FL71_0];have h1:¬((i:Int)<(l.length:Int)):=WD
  have h2:l.drop i=[]:=List.drop_eq_nil_of_le WD;rw[h2];exact⟨h,by simp[L71_0,h1,FQ,ao]⟩
 | succ n ih=>
  intro i hn hi seen h hq;have hlt:i<l.length:=WD
  have h1:(i:Int)<(l.length:Int):=WD
  have h2:l.drop i=l[i]:: l.drop (i+1):=List.drop_eq_getElem_cons hlt;have hw:IntKind.i64.wrap ((i:Int)+1)=((i+1:Nat):Int):=aH WD;have hix:=lP (l:=l) (n:=(i:Int)) WD h1;rw[acG,acF l i hlt]at hix;have hfl:=ht _ (List.getElem_mem hlt);have ih':=fun s=>ih (i+1) WD WD (seen++[s]) (h.set q [.tup (setRow (seen++[s]))]);have hql:q<h.length:=(acJ.1 hq).1;rw[h2];generalize l[i]=f at hix hfl |-;have hlk:=yN hq f.1;have hnm:=t70 f.1;have hty:=t72 f.2 hfl;have hcf:bB 3 (aR f)=ao (aR f):=by rw[bZ (oD f),kc,ye]
  generalize hcode:ae (L71_0 (aa pg) ae) [aE l,qi most,.mp q,aE l,qi l.length,qi i] h=code;rw[FL71_0]at hcode;simp -implicitDefEqProofs only[L71_0,ak,au,aC,af,h1,acX,ah,acK,hix,kc,LD79,acR,acS,ac8,Nat.reduceAdd,acC,adF,ady,ye,hcf,aj,FA79_0,FA79_1,ac0,ac5,LD9]at hcode;rw[aS hlk]at hcode;have eo:FQ seen (f:: l.drop (i+1))=(!(seen.contains f.1)&&ew f.1&&cV f.2&&FQ (seen++[f.1]) (l.drop (i+1))):=rfl;rw[eo];cases hc:seen.contains f.1 with
  |true=>
   rw[hc]at hcode;refine⟨h,?_⟩;rw[<- hcode];simp[ao]
  | false=>
   rw[hc]at hcode;cases hn2:ew f.1 with
   |false=>
    rw[hn2]at hnm;refine⟨h,?_⟩;simp_all[ao]
   | true=>
    rw[hn2]at hnm;cases hr:cV f.2 with
    |false=>
     rw[hr]at hty;refine⟨h,?_⟩;simp_all[ao]
    |true=>
     rw[hr]at hty;obtain⟨h',e'⟩:=ih' f.1 qr;refine⟨h',?_⟩;have hp:=Dn hq f.1 hc;rw[<- hcode];simp -implicitDefEqProofs only[hnm,hty,aj,cD,b9,adb,adG,ak,cy,ah,acA,acI,LD52,acR,acS,ac8,Nat.reduceAdd,acC,acK,adF,ady,iU,af];rw[aS hp];simp_all
theorem t71(l:List ca)(hb:l.length<=140737488355328)(ht:∀f∈l,f.2.Lim)(most:Int):aa pg 71 [aE l,qi most]=ao (.bool (jP l most)):=by
 obtain⟨h',e⟩:=VB l hb ht most 0 l.length 0 rfl (acU _) [] ([]++[[.tup []]]) rfl;rw[ac0]at e;rw[C71];funext hp;have key:S71 (aa pg) ae (cl ai (aE l)) (cl ai (qi most)) []= .ok (.bool (jP l most)) h':=by
  rw[wR,UT];have hn:jN []= .ok (.mp 0) ([]++[[.tup []]]):=rfl;simp -implicitDefEqProofs only[S71];rw[aS hn];simp only[oM,af];exact e
 show aF _ hp=R.ok (.bool (jP l most)) hp;unfold aF;rw[key];rfl
def t74(l:List Exp)(hb:l.length<=140737488355328)(ht:∀e∈l,e.Lim)(n:Int):aa pg 74 [bg l,qi n]=ao (.bool (l.all Lp&&((l.length:Int)== n))):=by
 have hloop:∀(m i:Nat),l.length-i=m->i<=l.length->ae (L74_0 (aa pg) ae) [bg l,qi n,bg l,qi l.length,qi i]=ao (.bool ((l.drop i).all Lp&&((l.length:Int)== n))):=by
  intro m
  induction m with
  |zero=>
   intro i hm hi;rw[FL74_0];have h1:¬((i:Int)<(l.length:Int)):=WD
   have h2:l.drop i=[]:=List.drop_eq_nil_of_le WD;simp[L74_0,h1,h2]
  |succ m ih=>
   intro i hm hi;have hlt:i<l.length:=WD
   have h1:(i:Int)<(l.length:Int):=WD
   have h2:l.drop i=l[i]:: l.drop (i+1):=List.drop_eq_getElem_cons hlt;have hw:IntKind.i64.wrap ((i:Int)+1)=((i+1:Nat):Int):=aH WD;have hix:=lj (l:=l) (n:=(i:Int)) WD h1;rw[acG,acF l i hlt]at hix;have hr:=t73 l[i] (ht _ (List.getElem_mem hlt));have ih':=ih (i+1) WD WD;rw[h2,adz,FL74_0];generalize l[i]=e at hix hr |-;cases hb2:Lp e<;>rw[hb2]at hr <;>
   simp only[L74_0,ak,au,aC,af,h1,acX,ah,acK,hix,bV,LD54,acR,acS,ac8,Nat.reduceAdd,acC,adF,ady,qj,CI,aj,hr,b9,adb,adG,acA,acI,aY,hw,ih',aep,ae4]
 have h:=hloop l.length 0 rfl (acU _);rw[ac0]at h;have h':ae (L74_0 (aa pg) ae) [bg l,qi n,bg l,qi l.length,qi 0]=ao (.bool (l.all Lp&&((l.length:Int)== n))):=h;rw[C74];simp[S74,h']
def PH(f:Fun):bB 12 f.av=ao f.av:=AN
theorem QC(m:Ap.Mod)(hm:m.Lim)(q:Nat)(R:Bool)(hend:∀h:Hp,∃h',ae (L29_0 (aa pg) ae) [.ip (ab m.av),.mp q,eL m.funcs,qi m.funcs.length,qi m.funcs.length] h= .ok (.bool R) h'):∀(n i:Nat),m.funcs.length-i=n->i<=m.funcs.length->∀(seen:List aA)(h:Hp),h[q]? = some [.tup (setRow seen)]->
  ∃h',ae (L29_0 (aa pg) ae) [.ip (ab m.av),.mp q,eL m.funcs,qi m.funcs.length,qi i] h= .ok (.bool (wj seen (m.funcs.drop i)&&R)) h':=by
 have hb:=hm.funcs;intro n
 induction n with
 |zero=>
  intro i hn hi seen h hq;have h2:m.funcs.drop i=[]:=List.drop_eq_nil_of_le WD;obtain rfl:i=m.funcs.length:=WD
  rw[h2];exact hend h
 | succ n ih=>
  intro i hn hi seen h hq;have hlt:i<m.funcs.length:=WD
  have h1:(i:Int)<(m.funcs.length:Int):=WD
  have h2:m.funcs.drop i=m.funcs[i]:: m.funcs.drop (i+1):=List.drop_eq_getElem_cons hlt;have hw:IntKind.i64.wrap ((i:Int)+1)=((i+1:Nat):Int):=aH WD;have hix:=sW (l:=m.funcs) (n:=(i:Int)) WD h1;rw[acG,acF m.funcs i hlt]at hix;have hfl:=hm.fns _ (List.getElem_mem hlt);have ih':=fun s=>ih (i+1) WD WD (seen++[s]) (h.set q [.tup (setRow (seen++[s]))]);have hql:q<h.length:=(acJ.1 hq).1;rw[h2];generalize m.funcs[i]=f at hix hfl |-;have hlk:=yN hq f.name;have hnm:=t70 f.name;have hps:=t71 f.params hfl.params hfl.pty 6;have hty:=t72 f.result hfl.result;have hre:=t73 f.body hfl.body;have hex:bN T .andNot 3 (qi f.effects) (qi 15)=some (.int .i64 (kH f.effects 15)):=rfl;generalize hcode:ae (L29_0 (aa pg) ae) [.ip (ab m.av),.mp q,eL m.funcs,qi m.funcs.length,qi i] h=code;rw[FL29_0]at hcode;simp -implicitDefEqProofs only[L29_0,ak,au,aC,af,h1,acX,ah,acK,hix,oN,LD56,acR,acS,ac8,Nat.reduceAdd,acC,adF,ady,MY,PH,aj,FA56_0,ac0,LD9]at hcode;rw[aS hlk]at hcode;have eo:wj seen (f:: m.funcs.drop (i+1))=(!(seen.contains f.name)&&KG f&&wj (seen++[f.name]) (m.funcs.drop (i+1))):=rfl;rw[eo];unfold KG;cases hc:seen.contains f.name with
  |true=>
   rw[hc]at hcode;refine⟨h,?_⟩;rw[<- hcode];simp[ao]
  | false=>
   rw[hc]at hcode;cases hn2:ew f.name with
   |false=>rw[hn2]at hnm;refine⟨h,?_⟩;rw[<- hcode];simp[hnm,ao]
   | true=>
    rw[hn2]at hnm;cases hp2:jP f.params 6 with
    |false=>rw[hp2]at hps;refine⟨h,?_⟩;rw[<- hcode];simp[hnm,hps,ao]
    | true=>
     rw[hp2]at hps;cases hr:cV f.result with
     |false=>rw[hr]at hty;refine⟨h,?_⟩;simp_all[ao]
     | true=>
      rw[hr]at hty;cases hrb:Lp f.body with
      |false=>rw[hrb]at hre;refine⟨h,?_⟩;simp_all[ao]
      | true=>
       rw[hrb]at hre;by_cases he:kH f.effects 15=0
       ·obtain⟨h',e'⟩:=ih' f.name qr;refine⟨h',?_⟩;have hp:=Dn hq f.name hc;rw[<- hcode];have e'':=e';simp only[bu]at e'';simp[hnm,hps,hty,hre,hex,he]
        grind [aS]
       ·refine⟨h,?_⟩;rw[<- hcode];simp_all[kH,ao]
def YE(m:Ap.Mod)(hm:m.Lim)(q:Nat)(h:Hp):∃h',ae (L29_0 (aa pg) ae) [.ip (ab m.av),.mp q,eL m.funcs,qi m.funcs.length,qi m.funcs.length] h= .ok (.bool (BR m)) h':=by
 have hnm:=t70 m.name;have hv:=t71 m.vars hm.vars hm.vty 8;have hi:=t74 m.init hm.init hm.ies m.vars.length;have ho:=t71 m.old hm.old hm.oty 8;have hf:=fun n=>t74 m.forward hm.forward hm.fes n;have hb:=t74 m.back hm.back hm.bes m.old.length;refine⟨h,?_⟩;rw[FL29_0];unfold BR;generalize jP m.vars 8=b1 at hv |-;generalize (m.init.all Lp&&((m.init.length:Int)== (m.vars.length:Int)))=b2 at hi |-;generalize jP m.old 8=b3 at ho |-;generalize (m.back.all Lp&&((m.back.length:Int)== (m.old.length:Int)))=b4 at hb |-;cases hn:ew m.name with
 |false=>simp_all[L29_0,ao]
 | true =>
  rw[hn]at hnm;by_cases hu:m.uses.length<=12
  ·have hu':¬(12<(m.uses.length:Int)):=WD
   by_cases hfn:m.funcs.length<=30
   ·have hfn':¬(30<(m.funcs.length:Int)):=WD
    cases b1 with
    |false=>simp_all[L29_0,ao]
    | true=>
     cases b2 with
     |false=>simp_all[L29_0,ao]
     | true=>
      cases hmv:m.moves with
      |true=>
       have hfv:=hf m.vars.length;rw[acL rfl];simp_all[L29_0,K29_0,ao]
      | false=>
       have hfv:=hf 0;rw[acE Vc];generalize (m.forward.all Lp&&((m.forward.length:Int)== 0))=b5 at hfv |-;by_cases hz:0<m.old.length
       ·have hz':0<(m.old.length:Int):=WD
        have hz2:¬m.old.length=0:=WD
        simp_all[L29_0,ao]
       simp_all[ao,L29_0,K29_0]
   ·have hfn':30<(m.funcs.length:Int):=WD
    simp[L29_0,hnm,hu,hu',hfn,hfn',ao]
  ·have hu':12<(m.uses.length:Int):=WD
   simp[L29_0,hnm,hu,hu',ao]
theorem QD(m:Ap.Mod)(hm:m.Lim)(q:Nat)(R:Bool)(hend:∀h:Hp,∃h',ae (L29_1 (aa pg) ae) [.ip (ab m.av),.mp q,strs m.uses,qi m.uses.length,qi m.uses.length] h= .ok (.bool R) h'):∀(n i:Nat),m.uses.length-i=n->i<=m.uses.length->∀(seen:List aA)(h:Hp),h[q]? = some [.tup (setRow seen)]->
  ∃h',ae (L29_1 (aa pg) ae) [.ip (ab m.av),.mp q,strs m.uses,qi m.uses.length,qi i] h= .ok (.bool (FS seen (m.uses.drop i)&&R)) h':=by
 have hb:=hm.uses;intro n
 induction n with
 |zero=>
  intro i hn hi seen h hq;have h2:m.uses.drop i=[]:=List.drop_eq_nil_of_le WD;obtain rfl:i=m.uses.length:=WD
  rw[h2];exact hend h
 | succ n ih=>
  intro i hn hi seen h hq;have hlt:i<m.uses.length:=WD
  have h1:(i:Int)<(m.uses.length:Int):=WD
  have h2:m.uses.drop i=m.uses[i]:: m.uses.drop (i+1):=List.drop_eq_getElem_cons hlt;have hw:IntKind.i64.wrap ((i:Int)+1)=((i+1:Nat):Int):=aH WD;have hix:=pH (l:=m.uses) (n:=(i:Int)) WD h1;rw[acG,acF m.uses i hlt]at hix;have ih':=fun s=>ih (i+1) WD WD (seen++[s]) (h.set q [.tup (setRow (seen++[s]))]);have hql:q<h.length:=(acJ.1 hq).1;rw[h2];generalize m.uses[i]=s at hix |-;have hlk:=yN hq s;have hnm:=t70 s;generalize hcode:ae (L29_1 (aa pg) ae) [.ip (ab m.av),.mp q,strs m.uses,qi m.uses.length,qi i] h=code;rw[FL29_1]at hcode;simp -implicitDefEqProofs only[L29_1,ak,au,aC,af,h1,acX,ah,acK,hix,gm,LD9]at hcode;rw[aS hlk]at hcode;have eo:FS seen (s:: m.uses.drop (i+1))=(!(seen.contains s)&&ew s&&FS (seen++[s]) (m.uses.drop (i+1))):=rfl;rw[eo];cases hc:seen.contains s with
  |true=>
   rw[hc]at hcode;refine⟨h,?_⟩;rw[<- hcode];simp[ao]
  | false=>
   rw[hc]at hcode;cases hn2:ew s with
   |false=>rw[hn2]at hnm;refine⟨h,?_⟩;rw[<- hcode];simp[hnm,ao]
   |true=>
    rw[hn2]at hnm;obtain⟨h',e'⟩:=ih' s qr;refine⟨h',?_⟩;have hp:=Dn hq s hc;rw[<- hcode];have e'':=e';simp only[bu]at e'';simp[hnm]
    grind [aS]
theorem t29(m:Ap.Mod)(hm:m.Lim):aa pg 29 [m.av]=ao (.bool (cU m)):=by
 have hend:∀h:Hp,∃h',ae (L29_1 (aa pg) ae) [.ip (ab m.av),.mp 0,strs m.uses,qi m.uses.length,qi m.uses.length] h= .ok (.bool (wj [] m.funcs&&BR m)) h':=fun h=>by
  have h1:¬((m.uses.length:Int)<(m.uses.length:Int)):=WD
  obtain⟨h',e⟩:=QC m hm h.length (BR m) (fun h=>YE m hm _ h) m.funcs.length 0 rfl (acU _) [] (h++[[.tup []]]) (by simp[setRow]);rw[ac0]at e;refine⟨h',?_⟩;rw[FL29_1];have hn:jN h= .ok (.mp h.length) (h++[[.tup []]]):=rfl;simp only[bu]at e;simp -implicitDefEqProofs only[L29_1,ak,au,aC,af,h1,adg,ah,acA,acI];rw[aS hn];simp_all
 obtain⟨h',e⟩:=QD m hm 0 _ hend m.uses.length 0 rfl (acU _) [] ([]++[[.tup []]]) rfl;rw[ac0]at e;rw[C29];funext hp;have key:S29 (aa pg) ae (cl ai m.av) []= .ok (.bool (cU m)) h':=by
  have hn:jN []= .ok (.mp 0) ([]++[[.tup []]]):=rfl;simp only[bu]at e;rw[fL];simp -implicitDefEqProofs only[S29];rw[aS hn];simp only[bu,FA29_1,ac5,ac0,af,LD22,lk];exact e
 show aF _ hp=R.ok (.bool (cU m)) hp;unfold aF;rw[key];rfl
def ZE(q:Nat)(m:Ap.Mod)(mp:AV)(h:Hp):Tr Ty->Av.R AV
 |.ok t n=>.ok (.tup [t.av,qi 0]) (h.set q (bz m mp n))
 |.er b n=>.ok (.tup [ty0.av,qi b]) (h.set q (bz m mp n))
def trL(q:Nat)(m:Ap.Mod)(mp:AV)(h:Hp)(acc:List Ty):Tr (List Ty)->Av.R AV
 |.ok ts n=>.ok (.tup [kN (acc++ts),qi 0]) (h.set q (bz m mp n))
 |.er b n=>.ok (.tup [.sl [],qi b]) (h.set q (bz m mp n))
def rN(q:Nat)(m:Ap.Mod)(mp:AV)(fs:List Face)(d:Nat):Prop:=∀(ls:List ca)(e:Exp)(n:Int)(h:Hp),ey d e=true->e.Lim->(∀z∈ls,gA z.2)->ls.length+d<=1000000->JR h q m mp fs n->
 aa pg 31 [.hp q 0,aE ls,e.av] h=ZE q m mp h (cz (gH m fs) d ls e n)/\∀t n',cz (gH m fs) d ls e n= .ok t n'->gA t
def QW{q:Nat}{m:Ap.Mod}{mp:AV}{fs:List Face}{d:Nat}(P:rN q m mp fs d)(ls:List ca)(hls:∀z∈ls,gA z.2)(hll:ls.length+d<=1000000)(es:List Exp)(hes:es.length<=140737488355328)(he:∀e∈es,ey d e=true/\e.Lim):∀(k i:Nat)(acc:List Ty)(n:Int)(h:Hp),es.length-i=k->i<=es.length->acc.length<=i->es.length<=1000000->JR h q m mp fs n->
  ae (L80_0 (aa pg) ae) [.hp q 0,aE ls,kN acc,bg es,qi es.length,qi i] h=trL q m mp h acc (gM (cz (gH m fs) d ls) (es.drop i) n)/\∀ts n',gM (cz (gH m fs) d ls) (es.drop i) n= .ok ts n'->ts.length=es.length-i/\∀t∈ts,gA t:=by
 intro k
 induction k with
 | zero=>
  intro i acc n h hk hi ha hs R;have h1:¬((i:Int)<(es.length:Int)):=WD
  have h2:es.drop i=[]:=List.drop_eq_nil_of_le WD;rw[h2];refine⟨?_,fun ts n' ht=>?_⟩
  ·rw[FL80_0];show _=Av.R.ok (AV.tup [kN (acc++[]),qi 0]) (h.set q (bz m mp n));rw[R.same,adL];simp[L80_0,h1];rfl
  ·cases ht
   grind
 | succ k ih=>
  intro i acc n h hk hi ha hs R;have hlt:i<es.length:=WD
  have h1:(i:Int)<(es.length:Int):=WD
  have h2:es.drop i=es[i]:: es.drop (i+1):=List.drop_eq_getElem_cons hlt;have hw:IntKind.i64.wrap ((i:Int)+1)=(i:Int)+1:=aH WD;have hix:=lj (l:=es) (n:=(i:Int)) WD h1;rw[acG,acF es i hlt]at hix;obtain⟨hr,hl⟩:=he es[i] (List.getElem_mem hlt);obtain⟨p1,p2⟩:=P ls es[i] n h hr hl hls hll R;rw[h2];have hne:=lY (gH m fs) d ls es[i] n;generalize es[i]=e at hix hr hl p1 p2 hne |-;generalize hcode:ae (L80_0 (aa pg) ae) [.hp q 0,aE ls,kN acc,bg es,qi es.length,qi i] h=code;rw[FL80_0]at hcode;simp -implicitDefEqProofs only[L80_0,ak,au,aC,af,h1,acX,ah,acK,hix,bV,LD54,acR,acS,ac8,Nat.reduceAdd,acC,adF,ady,qj,CI,aj]at hcode;cases ht:cz (gH m fs) d ls e n with
  | er b n'=>
   rw[ht]at p1;have hb:(b != 0)=true:=aek.2 (hne b n' ht);have hz:bB 2 ty0.av=ao ty0.av:=Av.kg ty0;rw[aS p1]at hcode;simp -implicitDefEqProofs only[cC,acV,adc,af,hz,aj,jI,hb,ah,acK]at hcode;have e1:gM (cz (gH m fs) d ls) (e:: es.drop (i+1)) n= .er b n':=by
    simp only[gM,ie.bind,ht]
   rw[e1];exact⟨hcode.symm,fun ts n'' h3=>by cases h3⟩
  | ok t n'=>
   rw[ht]at p1;rw[aS p1]at hcode;have R':=R.set n';obtain⟨i1,i2⟩:=ih (i+1) (acc++[t]) n' (h.set q (bz m mp n')) WD WD Bk hs R';have hap:=Sj (a:=acc) (b:=[t]) Bk;have hsl:aI T 99 1 [(0,t.av)]=some (kN [t]):=by cases t;rfl
   have i1':ae (L80_0 (aa pg) ae) [.hp q 0,aE ls,kN (acc++[t]),bg es,qi es.length,qi ((i:Int)+1)] (h.set q (bz m mp n'))=_:=i1;simp -implicitDefEqProofs only[cC,acV,adc,af,Av.kg,aj,jI,bne_self_eq_false,ah,acA,acI,jq,LD52,acR,acS,ac8,Nat.reduceAdd,acC,acK,adF,ady,iU,hsl,hap,aY,hw,i1']at hcode;have e1:gM (cz (gH m fs) d ls) (e:: es.drop (i+1)) n=(match gM (cz (gH m fs) d ls) (es.drop (i+1)) n' with|.ok ts n''=>.ok (t:: ts) n''|.er b n''=>.er b n''):=by
    simp only[gM,ie.bind,ht];cases gM (cz (gH m fs) d ls) (es.drop (i+1)) n'<;>rfl
   rw[e1];cases hL:gM (cz (gH m fs) d ls) (es.drop (i+1)) n' with
   |er b n''=>
    rw[hL]at hcode;refine⟨?_,fun ts n'' h3=>by cases h3⟩;rw[<- hcode];show Av.R.ok _ _=Av.R.ok _ _;rw[acl]
   | ok ts n''=>
    rw[hL]at hcode;obtain⟨j1,j2⟩:=i2 ts n'' hL;refine⟨?_,fun us n3 h3=>?_⟩
    ·rw[<- hcode];show Av.R.ok _ _=Av.R.ok _ _;simp_all
    grind
def q80{q:Nat}{m:Ap.Mod}{mp:AV}{fs:List Face}{d:Nat}(P:rN q m mp fs d)(ls:List ca)(hls:∀z∈ls,gA z.2)(hll:ls.length+d<=1000000)(es:List Exp)(hes:es.length<=1000000)(he:∀e∈es,ey d e=true/\e.Lim)(n:Int)(h:Hp)(R:JR h q m mp fs n):
  aa pg 80 [.hp q 0,aE ls,bg es] h=trL q m mp h [] (gM (cz (gH m fs) d ls) es n)/\∀ts n',gM (cz (gH m fs) d ls) es n= .ok ts n'->ts.length=es.length/\∀t∈ts,gA t:=by
 obtain⟨h1,h2⟩:=QW P ls hls hll es WD he es.length 0 [] n h rfl (acU _) (acU _) hes R;rw[ac0]at h1 h2;refine⟨?_,fun ts n' ht=>h2 ts n' ht⟩;rw[<- h1,C80];simp only[S80,xj,af];rfl
end Go.Proofs.YtkidiopjcgeifaaGreat
