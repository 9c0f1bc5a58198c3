/- What the functions compute, part 8. Conditions: bounds. -/
import Derived.Test.YtighgcgmocboaaaGreatDoorTg
import Derived.Lib.SmallJoins
set_option linter.defProp false
set_option linter.unusedSimpArgs false
set_option linter.unusedVariables false
namespace Go.Proofs.YtighgcgmocboaaaGreatDoor
open Go Go.Av Go.Av.Ap
set_option maxRecDepth 100000
theorem fP{α:Type}(one:Rs->α×Rs)(P:α->Prop)(h1:∀r,P (one r).1)(n:Int)(cap:Nat):∀(f:Nat)(acc:List α)(r:Rs),(∀x∈acc,P x)->acc.length<=cap+1->(∀x∈(aR one n cap f acc r).1,P x)/\(aR one n cap f acc r).1.length<=cap+1
 |0,acc,r,h,hl=>⟨h,hl⟩
 | f+1,acc,r,h,hl=>by
  rw[aR];split
  ·rename_i hc;exact fP one P h1 n cap f _ _ (fun x hx=>by
    rcases N5.1 hx with hx|hx
    ·exact h x hx
    ·rw[OL]at hx;subst hx;exact h1 r) (by simp;omega)
  ·exact⟨h,hl⟩
theorem mz{k:Int}{fs:List cO}(h2:fs.length<=140737488355328)(h3:∀v∈fs,v.2.Lim):(Ty.mk k fs).Lim:=fun j=>match j with
 |0=>trivial
 |j+1=>⟨h2,fun x hx=>h3 x hx j⟩
theorem mM:∀(d:Nat)(r:Rs),(aW d r).1.Lim
 |0,r=>mz (by simp) (fun v hv=>by cases hv)
 | d+1,r=>by
  rw[aW];split
  ·have h:=fP (jN (aW d)) (fun f=>f.2.Lim) (fun r=>mM d _) (aN 59 (aN 59 r).2).1 8 10 [] (aN 59 (aN 59 r).2).2 (by simp) (by simp);exact mz (by omega) h.1
  ·exact mz (by simp) (fun v hv=>by cases hv)
def zo(e:UInt8)(r:Rs):(aN e r).1<=9223372036854775807:=by
 unfold aN;split
 ·simp
 ·split
  ·rename_i hv
   have:=Lib.atoiAll_bounds hv
   split
   ·exact this.2
   ·simp
  ·simp
def Dy(s:Sig):Prop:=s.Lim/\tQ s
def EV(r:Rs):Dy (kP r).1:=by
 have h:=fP (aW 4) (fun t=>t.Lim) (fun r=>mM 4 r) (aN 59 (bb r).2).1 6 8 [] (aN 59 (bb r).2).2 (by simp) (by simp);unfold kP;refine⟨⟨by have:=h.2;simp only;omega,h.1,mM 4 _⟩,?_,zo 59 _⟩
 have:=pD 59 (aW 4 (aR (aW 4) (aN 59 (bb r).2).1 6 8 [] (aN 59 (bb r).2).2).2).2
 simp only;omega
def qm(s:aQ):(g9 s).Lim/\∀x∈(g9 s).funcs,tQ x:=by
 have h:=fP kP Dy EV (aN 59 (bb (s,false)).2).1 30 32 [] (aN 59 (bb (s,false)).2).2 (by simp) (by simp);unfold g9;exact⟨⟨by have:=h.2;simp only;omega,fun x hx=>(h.1 x hx).1⟩,fun x hx=>(h.1 x hx).2⟩
def CZ(r:Rs):(kP r).2.1.length<=r.1.length:=by
 unfold kP;simp only;exact NK (bS 59 _) (NK (gU 4 _) (NK (i7 (aW 4) (gU 4) _ _ _ _ _) (NK (bS 59 _) (eB r))))
theorem Fi(x y:Int):bo T .gtr 3 (.int .i64 x) (.int .i64 y)=some (.bool (decide (y<x))):=rfl
def JJ(t:Ty):bP T 33 1 [(0,t.av)]=some (ig [t]):=by
 rw[show t.av= .agg [.int .i64 t.kind,aO t.fields]from(cq t).symm,show ig [t]= .sl [t.av]from rfl,show t.av= .agg [.int .i64 t.kind,aO t.fields]from(cq t).symm];rfl
def JI(s:Sig):bP T 30 1 [(0,s.av)]=some (sigs [s]):=by
 rw[<- fF];exact rfl
theorem L2(l:List Ty):cw (ig l)=am (ig l):=rfl
theorem L1(l:List Sig):cw (sigs l)=am (sigs l):=rfl
theorem L0(n:Int):cw (.int .i64 n)=am (.int .i64 n):=rfl
def zC(a:aQ)(p:List Ty)(t:Ty)(e:Int):AV.agg [.str a,ig p,.int .i64 t.kind,aO t.fields,.int .i64 e]=(Sig.mk a p t e).av:=fF ⟨a,p,t,e⟩
def Em(s name mod:aQ)(n m:Int)(x4 x5 y1 y2 y3:AV)(acc:List Sig)(hacc:acc.length<=1000)(l:Nat)(cont:List AV->M AV):
  ∀(f:Nat)(ps:List Ty)(h:Hp)(r:Rs),jk h l r->r.1.length<=1000000000->8<=ps.length+f->ps.length<=8->
  ak (L10_0 (ab pg) ak cont) [.str s,.hp l 0,.int .i64 n,.int .i64 m,x4,x5,.str mod,sigs acc,.str name,ig ps,y1,y2,y3] h=
   cont [.str s,.hp l 0,.int .i64 n,x4,x5,.str mod,sigs (acc++[⟨name,(aR (aW 4) m 6 f ps r).1,(aW 4 (aR (aW 4) m 6 f ps r).2).1,(aN 59 (aW 4 (aR (aW 4) m 6 f ps r).2).2).1⟩])] (dh h l (aN 59 (aW 4 (aR (aW 4) m 6 f ps r).2).2).2):=by
 have hend:∀(ps:List Ty)(h:Hp)(r:Rs),jk h l r->r.1.length<=1000000000->(ap (ab pg 40 [.hp l 0,.int .i64 4]) fun v37=>ap (aI 2 [] v37) fun v38=>ap (ab pg 38 [.hp l 0]) fun v39=>ap (cw v39) fun _=>
   ap (bF (bP T 30 1 [(0,AV.agg [.str name,ig ps,aa (af v38) 0,aa (af v38) 1,v39])])) fun v41=>ap (bF (fB T 30 (sigs acc) v41)) fun v42=>ap (cw v42) fun _=>cont [.str s,.hp l 0,.int .i64 n,x4,x5,.str mod,v42]) h=
   cont [.str s,.hp l 0,.int .i64 n,x4,x5,.str mod,sigs (acc++[⟨name,ps,(aW 4 r).1,(aN 59 (aW 4 r).2).1⟩])] (dh h l (aN 59 (aW 4 r).2).2):=by
  intro ps h r H hb;have hT:=t40 l 4 (M7 _) h r H hb;have hT':ab pg 40 [.hp l 0,.int .i64 4] h= .ok (aW 4 r).1.av (dh h l (aW 4 r).2):=hT;have H1:=H.put (aW 4 r).2;have hN:=t38 H1 (by have:=gU 4 r;omega);rw[bA]at hN;have hap:=H5 (a:=acc) (b:=[⟨name,ps,(aW 4 r).1,(aN 59 (aW 4 r).2).1⟩]) (by simp;omega);rw[az hT'];simp only[cp,ai,bd,aj,ao];rw[az hN];simp only[L0,ai,zC,JI,ae,hap,L1]
 intro f
 induction f with
 |zero=>
  intro ps h r H hb hf hp;have h6:¬((ps.length:Int)<=6):=by omega
  rw[FL10_0];simp only[L10_0,aj,ao,ej,ae,ax,bY,h6,Nm,aF,bJ,Oe,bn,ai,aC,ah,M3,Na];exact hend ps h r H hb
 | succ f ihf=>
  intro ps h r H hb hf hp;rw[FL10_0];have hL:=t39 H;by_cases hc:(ps.length:Int)<m/\ps.length<=6
  ·have h6:(ps.length:Int)<=6:=by omega
   by_cases hr:0<r.1.length
   ·have hr':(0:Int)<(r.1.length:Int):=by omega
    have hT:=t40 l 4 (M7 _) h r H hb;have hT':ab pg 40 [.hp l 0,.int .i64 4] h= .ok (aW 4 r).1.av (dh h l (aW 4 r).2):=hT;have H1:=H.put (aW 4 r).2;have hrec:=ihf (ps++[(aW 4 r).1]) _ _ H1 (by have:=gU 4 r;omega) (by simp;omega) (by simp;omega);rw[bA]at hrec;have hap:=Dw (a:=ps) (b:=[(aW 4 r).1]) (by simp;omega);have ei:aR (aW 4) m 6 (f+1) ps r=aR (aW 4) m 6 f (ps++[(aW 4 r).1]) (aW 4 r).2:=by rw[aR,Nn ⟨hc.1,hc.2,hr⟩]
    rw[ei,<- hrec];simp only[L10_0,aj,ao,ej,ae,ax,bY,hc.1,h6,Nf,au,ai,aj,aw];rw[bK,az hL];simp only[Fi,hr',Nf,ae,ai,aj,aw,ah,Nj];rw[az hT'];simp only[JJ,ae,hap,L2,ai]
   ·have hr':¬(0:Int)<(r.1.length:Int):=by omega
    have ei:aR (aW 4) m 6 (f+1) ps r=(ps,r):=by rw[aR,M9 (by rintro⟨_,_,q⟩;exact hr q)]
    rw[ei];simp only[L10_0,aj,ao,ej,ae,ax,bY,hc.1,h6,Nf,au,ai,aj,aw];rw[bK,az hL];simp only[Fi,hr',Nm,ae,ai,aj,aw,ah,M3,Na];exact hend ps h r H hb
  ·have hcc:(decide ((ps.length:Int)<m)&&decide ((ps.length:Int)<=6))=false:=by
    rw[Oo,NC,NC];by_cases h1:(ps.length:Int)<m
    ·exact .inr fun h2=>hc ⟨h1,by omega⟩
    ·exact .inl h1
   have ei:aR (aW 4) m 6 (f+1) ps r=(ps,r):=by rw[aR,M9 (by rintro⟨q1,q2,_⟩;exact hc ⟨q1,q2⟩)]
   rw[ei];simp only[L10_0,aj,ao,ej,ae,ax,bY,aF,bJ,hcc,bn,ai,aC,ah,M3,Na];exact hend ps h r H hb
def ma(r:Face×Int):AV:=.tup [r.1.av,.int .i64 r.2]
def pz(a:aQ)(p:List Sig):AV.agg [.str a,sigs p]=(Face.mk a p).av:=lK ⟨a,p⟩
theorem En(s mod:aQ)(n:Int)(x4 x5:AV)(l:Nat)(G:List Sig)(t:aQ)(e:Int)(hT:ab pg 8 [(Face.mk mod G).av]=am (.tup [.str t,.int .i64 e])):
  ∀(f:Nat)(acc:List Sig)(h:Hp)(r:Rs),jk h l r->r.1.length<=1000000000->32<=acc.length+f->acc.length<=32->(aR kP n 30 f acc r).1=G->
  ∃h',ak (L10_1 (ab pg) ak) [.str s,.hp l 0,.int .i64 n,x4,x5,.str mod,sigs acc] h= .ok (ma (if e=0/\t=s then(⟨mod,G⟩,0)else(⟨[],[]⟩,2))) h':=by
 have ne:∀x y:Int,bo T .neq 42 (.int .i64 x) (.int .i64 y)=some (.bool (x != y)):=fun _ _=>rfl;have ns:∀x y:aQ,bo T .neq 9 (.str x) (.str y)=some (.bool (x != y)):=fun _ _=>rfl;have bz:cv T false 32 []=some (.agg [.str [],.sl []]):=rfl;have cz:aI 2 [] (.agg [.str [],.sl []])=am (.agg [.str [],.sl []]):=rfl;have cf:∀F:Face,aI 2 [] F.av=am F.av:=fun F=>by rw[<- lK];rfl
 have hend:∀(h:Hp),(ap (ab pg 8 [AV.agg [.str mod,sigs G]]) fun v44=>ap (bF (dw v44 0)) fun v45=>ap (bF (dw v44 1)) fun v46=>ap (bF (bo T BinOp.neq 42 v46 (AV.int IntKind.i64 0))) fun v47=>
   ap (bc v47 false 1 (ap (bF (bo T BinOp.neq 9 v45 (.str s))) fun v48=>am [v48])) fun v49=>ap (bF (ia v47 (AV.bool true) (aa v49 0))) fun v50=>
   aD v50 (ap (bF (cv T false 32 [])) fun v51=>ap (aI 2 [] v51) fun v52=>am (AV.tup [AV.agg [aa (af v52) 0,aa (af v52) 1],AV.int IntKind.i64 2]))
    (ap (aI 2 [] (AV.agg [.str mod,sigs G])) fun v53=>am (AV.tup [AV.agg [aa (af v53) 0,aa (af v53) 1],AV.int IntKind.i64 0]))) h= .ok (ma (if e=0/\t=s then(⟨mod,G⟩,0)else(⟨[],[]⟩,2))) h:=by
  intro h;rw[pz];simp only[hT,ai,cR,ND,NX,ae,ne,ns,aF,aj,cX,ah,bz,cz,cf,dW,ao,dM,pz];by_cases hc:e=0/\t=s
  ·have:(e != 0||t != s)=false:=by simp[hc.1,hc.2]
   rw[Nn hc,this];rfl
  ·have:(e != 0||t != s)=true:=by
    rw[NU,OR,OR];by_cases h1:e=0
    ·exact .inr fun h2=>hc ⟨h1,h2⟩
    ·exact .inl h1
   rw[M9 hc,this];rfl
 intro f
 induction f with
 |zero=>
  intro acc h r H hb hf hp hG;obtain rfl:acc=G:=hG;have h6:¬((acc.length:Int)<=30):=by omega
  refine⟨h,?_⟩;rw[FL10_1];simp only[L10_1,aj,ao,eJ,ae,ax,bY,h6,Nm,aF,bJ,Oe,bn,ai,aC,ah,M3,Na];exact hend h
 | succ f ihf=>
  intro acc h r H hb hf hp hG;rw[FL10_1];have hL:=t39 H;by_cases hc:(acc.length:Int)<n/\acc.length<=30
  ·have h6:(acc.length:Int)<=30:=by omega
   by_cases hr:0<r.1.length
   ·have hr':(0:Int)<(r.1.length:Int):=by omega
    have hT:=t37 H hb;have l1:=eB r;have H1:=H.put (bb r).2;have hN:=t38 H1 (by omega);rw[bA]at hN;have l2:=bS 59 (bb r).2;have H2:=H.put (aN 59 (bb r).2).2;have b0:∀s:aQ,cv T true 37 [(0,.str s)]=some (.agg [.str s,.hn,.int .i64 0,.hn,.int .i64 0]):=fun _=>rfl;have c0:∀s:aQ,aI 5 [1] (.agg [.str s,.hn,.int .i64 0,.hn,.int .i64 0])=am (.agg [.str s,.hn,.int .i64 0,.hn,.int .i64 0]):=fun _=>rfl;have hin:=Em s (bb r).1 mod n (aN 59 (bb r).2).1 x4 x5 (.int .i64 0) .hn (.int .i64 0) acc (by omega) l (ak (L10_1 (ab pg) ak)) 8 [] _ _ H2 (by omega) (by simp) (by simp);rw[bA]at hin;have ei:aR kP n 30 (f+1) acc r=aR kP n 30 f (acc++[(kP r).1]) (kP r).2:=by rw[aR,Nn ⟨hc.1,hc.2,hr⟩]
    rw[ei]at hG;have H3:=H.put (kP r).2;obtain⟨h',hrec⟩:=ihf (acc++[(kP r).1]) _ _ H3 (by have:=CZ r;omega) (by simp;omega) (by simp;omega) hG;refine⟨h',?_⟩;rw[<- hrec];simp only[L10_1,aj,ao,eJ,ae,ax,bY,hc.1,h6,Nf,au,ai,aj,aw];rw[bK,az hL];simp only[Fi,hr',Nf,ae,ai,aj,aw,ah,Nj];rw[az hT];simp only[b0,c0,ae,ai];rw[az hN];exact hin
   ·have hr':¬(0:Int)<(r.1.length:Int):=by omega
    have ei:aR kP n 30 (f+1) acc r=(acc,r):=by rw[aR,M9 (by rintro⟨_,_,q⟩;exact hr q)]
    rw[ei]at hG;obtain rfl:acc=G:=hG;refine⟨h,?_⟩;simp only[L10_1,aj,ao,eJ,ae,ax,bY,hc.1,h6,Nf,au,ai,aj,aw];rw[bK,az hL];simp only[Fi,hr',Nm,ae,ai,aj,aw,ah,M3,Na];exact hend h
  ·have hcc:(decide ((acc.length:Int)<n)&&decide ((acc.length:Int)<=30))=false:=by
    rw[Oo,NC,NC];by_cases h1:(acc.length:Int)<n
    ·exact .inr fun h2=>hc ⟨h1,by omega⟩
    ·exact .inl h1
   have ei:aR kP n 30 (f+1) acc r=(acc,r):=by rw[aR,M9 (by rintro⟨q1,q2,_⟩;exact hc ⟨q1,q2⟩)]
   rw[ei]at hG;obtain rfl:acc=G:=hG;refine⟨h,?_⟩;simp only[L10_1,aj,ao,eJ,ae,ax,bY,aF,bJ,hcc,bn,ai,aC,ah,M3,Na];exact hend h
theorem t10(s:aQ)(hb:s.length<=1000000000):ab pg 10 [.str s]=am (ma (fG s)):=by
 have hok:=qm s;have hT:=t8 (g9 s) hok.1 hok.2;have eo:ab pg 36 [.str s] []= .ok (.hp 0 0) [[AV.str s,.bool false]]:=by
  rw[C36];rfl
 have H0:jk [[AV.str s,.bool false]] 0 (s,false):=rfl;have h1:=t37 H0 hb;have l1:=eB (s,false);have H1:=H0.put (bb (s,false)).2;have h2:=t38 H1 (NK l1 hb);rw[bA]at h2;have l2:=bS 59 (bb (s,false)).2;have H2:=H0.put (aN 59 (bb (s,false)).2).2;have b0:∀s:aQ,cv T true 32 [(0,.str s)]=some (.agg [.str s,.hn]):=fun _=>rfl;have c0:∀s:aQ,aI 2 [1] (.agg [.str s,.hn])=am (.agg [.str s,.hn]):=fun _=>rfl;obtain⟨h',hl⟩:=En s (bb (s,false)).1 (aN 59 (bb (s,false)).2).1 (.str []) (.sl []) 0 (g9 s).funcs (fk (g9 s)).1 (fk (g9 s)).2 hT 32 [] _ _ H2 (NK l2 (NK l1 hb)) (by simp) (by simp) rfl;rw[C10,show cl aA (.str s)= .str s from rfl];have key:S10 (ab pg) ak (.str s) []= .ok (ma (fG s)) h':=by
  simp only[S10];rw[az eo,az h1];simp only[b0,c0,ae,ai];rw[az h2];have e1:fG s=if(fk (g9 s)).2=0/\(fk (g9 s)).1=s then(⟨(bb (s,false)).1,(g9 s).funcs⟩,0)else(⟨[],[]⟩,2):=rfl;rw[e1];exact hl
 funext h;unfold aP;rw[key];have hcl:∀h,gG 6 h (ma (fG s))=ma (fG s):=fun h=>by
  show AV.tup [gG 6 h (Face.av _),.int .i64 _]=_;have:gG 6 h (fG s).1.av=(fG s).1.av:=eM _ _;rw[this];rfl
 show R.ok (gG 6 h' (ma (fG s))) h=_;rw[hcl];rfl
theorem gT:∀(d:Nat)(r:Rs),(aT d r).2.1.length<=r.1.length
 |0,r=>bS 59 r
 |d+1,r=>by
  rw[aT];split
  ·exact NK (i7 _ (vJ (gT d)) _ _ _ _ _) (NK (bS 59 _) (bS 59 r))
  ·exact bS 59 r
theorem GV(d:Nat)(hd:d<4)(n k:Int)(x3 x4:AV)(l:Nat)(ih:∀h r,jk h l r->r.1.length<=1000000000->jE r->ab pg 45 [.hp l 0,.int .i64 d] h= .ok (aT d r).1.av (dh h l (aT d r).2)):
  ∀(f:Nat)(acc:List cO)(h:Hp)(r:Rs),jk h l r->r.1.length<=1000000000->jE r->10<=acc.length+f->acc.length<=10->
  ak (L45_0 (ab pg) ak) [.hp l 0,.int .i64 ((d+1:Nat):Int),.int .i64 n,.int .i64 (acc.length:Int),x3,x4,.int .i64 k,aO acc] h= .ok (Ty.mk k (aR (jN (aT d)) n 9 f acc r).1).av (dh h l (aR (jN (aT d)) n 9 f acc r).2):=by
 intro f
 induction f with
 |zero=>
  intro acc h r H hb hI hf ha;have h8:¬((acc.length:Int)<10):=by omega
  rw[FL45_0];simp only[L45_0,aj,ao,ae,ax,h8,Nm,aF,bJ,Oe,bn,ai,aC,ah,M3,Na,l6,cp,bd,Ty.kind,Ty.fields,aR,iK H];rfl
 | succ f ihf=>
  intro acc h r H hb hI hf ha;rw[FL45_0,aR];have gt:∀x y:Int,bo T .gtr 3 (.int .i64 x) (.int .i64 y)=some (.bool (decide (y<x))):=fun _ _=>rfl;have hL:=t44 H;by_cases hc:(acc.length:Int)<n/\acc.length<=9
  ·have h8:(acc.length:Int)<10:=by omega
   by_cases hr:0<r.1.length
   ·have hr':(0:Int)<(r.1.length:Int):=by omega
    have hT:=t42 H hb hI;have H1:=H.put (bb r).2;have hty:=ih _ _ H1 (by have:=eB r;omega) (jQ hI);rw[bA]at hty;have H2:=H.put (aT d (bb r).2).2;have hrec:=ihf (acc++[((bb r).1,(aT d (bb r).2).1)]) _ _ H2 (by have:=eB r;have:=gT d (bb r).2;omega) (jR d (jQ hI)) (by simp;omega) (by simp;omega);rw[bA]at hrec;have hap:=H4 (a:=acc) (b:=[((bb r).1,(aT d (bb r).2).1)]) (by simp;omega);have hw:IntKind.i64.wrap (((d+1:Nat):Int)-1)=(d:Int):=eS (by omega);have b0:∀s:aQ,cv T false 54 [(0,.str s)]=some (.agg [.str s,.int .i64 0,.sl []]):=fun _=>rfl;have c0:∀s:aQ,aI 3 [] (.agg [.str s,.int .i64 0,.sl []])=am (.agg [.str s,.int .i64 0,.sl []]):=fun _=>rfl;have c1:∀q:List cO,cw (aO q)=am (aO q):=fun _=>rfl;rw[Nn ⟨hc.1,hc.2,hr⟩];have e1:(jN (aT d) r).1=((bb r).1,(aT d (bb r).2).1):=rfl;have e2:(jN (aT d) r).2=(aT d (bb r).2).2:=rfl;rw[e1,e2];simp only[L45_0,aj,ao,ae,ax,hc.1,h8,Nf,au,ai,aj,aw];rw[bK,az hL];simp only[gt,hr',Nf,ae,ai,aj,aw,ah,Nj];rw[az hT];simp only[fl,ae,hw];rw[az hty];have e3:IntKind.i64.wrap ((acc.length:Int)+1)=((acc++[((bb r).1,(aT d (bb r).2).1)]).length:Int):=by rw[aE (by omega)];simp
    have b1:∀(s:aQ)(t:Ty),cv T false 54 [(0,.str s),(1,t.av)]=some (bm (s,t)):=fun s t=>by
     rw[fg,<- cq t];rfl
    simp only[gB,ai,HF,ae,b1,JH,hap,c1,ba,e3];exact hrec
   ·have hr':¬(0:Int)<(r.1.length:Int):=by omega
    rw[M9 (by rintro⟨_,_,q⟩;exact hr q)];simp only[L45_0,aj,ao,ae,ax,hc.1,h8,Nf,au,ai,aj,aw];rw[bK,az hL];simp only[gt,hr',Nm,ae,ai,aj,aw,ah,M3,Na,l6,cp,bd,ao,Ty.kind,Ty.fields,iK H];rfl
  ·have hcc:(decide ((acc.length:Int)<n)&&decide ((acc.length:Int)<10))=false:=by
    rw[Oo,NC,NC];by_cases h1:(acc.length:Int)<n
    ·exact .inr fun h2=>hc ⟨h1,by omega⟩
    ·exact .inl h1
   rw[M9 (by rintro⟨q1,q2,_⟩;exact hc ⟨q1,q2⟩)];simp only[L45_0,aj,ao,ae,ax,aF,bJ,hcc,bn,ai,aC,ah,M3,Na,l6,cp,bd,Ty.kind,Ty.fields,iK H];rfl
def t45(l:Nat):∀(d:Nat),d<=4->∀(h:Hp)(r:Rs),jk h l r->r.1.length<=1000000000->jE r->ab pg 45 [.hp l 0,.int .i64 d] h= .ok (aT d r).1.av (dh h l (aT d r).2):=by
 have b0:∀k:Int,cv T true 35 [(0,.int .i64 k)]=some (.agg [.int .i64 k,.hn]):=fun _=>rfl;have c0:∀k:Int,aI 2 [1] (.agg [.int .i64 k,.hn])=am (.agg [.int .i64 k,.hn]):=fun _=>rfl;have c1:∀k:Int,aI 2 [] (.agg [.int .i64 k,.sl []])=am (.agg [.int .i64 k,.sl []]):=fun _=>rfl;have nq:∀x y:Int,bo T .neq 3 (.int .i64 x) (.int .i64 y)=some (.bool (x != y)):=fun _ _=>rfl;have f0:∀k:Int,AV.agg [.int .i64 k,.sl []]=(Ty.mk k []).av:=fun k=>cq (Ty.mk k []);intro d
 induction d with
 |zero=>
  intro hd h r H hb hI;have hN:=t43 H hb;rw[C45,aT];simp only[S45];rw[az hN];simp only[b0,c0,c1,ae,ai,dW,aj,ao,nq,dN,OU,OO,aF,cX,Bool.or_true,ah,Nj];rw[f0];rfl
 | succ d ih=>
  intro hd h r H hb hI;have hN:=t43 H hb;have H1:=H.put (aN 59 r).2;have hN2:=t43 H1 (by have:=bS 59 r;omega);rw[bA]at hN2;rw[C45,aT];simp only[S45];rw[az hN];have hz:(((d+1:Nat):Int)== 0)=false:=by rw[Ny];omega
  simp only[b0,c0,c1,ae,ai,dW,aj,ao,nq,dN,hz,aF,cX,PQ,ah];by_cases hk:(aN 59 r).1=2
  ·have hk':((aN 59 r).1 != 2)=false:=by rw[hk];rfl
   have H2:=H.put (aN 59 (aN 59 r).2).2;have hl:=GV d (by omega) (aN 59 (aN 59 r).2).1 (aN 59 r).1 (.int .i64 0) (.sl []) l (fun h r H hb hI=>ih (by omega) h r H hb hI) 10 [] _ _ H2 (by have:=bS 59 r;have:=bS 59 (aN 59 r).2;omega) (fI 59 (fI 59 hI)) (by simp) (by simp);rw[bA]at hl;simp only[hk',M3,Na];rw[Nn hk,az hN2];exact hl
  ·have hk':((aN 59 r).1 != 2)=true:=by rw[OR];exact hk
   simp only[hk',Nj];rw[M9 hk,f0];rfl
theorem mL:∀(d:Nat)(r:Rs),(aT d r).1.Lim
 |0,r=>mz (by simp) (fun v hv=>by cases hv)
 | d+1,r=>by
  rw[aT];split
  ·have h:=fP (jN (aT d)) (fun f=>f.2.Lim) (fun r=>mL d _) (aN 59 (aN 59 r).2).1 9 10 [] (aN 59 (aN 59 r).2).2 (by simp) (by simp);exact mz (by omega) h.1
  ·exact mz (by simp) (fun v hv=>by cases hv)
def EU(r:Rs):Dy (fY r).1:=by
 have h:=fP (aT 4) (fun t=>t.Lim) (fun r=>mL 4 r) (aN 59 (bb r).2).1 9 10 [] (aN 59 (bb r).2).2 (by simp) (by simp);unfold fY;refine⟨⟨by have:=h.2;simp only;omega,h.1,mL 4 _⟩,?_,zo 59 _⟩
 have:=pD 59 (aT 4 (aR (aT 4) (aN 59 (bb r).2).1 9 10 [] (aN 59 (bb r).2).2).2).2
 simp only;omega
def vC(s:aQ):(g7 s).Lim/\∀x∈(g7 s).funcs,tQ x:=by
 have h:=fP fY Dy EU (aN 59 (bb (s,false)).2).1 39 40 [] (aN 59 (bb (s,false)).2).2 (by simp) (by simp);unfold g7;exact⟨⟨by have:=h.2;simp only;omega,fun x hx=>(h.1 x hx).1⟩,fun x hx=>(h.1 x hx).2⟩
def CY(r:Rs):(fY r).2.1.length<=r.1.length:=by
 unfold fY;simp only;exact NK (bS 59 _) (NK (gT 4 _) (NK (i7 (aT 4) (gT 4) _ _ _ _ _) (NK (bS 59 _) (eB r))))
def Cq(s name mod:aQ)(n m:Int)(x4 x5 y1 y2 y3:AV)(acc:List Sig)(hacc:acc.length<=1000)(l:Nat)(cont:List AV->M AV):
  ∀(f:Nat)(ps:List Ty)(h:Hp)(r:Rs),jk h l r->r.1.length<=1000000000->jE r->10<=ps.length+f->ps.length<=10->
  ak (L11_0 (ab pg) ak cont) [.str s,.hp l 0,.int .i64 n,.int .i64 (acc.length:Int),.int .i64 m,.int .i64 (ps.length:Int),x4,x5,.str mod,sigs acc,.str name,ig ps,y1,y2,y3] h=
   cont [.str s,.hp l 0,.int .i64 n,.int .i64 ((acc.length+1:Nat):Int),x4,x5,.str mod,sigs (acc++[⟨name,(aR (aT 4) m 9 f ps r).1,(aT 4 (aR (aT 4) m 9 f ps r).2).1,(aN 59 (aT 4 (aR (aT 4) m 9 f ps r).2).2).1⟩])] (dh h l (aN 59 (aT 4 (aR (aT 4) m 9 f ps r).2).2).2):=by
 have hend:∀(ps:List Ty)(h:Hp)(r:Rs),jk h l r->r.1.length<=1000000000->jE r->(ap (ab pg 45 [.hp l 0,.int .i64 4]) fun v37=>ap (aI 2 [] v37) fun v38=>ap (ab pg 43 [.hp l 0]) fun v39=>ap (cw v39) fun _=>
   ap (bF (bP T 30 1 [(0,AV.agg [.str name,ig ps,aa (af v38) 0,aa (af v38) 1,v39])])) fun v41=>ap (bF (fB T 30 (sigs acc) v41)) fun v42=>ap (cw v42) fun _=>ap (bF (bo T BinOp.add 3 (.int .i64 (acc.length:Int)) (.int .i64 1))) fun v43=>cont [.str s,.hp l 0,.int .i64 n,v43,x4,x5,.str mod,v42]) h=
   cont [.str s,.hp l 0,.int .i64 n,.int .i64 ((acc.length+1:Nat):Int),x4,x5,.str mod,sigs (acc++[⟨name,ps,(aT 4 r).1,(aN 59 (aT 4 r).2).1⟩])] (dh h l (aN 59 (aT 4 r).2).2):=by
  intro ps h r H hb hI;have hT:=t45 l 4 (M7 _) h r H hb hI;have hT':ab pg 45 [.hp l 0,.int .i64 4] h= .ok (aT 4 r).1.av (dh h l (aT 4 r).2):=hT;have H1:=H.put (aT 4 r).2;have hN:=t43 H1 (by have:=gT 4 r;omega);rw[bA]at hN;have hap:=H5 (a:=acc) (b:=[⟨name,ps,(aT 4 r).1,(aN 59 (aT 4 r).2).1⟩]) (by simp;omega);rw[az hT'];simp only[cp,ai,bd,aj,ao];rw[az hN];have hw:IntKind.i64.wrap ((acc.length:Int)+1)=((acc.length+1:Nat):Int):=aE (by omega);simp only[L0,ai,zC,JI,ae,hap,L1,ba,hw]
 intro f
 induction f with
 |zero=>
  intro ps h r H hb hI hf hp;have h6:¬((ps.length:Int)<10):=by omega
  rw[FL11_0];simp only[L11_0,aj,ao,ae,ax,h6,Nm,aF,bJ,Oe,bn,ai,aC,ah,M3,Na];exact hend ps h r H hb hI
 | succ f ihf=>
  intro ps h r H hb hI hf hp;rw[FL11_0];have hL:=t44 H;by_cases hc:(ps.length:Int)<m/\ps.length<=9
  ·have h6:(ps.length:Int)<10:=by omega
   by_cases hr:0<r.1.length
   ·have hr':(0:Int)<(r.1.length:Int):=by omega
    have hT:=t45 l 4 (M7 _) h r H hb hI;have hT':ab pg 45 [.hp l 0,.int .i64 4] h= .ok (aT 4 r).1.av (dh h l (aT 4 r).2):=hT;have H1:=H.put (aT 4 r).2;have hrec:=ihf (ps++[(aT 4 r).1]) _ _ H1 (by have:=gT 4 r;omega) (jR 4 hI) (by simp;omega) (by simp;omega);rw[bA]at hrec;have hap:=Dw (a:=ps) (b:=[(aT 4 r).1]) (by simp;omega);have ei:aR (aT 4) m 9 (f+1) ps r=aR (aT 4) m 9 f (ps++[(aT 4 r).1]) (aT 4 r).2:=by rw[aR,Nn ⟨hc.1,hc.2,hr⟩]
    rw[ei,<- hrec];simp only[L11_0,aj,ao,ae,ax,hc.1,h6,Nf,au,ai,aj,aw];rw[bK,az hL];simp only[Fi,hr',Nf,ae,ai,aj,aw,ah,Nj];rw[az hT'];have hw:IntKind.i64.wrap ((ps.length:Int)+1)=((ps++[(aT 4 r).1]).length:Int):=by rw[aE (by omega)];simp
    simp only[JJ,ae,hap,L2,ai,ba,hw]
   ·have hr':¬(0:Int)<(r.1.length:Int):=by omega
    have ei:aR (aT 4) m 9 (f+1) ps r=(ps,r):=by rw[aR,M9 (by rintro⟨_,_,q⟩;exact hr q)]
    rw[ei];simp only[L11_0,aj,ao,ae,ax,hc.1,h6,Nf,au,ai,aj,aw];rw[bK,az hL];simp only[Fi,hr',Nm,ae,ai,aj,aw,ah,M3,Na];exact hend ps h r H hb hI
  ·have hcc:(decide ((ps.length:Int)<m)&&decide ((ps.length:Int)<10))=false:=by
    rw[Oo,NC,NC];by_cases h1:(ps.length:Int)<m
    ·exact .inr fun h2=>hc ⟨h1,by omega⟩
    ·exact .inl h1
   have ei:aR (aT 4) m 9 (f+1) ps r=(ps,r):=by rw[aR,M9 (by rintro⟨q1,q2,_⟩;exact hc ⟨q1,q2⟩)]
   rw[ei];simp only[L11_0,aj,ao,ae,ax,aF,bJ,hcc,bn,ai,aC,ah,M3,Na];exact hend ps h r H hb hI
theorem Cr(s mod:aQ)(n:Int)(x4 x5:AV)(l:Nat)(G:List Sig)(t:aQ)(e:Int)(hT:ab pg 9 [(Face.mk mod G).av]=am (.tup [.str t,.int .i64 e])):
  ∀(f:Nat)(acc:List Sig)(h:Hp)(r:Rs),jk h l r->r.1.length<=1000000000->jE r->40<=acc.length+f->acc.length<=40->(aR fY n 39 f acc r).1=G->
  ∃h',ak (L11_1 (ab pg) ak) [.str s,.hp l 0,.int .i64 n,.int .i64 (acc.length:Int),x4,x5,.str mod,sigs acc] h= .ok (ma (if e=0/\t=s then(⟨mod,G⟩,0)else(⟨[],[]⟩,2))) h':=by
 have ne:∀x y:Int,bo T .neq 42 (.int .i64 x) (.int .i64 y)=some (.bool (x != y)):=fun _ _=>rfl;have ns:∀x y:aQ,bo T .neq 9 (.str x) (.str y)=some (.bool (x != y)):=fun _ _=>rfl;have bz:cv T false 32 []=some (.agg [.str [],.sl []]):=rfl;have cz:aI 2 [] (.agg [.str [],.sl []])=am (.agg [.str [],.sl []]):=rfl;have cf:∀F:Face,aI 2 [] F.av=am F.av:=fun F=>by rw[<- lK];rfl
 have hend:∀(h:Hp),(ap (ab pg 9 [AV.agg [.str mod,sigs G]]) fun v44=>ap (bF (dw v44 0)) fun v45=>ap (bF (dw v44 1)) fun v46=>ap (bF (bo T BinOp.neq 42 v46 (AV.int IntKind.i64 0))) fun v47=>
   ap (bc v47 false 1 (ap (bF (bo T BinOp.neq 9 v45 (.str s))) fun v48=>am [v48])) fun v49=>ap (bF (ia v47 (AV.bool true) (aa v49 0))) fun v50=>
   aD v50 (ap (bF (cv T false 32 [])) fun v51=>ap (aI 2 [] v51) fun v52=>am (AV.tup [AV.agg [aa (af v52) 0,aa (af v52) 1],AV.int IntKind.i64 2]))
    (ap (aI 2 [] (AV.agg [.str mod,sigs G])) fun v53=>am (AV.tup [AV.agg [aa (af v53) 0,aa (af v53) 1],AV.int IntKind.i64 0]))) h= .ok (ma (if e=0/\t=s then(⟨mod,G⟩,0)else(⟨[],[]⟩,2))) h:=by
  intro h;rw[pz];simp only[hT,ai,cR,ND,NX,ae,ne,ns,aF,aj,cX,ah,bz,cz,cf,dW,ao,dM,pz];by_cases hc:e=0/\t=s
  ·have:(e != 0||t != s)=false:=by simp[hc.1,hc.2]
   rw[Nn hc,this];rfl
  ·have:(e != 0||t != s)=true:=by
    rw[NU,OR,OR];by_cases h1:e=0
    ·exact .inr fun h2=>hc ⟨h1,h2⟩
    ·exact .inl h1
   rw[M9 hc,this];rfl
 intro f
 induction f with
 |zero=>
  intro acc h r H hb hI hf hp hG;obtain rfl:acc=G:=hG;have h6:¬((acc.length:Int)<40):=by omega
  refine⟨h,?_⟩;rw[FL11_1];simp only[L11_1,aj,ao,ae,ax,h6,Nm,aF,bJ,Oe,bn,ai,aC,ah,M3,Na];exact hend h
 | succ f ihf=>
  intro acc h r H hb hI hf hp hG;rw[FL11_1];have hL:=t44 H;by_cases hc:(acc.length:Int)<n/\acc.length<=39
  ·have h6:(acc.length:Int)<40:=by omega
   by_cases hr:0<r.1.length
   ·have hr':(0:Int)<(r.1.length:Int):=by omega
    have hT:=t42 H hb hI;have l1:=eB r;have H1:=H.put (bb r).2;have hN:=t43 H1 (by omega);rw[bA]at hN;have l2:=bS 59 (bb r).2;have H2:=H.put (aN 59 (bb r).2).2;have b0:∀s:aQ,cv T true 37 [(0,.str s)]=some (.agg [.str s,.hn,.int .i64 0,.hn,.int .i64 0]):=fun _=>rfl;have c0:∀s:aQ,aI 5 [1] (.agg [.str s,.hn,.int .i64 0,.hn,.int .i64 0])=am (.agg [.str s,.hn,.int .i64 0,.hn,.int .i64 0]):=fun _=>rfl;have hin:=Cq s (bb r).1 mod n (aN 59 (bb r).2).1 x4 x5 (.int .i64 0) .hn (.int .i64 0) acc (by omega) l (ak (L11_1 (ab pg) ak)) 10 [] _ _ H2 (by omega) (fI 59 (jQ hI)) (by simp) (by simp);rw[bA]at hin;have ei:aR fY n 39 (f+1) acc r=aR fY n 39 f (acc++[(fY r).1]) (fY r).2:=by rw[aR,Nn ⟨hc.1,hc.2,hr⟩]
    rw[ei]at hG;have H3:=H.put (fY r).2;obtain⟨h',hrec⟩:=ihf (acc++[(fY r).1]) _ _ H3 (by have:=CY r;omega) (Ef hI) (by simp;omega) (by simp;omega) hG;refine⟨h',?_⟩;rw[<- hrec];simp only[L11_1,aj,ao,ae,ax,hc.1,h6,Nf,au,ai,aj,aw];rw[bK,az hL];simp only[Fi,hr',Nf,ae,ai,aj,aw,ah,Nj];rw[az hT];simp only[b0,c0,ae,ai];rw[az hN];rw[show ((acc.length+1:Nat):Int)=((acc++[(fY r).1]).length:Int) by simp]at hin;exact hin
   ·have hr':¬(0:Int)<(r.1.length:Int):=by omega
    have ei:aR fY n 39 (f+1) acc r=(acc,r):=by rw[aR,M9 (by rintro⟨_,_,q⟩;exact hr q)]
    rw[ei]at hG;obtain rfl:acc=G:=hG;refine⟨h,?_⟩;simp only[L11_1,aj,ao,ae,ax,hc.1,h6,Nf,au,ai,aj,aw];rw[bK,az hL];simp only[Fi,hr',Nm,ae,ai,aj,aw,ah,M3,Na];exact hend h
  ·have hcc:(decide ((acc.length:Int)<n)&&decide ((acc.length:Int)<40))=false:=by
    rw[Oo,NC,NC];by_cases h1:(acc.length:Int)<n
    ·exact .inr fun h2=>hc ⟨h1,by omega⟩
    ·exact .inl h1
   have ei:aR fY n 39 (f+1) acc r=(acc,r):=by rw[aR,M9 (by rintro⟨q1,q2,_⟩;exact hc ⟨q1,q2⟩)]
   rw[ei]at hG;obtain rfl:acc=G:=hG;refine⟨h,?_⟩;simp only[L11_1,aj,ao,ae,ax,aF,bJ,hcc,bn,ai,aC,ah,M3,Na];exact hend h
theorem t11(s:aQ)(hb:s.length<=1000000000):ab pg 11 [.str s]=am (ma (ly s)):=by
 have hok:=vC s;have hT:=t9 (g7 s) hok.1 hok.2;have eo:ab pg 41 [.str s] []= .ok (.hp 0 0) [[AV.str s,.bool false]]:=by
  rw[C41];rfl
 have H0:jk [[AV.str s,.bool false]] 0 (s,false):=rfl;have h1:=t42 H0 hb (fun h=>by cases h);have l1:=eB (s,false);have H1:=H0.put (bb (s,false)).2;have h2:=t43 H1 (NK l1 hb);rw[bA]at h2;have l2:=bS 59 (bb (s,false)).2;have H2:=H0.put (aN 59 (bb (s,false)).2).2;have b0:∀s:aQ,cv T true 32 [(0,.str s)]=some (.agg [.str s,.hn]):=fun _=>rfl;have c0:∀s:aQ,aI 2 [1] (.agg [.str s,.hn])=am (.agg [.str s,.hn]):=fun _=>rfl;obtain⟨h',hl⟩:=Cr s (bb (s,false)).1 (aN 59 (bb (s,false)).2).1 (.str []) (.sl []) 0 (g7 s).funcs (fk (g7 s)).1 (fk (g7 s)).2 hT 40 [] _ _ H2 (NK l2 (NK l1 hb)) (fI 59 (jQ (fun h=>by cases h))) (by simp) (by simp) rfl;rw[C11,show cl aA (.str s)= .str s from rfl];have key:S11 (ab pg) ak (.str s) []= .ok (ma (ly s)) h':=by
  simp only[S11];rw[az eo,az h1];simp only[b0,c0,ae,ai];rw[az h2];have e1:ly s=if(fk (g7 s)).2=0/\(fk (g7 s)).1=s then(⟨(bb (s,false)).1,(g7 s).funcs⟩,0)else(⟨[],[]⟩,2):=rfl;rw[e1];exact hl
 funext h;unfold aP;rw[key];have hcl:∀h,gG 6 h (ma (ly s))=ma (ly s):=fun h=>by
  show AV.tup [gG 6 h (Face.av _),.int .i64 _]=_;have:gG 6 h (ly s).1.av=(ly s).1.av:=eM _ _;rw[this];rfl
 show R.ok (gG 6 h' (ma (ly s))) h=_;rw[hcl];rfl
theorem J0:∀(d:Nat),d<=6->∀(t:Ty),t.Lim->∀most:Int,0<=most->most<=1000->∃r:Int,ab pg 66 [t.av,.int .i64 most,.int .i64 d]=am (.int .i64 r)/\1<=r/\r<=most+1
 |0,_,t,ht,most,h0,h1=>by
  have w1:IntKind.i64.wrap (most+1)=most+1:=bE (by omega) (by omega);refine⟨most+1,?_,by omega,by omega⟩;rw[C66];simp[S66,w1]
 | d + 1,hd,t,ht,most,h0,h1=>by
  have hlen:=ht.len;have hd1:IntKind.i64.wrap (((d+1:Nat):Int)-1)=(d:Int):=eS (by omega);have hl:∀(k i:Nat),t.fields.length-i=k->i<=t.fields.length->∀m:Int,1<=m->m<=most+1->∃r:Int,ak (L66_0 (ab pg) ak) [.int .i64 most,.int .i64 ((d+1:Nat):Int),.ip (af t.av),.int .i64 m,.int .i64 i]=am (.int .i64 r)/\1<=r/\r<=most+1:=by
   intro k
   induction k with
   |zero=>
    intro i hk hi m hm1 hm2;rw[FL66_0];have h1:¬((i:Int)<(t.fields.length:Int)):=by omega
    exact⟨m,by simp[L66_0,h1],hm1,hm2⟩
   | succ k ihk=>
    intro i hk hi m hm1 hm2;rw[FL66_0];have hlt:i<t.fields.length:=by omega
    have h1':(i:Int)<(t.fields.length:Int):=by omega
    by_cases hm:m<=most
    ·have hix:=kK (l:=t.fields) (n:=(i:Int)) (by omega) h1';rw[Nb,Nt t.fields i hlt]at hix;have hm':=Ni hlt;generalize t.fields[i]=f at hix hm';obtain⟨r,e1,e2,e3⟩:=J0 d (by omega) f.2 (ht.kid hm') (most-m) (by omega) (by omega);obtain⟨r2,g1,g2,g3⟩:=ihk (i+1) (by omega) (by omega) (m+r) (by omega) (by omega);have w1:IntKind.i64.wrap (most-m)=most-m:=bE (by omega) (by omega);have w2:IntKind.i64.wrap (m+r)=m+r:=bE (by omega) (by omega);have w3:IntKind.i64.wrap ((i:Int)+1)=((i+1:Nat):Int):=aE (by omega);refine⟨r2,?_,g2,g3⟩;rw[<- g1];simp only[L66_0,aj,ao,bd,FA35_1,ae,NH,Nk,LD23,cu,ax,bY,h1',hm,Nf,au,ai,aw,ah,Nj,hix,ck,FA54_1,LD35,Nr,Nu,NB,Nat.reduceAdd,M7,NI,NM,cq,fl,w1,hd1,e1,ba,w2,w3]
    ·exact⟨m,by simp[L66_0,h1',hm],hm1,hm2⟩
  obtain⟨r,e1,e2,e3⟩:=hl t.fields.length 0 rfl (by omega) 1 (by omega) (by omega);refine⟨r,?_,e2,e3⟩;rw[C66];have e1':ak (L66_0 (ab pg) ak) [.int .i64 most,.int .i64 ((d+1:Nat):Int),.ip (af t.av),.int .i64 1,.int .i64 0]=am (.int .i64 r):=e1;have hge:¬((((d+1:Nat):Int))<1):=by omega
  simp only[S66,jI,nV,ax,ae,hge,Nm,ah,M3,Na,e1',wb]
def JY(t:Ty)(ht:t.Lim):∃b,ab pg 25 [t.av]=am (.bool b):=by
 obtain⟨r,e1,e2,e3⟩:=J0 6 (by omega) t ht 40 (by omega) (by omega);have e1':ab pg 66 [t.av,.int .i64 40,.int .i64 6]=am (.int .i64 r):=e1;rw[C25];exact⟨decide (r<=40),by simp[S25,e1']⟩
theorem J1:∀(d:Nat),d<=14->∀(e:Exp),e.Lim->∀most:Int,0<=most->most<=1000->∃r:Int,ab pg 67 [e.av,.int .i64 most,.int .i64 d]=am (.int .i64 r)/\1<=r/\r<=most+1
 |0,_,e,he,most,h0,h1=>by
  have w1:IntKind.i64.wrap (most+1)=most+1:=bE (by omega) (by omega);refine⟨most+1,?_,by omega,by omega⟩;rw[C67];simp[S67,w1]
 | d + 1,hd,e,he,most,h0,h1=>by
  have hlen:=he.len;have hd1:IntKind.i64.wrap (((d+1:Nat):Int)-1)=(d:Int):=eS (by omega);have hl:∀(k i:Nat),e.args.length-i=k->i<=e.args.length->∀m:Int,1<=m->m<=most+1->∃r:Int,ak (L67_0 (ab pg) ak) [.int .i64 most,.int .i64 ((d+1:Nat):Int),.ip (af e.av),.int .i64 m,.int .i64 i]=am (.int .i64 r)/\1<=r/\r<=most+1:=by
   intro k
   induction k with
   |zero=>
    intro i hk hi m hm1 hm2;rw[FL67_0];have h1:¬((i:Int)<(e.args.length:Int)):=by omega
    exact⟨m,by simp[L67_0,h1],hm1,hm2⟩
   | succ k ihk=>
    intro i hk hi m hm1 hm2;rw[FL67_0];have hlt:i<e.args.length:=by omega
    have h1':(i:Int)<(e.args.length:Int):=by omega
    by_cases hm:m<=most
    ·have hix:=zI (l:=e.args) (n:=(i:Int)) (by omega) h1';rw[Nb,Nt e.args i hlt]at hix;have hm':=Ni hlt;generalize e.args[i]=f at hix hm';obtain⟨r,e1,e2,e3⟩:=J1 d (by omega) f (he.kid hm') (most-m) (by omega) (by omega);obtain⟨r2,g1,g2,g3⟩:=ihk (i+1) (by omega) (by omega) (m+r) (by omega) (by omega);have w1:IntKind.i64.wrap (most-m)=most-m:=bE (by omega) (by omega);have w2:IntKind.i64.wrap (m+r)=m+r:=bE (by omega) (by omega);have w3:IntKind.i64.wrap ((i:Int)+1)=((i+1:Nat):Int):=aE (by omega);refine⟨r2,?_,g2,g3⟩;rw[<- g1];simp only[L67_0,aj,ao,gu,FA56_5,ae,NH,Nk,LD24,fc,ax,bY,h1',hm,Nf,au,ai,aw,ah,Nj,hix,LD56,Nr,Nu,NB,Nat.reduceAdd,M7,NI,NM,lj,fl,w1,hd1,e1,ba,w2,w3]
    ·exact⟨m,by simp[L67_0,h1',hm],hm1,hm2⟩
  have hge:¬((((d+1:Nat):Int))<1):=by omega
  have hge':¬((d:Int)+1<1):=by omega
  have w1:IntKind.i64.wrap (most+1)=most+1:=bE (by omega) (by omega);by_cases h10:10<(e.names.length:Int)
  ·refine⟨most+1,?_,by omega,by omega⟩;have h10':10<e.names.length:=by omega
   rw[C67];simp[S67,hge',h10,h10',w1]
  ·obtain⟨r,e1,e2,e3⟩:=hl e.args.length 0 rfl (by omega) 1 (by omega) (by omega);refine⟨r,?_,e2,e3⟩;have h10':¬10<e.names.length:=by omega
   have e1':ak (L67_0 (ab pg) ak) [.int .i64 most,.int .i64 ((d:Int)+1),.ip [.int .i64 e.op,.int .i64 e.n,.str e.s,.str e.m,strs e.names,dC e.args],.int .i64 1,.int .i64 0]=am (.int .i64 r):=by
    simp only[gu]at e1;exact e1
   rw[C67];simp[S67,hge',h10,h10',e1']
def JZ(e:Exp)(he:e.Lim):∃b,ab pg 26 [e.av]=am (.bool b):=by
 obtain⟨r,e1,e2,e3⟩:=J1 14 (by omega) e he 60 (by omega) (by omega);have e1':ab pg 67 [e.av,.int .i64 60,.int .i64 14]=am (.int .i64 r):=e1;rw[C26];exact⟨decide (r<=60),by simp[S26,e1']⟩
def Gy(l:List cO)(hb:l.length<=140737488355328)(ht:∀f∈l,f.2.Lim):∃b,ab pg 24 [aO l]=am (.bool b):=by
 obtain⟨b,hb⟩:=xO (FL24_0 (ab pg)) (fun k=>[aO l,.int .i64 (k:Int)]) l.length ⟨decide ((l.length:Int)<=8),by simp[L24_0]⟩ (fun k hk=>by
  have h1:(k:Int)<(l.length:Int):=by omega
  have hix:=kK (l:=l) (n:=(k:Int)) (by omega) h1;rw[Nb,Nt l k hk]at hix;have hm':=Ni hk;generalize l[k]=f at hix hm';have w3:IntKind.i64.wrap ((k:Int)+1)=(k:Int)+1:=by rw[aE (by omega)];simp
  obtain⟨b,hb⟩:=JY f.2 (ht f hm');by_cases h9:(k:Int)<9
  ·have h9':k<9:=by omega
   cases b with
   |false=>exact .inl ⟨false,by simp[L24_0,h1,hk,hix,hb,h9,h9']⟩
   |true=>exact .inr (by simp[L24_0,h1,hk,hix,hb,h9,h9',w3])
  ·have h9':¬k<9:=by omega
   exact .inl ⟨decide ((l.length:Int)<=8),by simp[L24_0,h1,hk,h9,h9']⟩) 0 (Nz _)
 refine⟨b,?_⟩;rw[C24];have hb':ak (L24_0 (ab pg) ak) [aO l,.int .i64 0]=am (.bool b):=hb;simp only[S24,kk,hb',gJ]
def Gz(l:List Exp)(hb:l.length<=140737488355328)(ht:∀f∈l,f.Lim):∃b,ab pg 27 [dC l]=am (.bool b):=by
 obtain⟨b,hb⟩:=xO (FL27_0 (ab pg)) (fun k=>[dC l,.int .i64 (k:Int)]) l.length ⟨decide ((l.length:Int)<=8),by simp[L27_0]⟩ (fun k hk=>by
  have h1:(k:Int)<(l.length:Int):=by omega
  have hix:=zI (l:=l) (n:=(k:Int)) (by omega) h1;rw[Nb,Nt l k hk]at hix;have hm':=Ni hk;generalize l[k]=f at hix hm';have w3:IntKind.i64.wrap ((k:Int)+1)=(k:Int)+1:=by rw[aE (by omega)];simp
  obtain⟨b,hb⟩:=JZ f (ht f hm');by_cases h9:(k:Int)<9
  ·have h9':k<9:=by omega
   cases b with
   |false=>exact .inl ⟨false,by simp[L27_0,h1,hk,hix,hb,h9,h9']⟩
   |true=>exact .inr (by simp[L27_0,h1,hk,hix,hb,h9,h9',w3])
  ·have h9':¬k<9:=by omega
   exact .inl ⟨decide ((l.length:Int)<=8),by simp[L27_0,h1,hk,h9,h9']⟩) 0 (Nz _)
 refine⟨b,?_⟩;rw[C27];have hb':ak (L27_0 (ab pg) ak) [dC l,.int .i64 0]=am (.bool b):=hb;simp only[S27,yQ,hb',gJ]
def MA(m:Ap.Mod)(hm:m.Lim):∃b,ab pg 5 [m.av]=am (.bool b):=by
 have f1:=hm.funcs;obtain⟨b1,e1⟩:=Gy m.vars hm.vars hm.vty;obtain⟨b2,e2⟩:=Gz m.init hm.init hm.ies;obtain⟨b3,e3⟩:=Gy m.old hm.old hm.oty;obtain⟨b4,e4⟩:=Gz m.forward hm.forward hm.fes;obtain⟨b5,e5⟩:=Gz m.back hm.back hm.bes
 have base:∃b,L5_0 (ab pg) ak (ak (L5_0 (ab pg) ak)) [.ip (af m.av),.int .i64 (m.funcs.length:Int)]=am (.bool b):=by
  cases hq:(decide ((m.funcs.length:Int)<=6)&&decide ((m.uses.length:Int)<=6))with
  |false=>exact⟨false,by simp[L5_0];rw[hq];simp⟩
  | true=>cases b1 with
   |false=>exact⟨false,by simp[L5_0];rw[hq];simp[e1]⟩
   | true=>cases b2 with
    |false=>exact⟨false,by simp[L5_0];rw[hq];simp[e1,e2]⟩
    | true=>cases b3 with
     |false=>exact⟨false,by simp[L5_0];rw[hq];simp[e1,e2,e3]⟩
     |true=>cases b4 with
      |false=>exact⟨false,by simp[L5_0];rw[hq];simp[e1,e2,e3,e4]⟩
      |true=>exact⟨b5,by simp[L5_0];rw[hq];simp[e1,e2,e3,e4,e5]⟩
 obtain⟨b0,hb0⟩:=base;obtain⟨b,hb⟩:=xO (FL5_0 (ab pg)) (fun k=>[.ip (af m.av),.int .i64 (k:Int)]) m.funcs.length ⟨b0,hb0⟩ (fun k hk=>by
  have h1:(k:Int)<(m.funcs.length:Int):=by omega
  have hix:=Bd (l:=m.funcs) (n:=(k:Int)) (by omega) h1;rw[Nb,Nt m.funcs k hk]at hix;have hm':=Ni hk;generalize m.funcs[k]=f at hix hm';have hf:=hm.fns f hm';have w3:IntKind.i64.wrap ((k:Int)+1)=(k:Int)+1:=by rw[aE (by omega)];simp
  obtain⟨c1,g1⟩:=Gy f.params hf.params hf.pty;obtain⟨c2,g2⟩:=JY f.result hf.result;obtain⟨c3,g3⟩:=JZ f.body hf.body;by_cases h12:k<7
  ·have h12':(k:Int)<7:=by omega
   cases c1 with
   |false=>exact .inl ⟨false,by simp[L5_0,h1,hk,hix,h12,h12',g1]⟩
   | true=>cases c2 with
    |false=>exact .inl ⟨false,by simp[L5_0,h1,hk,hix,h12,h12',g1,g2]⟩
    |true=>cases c3 with
     |false=>exact .inl ⟨false,by simp[L5_0,h1,hk,hix,h12,h12',g1,g2,g3]⟩
     |true=>exact .inr (by simp[L5_0,h1,hk,hix,h12,h12',g1,g2,g3,w3])
  ·have h12':¬(k:Int)<7:=by omega
   refine .inl ⟨b0,?_⟩;rw[<- hb0];simp[L5_0,h1,hk,h12,h12']) 0 (Nz _)
 refine⟨b,?_⟩;rw[C5];have hb':ak (L5_0 (ab pg) ak) [.ip (af m.av),.int .i64 0]=am (.bool b):=hb;simp only[S5,nW,hb',gJ]
end Go.Proofs.YtighgcgmocboaaaGreatDoor
namespace Go.Proofs.YtighgcgmocboaaaGreatDoor
open Go Go.Av
set_option maxRecDepth 1000000
def yA:dZ pg 80 4 [] []= .ok (.bool true) []:=by kernel_rfl
def tx:ab pg 4 []=am (.bool true):=by
 funext h;have h1:=Bw hOther yA (by simp);have e:∀h,ab pg 4 [] h=aP (cB (pg.cx (ab pg) Tryz.f4.ntmps Gf) ak Tryz.f4 (pg.own 4) (fo aA [])) h:=fun h=>congrFun (iJ hOther rfl rfl rfl []) h;rw[e]at h1 |-;unfold aP at h1 |-;generalize cB (pg.cx (ab pg) Tryz.f4.ntmps Gf) ak Tryz.f4 (pg.own 4) (fo aA []) []=r at h1 |-;cases r with
 |ok v h'=>
  simp only[R.ok.injEq]at h1;show R.ok (gG 6 h' v) h=_;rw[h1.1];rfl
 |pan v h'=>cases h1
 |fail=>cases h1
end Go.Proofs.YtighgcgmocboaaaGreatDoor
namespace Go.Proofs.YtighgcgmocboaaaGreatDoor
open Go Go.Av Go.Av.Ap
set_option maxRecDepth 100000
def JU{a:Int}(h1:-9223372036854775808<=a)(h2:a<=9223372036854775807)(h:(dB a 15== 0)=true):0<=a/\a<=15:=by
 have e:=lg h1 h2;rw[h]at e;have e':=e.symm;rw[M5,M8,M8]at e';exact e'
def sO{f:Face}(he:∀s∈f.funcs,tQ s)(h:cI f=true):∀s∈f.funcs,0<=s.effects/\s.effects<=15:=by
 intro s hs;unfold cI at h;simp only[M5,M8,Nl]at h;have h3:=h.2.1 s hs;unfold cH at h3;simp only[M5,M8,Nl]at h3;exact JU (he s hs).1 (he s hs).2 h3.1.1.2
def AU(s:aQ):ly s=fG s:=CQ s (sO (qm s).2) (sO (vC s).2)
def AR(s:aQ):(fG s).1.Lim:=by
 unfold fG;split
 ·exact (qm s).1
 ·exact⟨by simp,fun x hx=>by cases hx⟩
def My(x:Face):cy 2 x.av=am x.av:=by rw[<- lK];rfl
def Mz(x:Sig):cy 5 x.av=am x.av:=mo x
def io(f:Face)(name:aQ):Sig×Bool:=match m9 f name with
 |some s=>(s,true)
 |none=>(tw,false)
def Ah{f:Face}(hf:f.Lim)(name:aQ):(io f name).1.Lim:=by
 unfold io m9;split
 ·rename_i s h;exact hf.sigs s (List.mem_of_find?_eq_some h)
 ·exact⟨by simp[tw],(fun t ht=>by cases ht),mz (by simp) (fun v hv=>by cases hv)⟩
theorem t3(m:Ap.Mod)(f:Face)(a b:Sig)(name s:aQ)(hm:m.Lim)(hme:∀g∈m.funcs,-9223372036854775808<=g.effects/\g.effects<=9223372036854775807)(hf:f.Lim)(he:∀s∈f.funcs,tQ s)(ha:a.Lim)(hae:-9223372036854775808<=a.effects/\a.effects<=9223372036854775807)(hb:b.Lim):ab pg 3 [m.av,f.av,a.av,b.av,.str name,.str s]=am (.bool true):=by
 obtain⟨r1,e1⟩:=MA m hm;obtain⟨r2,e2,g2⟩:=fx6 f hf;obtain⟨r3,e3,_⟩:=fx7 a ha;obtain⟨r4,e4,_⟩:=fx7 b hb;have lM:aX T 29 (.ip (af m.av))=some m.av:=rfl;have gt:∀x y:Int,bo T .gtr 3 (.int .i64 x) (.int .i64 y)=some (.bool (decide (y<x))):=fun _ _=>rfl;rw[C3,nW,eM,iS,iS,Hv,Hv];have key:S3 (ab pg) ak m.av f.av a.av b.av (.str name) (.str s)=am (.bool true):=by
  by_cases hg:(!r1||!r2||!r3||!r4||decide ((300:Int)<name.length)||decide ((2000:Int)<s.length))=true
  ·simp -implicitDefEqProofs only[S3,tx,ai,lM,HE,GJ,ae,e1,e2,e3,e4,bp,gl,gt,aF,aj,cX,hg,ah,Nj]
  ·rw[OG]at hg;have hs:s.length<=2000:=by
    have:=(Oc.1 hg).2
    rw[NC]at this;omega
   have hr2:r2=true:=by
    have h1:=(Oc.1 (Oc.1 (Oc.1 (Oc.1 (Oc.1 hg).1).1).1).1).2;simpa using h1
   have hT:=t8 f hf he;have hT2:=t9 f hf he;have hR:=t10 s (by omega);have hR2:ab pg 11 [.str s]=am (ma (fG s)):=by rw[t11 s (by omega),AU]
   have hF:ab pg 12 [f.av,.str name]=am (.tup [(io f name).1.av,.bool (io f name).2]):=by
    rw[t12 f hf (fun s hs=>⟨(g2 hr2 s hs).plen,(g2 hr2 s hs).pars,(g2 hr2 s hs).res⟩) name];unfold io;cases m9 f name<;>rfl
   have hF2:ab pg 13 [f.av,.str name]=am (.tup [(io f name).1.av,.bool (io f name).2]):=by
    rw[t13 f hf name];unfold io;cases m9 f name<;>rfl
   have hok:=t16 f hf;have hok2:=t17 f hf he;have hO:=MH m hm;have hO2:=t19 m hm hme;have hS:=t20 a b ha hb;have hS2:=t21 a b ha hb hae.1 hae.2;have u1:=t14 (fG s).1 (fG s).1 (AR s);have u2:=t15 (io f name).1 (io f name).1 (Ah hf name);have u3:=t14 (EH m) (EH m) (EI hm);have u4:=t22 f (fG s).1 hf;have u5:=t14 f (fG s).1 hf;have u6:=t22 f f hf;rw[ET]at u1 u3 u6;rw[zA]at u2;have hB:∀b:Bool,bo T .neq 4 (.bool b) (.bool b)=some (.bool false):=fun b=>by cases b<;>rfl
   have hB2:∀b:Bool,bo T .eql 4 (.bool b) (.bool b)=some (.bool true):=fun b=>by cases b<;>rfl
   have hN:∀x:aQ,bo T .neq 9 (.str x) (.str x)=some (.bool false):=fun x=>by rw[AF,OO];rfl
   have hE:∀x:Int,bo T .neq 42 (.int .i64 x) (.int .i64 x)=some (.bool false):=fun x=>by
    show some (AV.bool (!(x== x)))=_;rw[OO];rfl
   unfold ma at hR hR2;generalize fG s=u at *;generalize io f name=p at *;generalize fk f=x at *;generalize EH m=o at *;generalize Dg a b=z at *;generalize cI f=w at *;generalize mG f u.1=y at *;simp -implicitDefEqProofs only[S3,tx,ai,lM,HE,GJ,ae,e1,e2,e3,e4,bp,gl,gt,aF,aj,cX,hg,ah,M3,Na,hT,hT2,cR,ND,NX,hR,hR2,My,hF,hF2,Mz,hN,hE,hB,hB2,u1,u2,u3,u4,u5,u6,hok,hok2,hO,hO2,hS,hS2,bQ,Nv,PQ,au,aC,aw]
 rw[key];exact i6 true
end Go.Proofs.YtighgcgmocboaaaGreatDoor
namespace Go.Proofs.YtighgcgmocboaaaGreatDoor.faceTells
open Go Go.Av Go.Av.Ap Go.ChangeShapes Go.WideShapes Go.ChangeAt Go.RowKit Go.Joins Go.Deep
set_option maxRecDepth 1000000
def kids:Kids Tryz.prog (· < Tryz.prog.types.size):=kids_rows (by kernel_rfl) (by kernel_rfl)
def wT:∀t e,t<Tryz.prog.types.size->Tryz.prog.underlying t=some (.slice e)->0<Tryz.prog.cellsOf e:=slices_full_of Tryz.prog (by kernel_rfl)
def BF(H:Type)(enc:TypeId×Value->H)(W:World)(base:Nat)(args:Array Value)(ds gs:List (DataW H))(before:List MemPlace)(hval:∀(j:Nat) t v,Tryz.f3.params[j]? = some t->args[j]? = some v->Value.okWide Tryz.prog W .any base t v)(hW:DataW.Whole enc Tryz.prog Tryz.f3.params.toList Rows.faceTellsSpec.vars false W args.toList ds gs before)(hz:(DataW.weightsEach Tryz.prog (Tryz.f3.params.toList++Rows.faceTellsSpec.plain.varTypes Tryz.prog) (ds++gs)).all (· <=reachBytes)=true)(hL:laidMetH Tryz.prog Rows.faceTellsRow.laid W)(hS:W.ShapedOpen Tryz.prog):
  Calls Tryz.prog 3 args W fun e W'=>∃v,e= .returned v/\Rows.faceTellsSpec.post enc Tryz.prog Tryz.f3 false true false false W args v W':=by
 have hW':=hW;obtain⟨p,q,hA0,hV,rfl,hfz,hnd⟩:=hW;have hA:DataW.TrodAll enc Tryz.prog W 0 (fun _=>true) true Tryz.f3.params.toList args.toList ds p:=hA0;have hA1:=hA;rw[Tryz.params3]at hA hval hz;obtain⟨v0,vs0,d0,ds0,p0,q0,ha0,rfl,rfl,h0,r0⟩:=trodAll_cons hA;obtain⟨v1,vs1,d1,ds1,p1,q1,ha1,rfl,rfl,h1,r1⟩:=trodAll_cons r0;obtain⟨v2,vs2,d2,ds2,p2,q2,ha2,rfl,rfl,h2,r2⟩:=trodAll_cons r1;obtain⟨v3,vs3,d3,ds3,p3,q3,ha3,rfl,rfl,h3,r3⟩:=trodAll_cons r2;obtain⟨v4,vs4,d4,ds4,p4,q4,ha4,rfl,rfl,h4,r4⟩:=trodAll_cons r3;obtain⟨v5,vs5,d5,ds5,p5,q5,ha5,rfl,rfl,h5,r5⟩:=trodAll_cons r4;obtain⟨hnil,rfl,rfl⟩:=trodAll_nil r5;subst hnil;subst ha5;subst ha4;subst ha3;subst ha2;subst ha1;obtain rfl:args= #[v0,v1,v2,v3,v4,v5]:=by cases args;simp_all
 obtain⟨rfl,rfl⟩:=trodVars_none hV;obtain⟨x0,k0,o0⟩:=kg (fun N=>(ES N).le (OT N)) (fun a=>rfl) Tryz.underlying29 (hval 0 29 v0 rfl rfl) h0 (gD hz (j:=0) rfl rfl);obtain⟨x1,k1,o1⟩:=kg (fun N=>(CN N).le (OT N)) (fun a=>rfl) Tryz.underlying32 (hval 1 32 v1 rfl rfl) h1 (gD hz (j:=1) rfl rfl);obtain⟨x2,k2,o2⟩:=kg (fun N=>(uv N).le (OT N)) (fun a=>rfl) Tryz.underlying37 (hval 2 37 v2 rfl rfl) h2 (gD hz (j:=2) rfl rfl);obtain⟨x3,k3,o3⟩:=kg (fun N=>(uv N).le (OT N)) (fun a=>rfl) Tryz.underlying37 (hval 3 37 v3 rfl rfl) h3 (gD hz (j:=3) rfl rfl);obtain⟨x4,k4,o4⟩:=yN (fun N=>jy Tryz.underlying9) Tryz.underlying9 (hval 4 9 v4 rfl rfl) h4 (gD hz (j:=4) rfl rfl);obtain⟨x5,k5,o5⟩:=yN (fun N=>jy Tryz.underlying9) Tryz.underlying9 (hval 5 9 v5 rfl rfl) h5 (gD hz (j:=5) rfl rfl);clear hA0;simp only[Og]at hW' hA1;have hlt:=hW'.lt;have hv:aV (kf W) [] [x0.av,x1.av,x2.av,x3.av,.str x4,.str x5] [v0,v1,v2,v3,v4,v5]:=by
  simp only[aV];exact⟨_,_,rfl,k0,_,_,rfl,k1,_,_,rfl,k2,_,_,rfl,k3,_,_,rfl,k4,_,_,rfl,k5,rfl⟩
 refine (AA good hOther (GE hL hS) hv (by rw[t3 x0 x1 x2 x3 x4 x5 o0.1 o0.2 o1.1 o1.2 o2.1 o2.2 o3.1];rfl)).mono fun e W' ⟨he,hb⟩=>?_;subst he;exact⟨_,rfl,rW (pv:=[]) hW' (fun _ _ _=>trodAll_cons_mk (shut_bool Tryz.underlying4 _) trodAll_mk0) (fun sp hsp=>
   xi kids wT (by rw[Tryz.params3];decide +kernel) hA1 hlt hb sp hsp) (fun _ _=>rfl) (by simp)
  hb (ok_one (by kernel_rfl) rfl (okWide_bool_mk Tryz.underlying4 _))⟩
def reads(os:Os){H:Type}(enc:TypeId×Value->H):∃ds places,DataW.whole enc Tryz.prog ((oq os).forCall (fun _ _=>0) ⟨#[],#[.agg #[.string ⟨#[]⟩,.slice none 0 0,.slice none 0 0,.slice none 0 0,.slice none 0 0,.bool false,.slice none 0 0,.slice none 0 0,.slice none 0 0],.agg #[.string ⟨#[]⟩,.slice none 0 0],.agg #[.string ⟨#[]⟩,.slice none 0 0,.int .i64 0,.slice none 0 0,.int .i64 0],.agg #[.string ⟨#[]⟩,.slice none 0 0,.int .i64 0,.slice none 0 0,.int .i64 0],.string ⟨#[]⟩,.string ⟨#[]⟩],[]⟩).memory Tryz.f3.params.toList Rows.faceTellsSpec.vars false #[.agg #[.string ⟨#[]⟩,.slice none 0 0,.slice none 0 0,.slice none 0 0,.slice none 0 0,.bool false,.slice none 0 0,.slice none 0 0,.slice none 0 0],.agg #[.string ⟨#[]⟩,.slice none 0 0],.agg #[.string ⟨#[]⟩,.slice none 0 0,.int .i64 0,.slice none 0 0,.int .i64 0],.agg #[.string ⟨#[]⟩,.slice none 0 0,.int .i64 0,.slice none 0 0,.int .i64 0],.string ⟨#[]⟩,.string ⟨#[]⟩].toList 8=some (ds,[],places):=
 ⟨[.agg [.lit (.string []),.nil,.nil,.nil,.nil,.lit (.bool false),.agg [.nil,.nil,.nil]],.agg [.lit (.string []),.nil],.agg [.lit (.string []),.nil,.agg [.lit (.int .i64 0),.nil],.lit (.int .i64 0)],.agg [.lit (.string []),.nil,.agg [.lit (.int .i64 0),.nil],.lit (.int .i64 0)],.lit (.string []),.lit (.string [])],[],by kernel_rfl⟩
def lifted(os:Os)(started:os.Started)(H:Type)(enc:TypeId×Value->H)(F:Stop.Interp):
  ReturnsInHanded {} Tryz.checked os 3 .any ((OpenSpec.ofChange Rows.faceTellsSpec).preRow enc Tryz.prog Tryz.f3 Rows.faceTellsRow.domain false Rows.faceTellsRow.laid) (((OpenSpec.ofChange Rows.faceTellsSpec).at F).post enc Tryz.prog Tryz.f3 false true false false):=by
 obtain⟨ds,places,hx⟩:=reads os enc;refine returnsInHanded_of_row (C:=Tryz.checked) (s:=OpenSpec.ofChange Rows.faceTellsSpec) LQ started (by kernel_rfl) Tryz.func3
  (witness_row_atRef (enc:=enc) (C:=Tryz.checked) false (oq os) #[.agg #[.string ⟨#[]⟩,.slice none 0 0,.slice none 0 0,.slice none 0 0,.slice none 0 0,.bool false,.slice none 0 0,.slice none 0 0,.slice none 0 0],.agg #[.string ⟨#[]⟩,.slice none 0 0],.agg #[.string ⟨#[]⟩,.slice none 0 0,.int .i64 0,.slice none 0 0,.int .i64 0],.agg #[.string ⟨#[]⟩,.slice none 0 0,.int .i64 0,.slice none 0 0,.int .i64 0],.string ⟨#[]⟩,.string ⟨#[]⟩] rfl (by kernel_rfl) (by kernel_rfl) (by kernel_rfl)
   (OpenSpec.preRow_of_cond 8 hx (by kernel_rfl) (fun k hk=>by cases hk) (by kernel_rfl) (Cj os _))) ?_
 intro W base args ds gs before hval hW _ _ hz hL hS _;exact BF H enc W base args ds gs before hval hW hz hL hS
end Go.Proofs.YtighgcgmocboaaaGreatDoor.faceTells
