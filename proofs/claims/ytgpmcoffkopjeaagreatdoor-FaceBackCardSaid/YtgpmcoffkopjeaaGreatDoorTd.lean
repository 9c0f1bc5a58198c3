/- What the functions of the seat compute, part 4: the texts of the claim, one behind the other. Conditions: bounds, as each theorem names them. -/
import Derived.Test.YtgpmcoffkopjeaaGreatDoorTc
import Derived.Lib.SmallJoins
set_option linter.defProp false
set_option linter.unusedSimpArgs false
set_option linter.unusedVariables false
namespace Go.Proofs.YtgpmcoffkopjeaaGreatDoor
open Go Go.Av Go.Av.Ap
set_option maxRecDepth 100000
theorem gg{α:Type}(one:Rs->α×Rs)(P:α->Prop)(h1:∀r,P (one r).1)(n:Int)(cap:Nat):∀(f:Nat)(acc:List α)(r:Rs),(∀x∈acc,P x)->acc.length<=cap+1->(∀x∈(bd one n cap f acc r).1,P x)/\(bd one n cap f acc r).1.length<=cap+1
 |0,acc,r,h,hl=>⟨h,hl⟩
 | f+1,acc,r,h,hl=>by
  rw[bd];split
  ·rename_i hc;exact gg one P h1 n cap f _ _ (fun x hx=>by
    rcases Eg.1 hx with hx|hx
    ·exact h x hx
    ·rw[Fl]at hx;subst hx;exact h1 r) (by simp;omega)
  ·exact⟨h,hl⟩
theorem rW{k:Int}{fs:List dV}(h2:fs.length<=140737488355328)(h3:∀v∈fs,v.2.Lim):(Ty.mk k fs).Lim:=fun j=>match j with
 |0=>trivial
 |j+1=>⟨h2,fun x hx=>h3 x hx j⟩
theorem iQ:∀(d:Nat)(r:Rs),(aF d r).1.Lim
 |0,r=>rW (by simp) (fun v hv=>by cases hv)
 | d+1,r=>by
  rw[aF];split
  ·have h:=gg (na (aF d)) (fun f=>f.2.Lim) (fun r=>iQ d _) (aY 59 (aY 59 r).2).1 8 10 [] (aY 59 (aY 59 r).2).2 (by simp) (by simp);exact rW (by omega) h.1
  ·exact rW (by simp) (fun v hv=>by cases hv)
def xI(e:UInt8)(r:Rs):(aY e r).1<=9223372036854775807:=by
 unfold aY;split
 ·simp
 ·split
  ·rename_i hv
   have:=Lib.atoiAll_bounds hv
   split
   ·exact this.2
   ·simp
  ·simp
def Aq(s:Sig):Prop:=s.Lim/\tN s
def xP(r:Rs):Aq (gE r).1:=by
 have h:=gg (aF 4) (fun t=>t.Lim) (fun r=>iQ 4 r) (aY 59 (bF r).2).1 6 8 [] (aY 59 (bF r).2).2 (by simp) (by simp);unfold gE;refine⟨⟨by have:=h.2;simp only;omega,h.1,iQ 4 _⟩,?_,xI 59 _⟩
 have:=s9 59 (aF 4 (bd (aF 4) (aY 59 (bF r).2).1 6 8 [] (aY 59 (bF r).2).2).2).2
 simp only;omega
def p8(s:bj):(dA s).Lim/\∀x∈(dA s).funcs,tN x:=by
 have h:=gg gE Aq xP (aY 59 (bF (s,false)).2).1 30 32 [] (aY 59 (bF (s,false)).2).2 (by simp) (by simp);unfold dA;exact⟨⟨by have:=h.2;simp only;omega,fun x hx=>(h.1 x hx).1⟩,fun x hx=>(h.1 x hx).2⟩
def wv(r:Rs):(gE r).2.1.length<=r.1.length:=by
 unfold gE;simp only;exact EG (cR 59 _) (EG (ep 4 _) (EG (iH (aF 4) (ep 4) _ _ _ _ _) (EG (cR 59 _) (eY r))))
theorem BV(x y:Int):au T .gtr 3 (.int .i64 x) (.int .i64 y)=some (.bool (decide (y<x))):=rfl
def Cv(t:Ty):bM T 33 1 [(0,t.av)]=some (iR [t]):=by
 rw[show t.av= .agg [.int .i64 t.kind,bm t.fields]from(er t).symm,show iR [t]= .sl [t.av]from rfl,show t.av= .agg [.int .i64 t.kind,bm t.fields]from(er t).symm];rfl
def Cu(s:Sig):bM T 30 1 [(0,s.av)]=some (sigs [s]):=by
 rw[<- jf];exact rfl
theorem C2(l:List Ty):cK (iR l)=M.pure (iR l):=rfl
theorem C1(l:List Sig):cK (sigs l)=M.pure (sigs l):=rfl
theorem C0(n:Int):cK (.int .i64 n)=M.pure (.int .i64 n):=rfl
def xO(a:bj)(p:List Ty)(t:Ty)(e:Int):AV.agg [.str a,iR p,.int .i64 t.kind,bm t.fields,.int .i64 e]=(Sig.mk a p t e).av:=jf ⟨a,p,t,e⟩
def xy(s name mod:bj)(n m:Int)(x4 x5 y1 y2 y3:AV)(acc:List Sig)(hacc:acc.length<=1000)(l:Nat)(cont:List AV->M AV):
  ∀(f:Nat)(ps:List Ty)(h:Hp)(r:Rs),iT h l r->r.1.length<=1000000000->8<=ps.length+f->ps.length<=8->
  ai (L11_0 (af pg) ai cont) [.str s,.hp l 0,.int .i64 n,.int .i64 m,x4,x5,.str mod,sigs acc,.str name,iR ps,y1,y2,y3] h=
   cont [.str s,.hp l 0,.int .i64 n,x4,x5,.str mod,sigs (acc++[⟨name,(bd (aF 4) m 6 f ps r).1,(aF 4 (bd (aF 4) m 6 f ps r).2).1,(aY 59 (aF 4 (bd (aF 4) m 6 f ps r).2).2).1⟩])] (eE h l (aY 59 (aF 4 (bd (aF 4) m 6 f ps r).2).2).2):=by
 have hend:∀(ps:List Ty)(h:Hp)(r:Rs),iT h l r->r.1.length<=1000000000->(ae (af pg 41 [.hp l 0,.int .i64 4]) fun v37=>ae (aG 2 [] v37) fun v38=>ae (af pg 39 [.hp l 0]) fun v39=>ae (cK v39) fun _=>
   ae (ah (bM T 30 1 [(0,AV.agg [.str name,iR ps,nth (ab v38) 0,nth (ab v38) 1,v39])])) fun v41=>ae (ah (eH T 30 (sigs acc) v41)) fun v42=>ae (cK v42) fun _=>cont [.str s,.hp l 0,.int .i64 n,x4,x5,.str mod,v42]) h=
   cont [.str s,.hp l 0,.int .i64 n,x4,x5,.str mod,sigs (acc++[⟨name,ps,(aF 4 r).1,(aY 59 (aF 4 r).2).1⟩])] (eE h l (aY 59 (aF 4 r).2).2):=by
  intro ps h r H hb;have hT:=t41 l 4 (DT _) h r H hb;have hT':af pg 41 [.hp l 0,.int .i64 4] h= .ok (aF 4 r).1.av (eE h l (aF 4 r).2):=hT;have H1:=H.put (aF 4 r).2;have hN:=t39 H1 (by have:=ep 4 r;omega);rw[b7]at hN;have hap:=Ca (a:=acc) (b:=[⟨name,ps,(aF 4 r).1,(aY 59 (aF 4 r).2).1⟩]) (by simp;omega);rw[aC hT'];simp only[ey,ap,cb,aB,aT];rw[aC hN];simp only[C0,ap,xO,Cu,am,hap,C1]
 intro f
 induction f with
 |zero=>
  intro ps h r H hb hf hp;have h6:¬((ps.length:Int)<=6):=by omega
  rw[FL11_0];simp only[L11_0,aB,aT,ly,am,bp,dl,h6,EL,bl,eX,FF,dn,ap,bX,ar,D2,Ek];exact hend ps h r H hb
 | succ f ihf=>
  intro ps h r H hb hf hp;rw[FL11_0];have hL:=t40 H;by_cases hc:(ps.length:Int)<m/\ps.length<=6
  ·have h6:(ps.length:Int)<=6:=by omega
   by_cases hr:0<r.1.length
   ·have hr':(0:Int)<(r.1.length:Int):=by omega
    have hT:=t41 l 4 (DT _) h r H hb;have hT':af pg 41 [.hp l 0,.int .i64 4] h= .ok (aF 4 r).1.av (eE h l (aF 4 r).2):=hT;have H1:=H.put (aF 4 r).2;have hrec:=ihf (ps++[(aF 4 r).1]) _ _ H1 (by have:=ep 4 r;omega) (by simp;omega) (by simp;omega);rw[b7]at hrec;have hap:=Cb (a:=ps) (b:=[(aF 4 r).1]) (by simp;omega);have ei:bd (aF 4) m 6 (f+1) ps r=bd (aF 4) m 6 f (ps++[(aF 4 r).1]) (aF 4 r).2:=by rw[bd,DR ⟨hc.1,hc.2,hr⟩]
    rw[ei,<- hrec];simp only[L11_0,aB,aT,ly,am,bp,dl,hc.1,h6,Ex,ba,ap,aB,aW];rw[cv,aC hL];simp only[BV,hr',Ex,am,ap,aB,aW,ar,El];rw[aC hT'];simp only[Cv,am,hap,C2,ap]
   ·have hr':¬(0:Int)<(r.1.length:Int):=by omega
    have ei:bd (aF 4) m 6 (f+1) ps r=(ps,r):=by rw[bd,if_neg (by rintro⟨_,_,q⟩;exact hr q)]
    rw[ei];simp only[L11_0,aB,aT,ly,am,bp,dl,hc.1,h6,Ex,ba,ap,aB,aW];rw[cv,aC hL];simp only[BV,hr',EL,am,ap,aB,aW,ar,D2,Ek];exact hend ps h r H hb
  ·have hcc:(decide ((ps.length:Int)<m)&&decide ((ps.length:Int)<=6))=false:=by
    rw[E3,Eu,Eu];by_cases h1:(ps.length:Int)<m
    ·exact .inr fun h2=>hc ⟨h1,by omega⟩
    ·exact .inl h1
   have ei:bd (aF 4) m 6 (f+1) ps r=(ps,r):=by rw[bd,if_neg (by rintro⟨q1,q2,_⟩;exact hc ⟨q1,q2⟩)]
   rw[ei];simp only[L11_0,aB,aT,ly,am,bp,dl,bl,eX,hcc,dn,ap,bX,ar,D2,Ek];exact hend ps h r H hb
def sb(r:Face×Int):AV:=.tup [r.1.av,.int .i64 r.2]
def sQ(a:bj)(p:List Sig):AV.agg [.str a,sigs p]=(Face.mk a p).av:=jY ⟨a,p⟩
theorem xz(s mod:bj)(n:Int)(x4 x5:AV)(l:Nat)(G:List Sig)(t:bj)(e:Int)(hT:af pg 9 [(Face.mk mod G).av]=M.pure (.tup [.str t,.int .i64 e])):
  ∀(f:Nat)(acc:List Sig)(h:Hp)(r:Rs),iT h l r->r.1.length<=1000000000->32<=acc.length+f->acc.length<=32->(bd gE n 30 f acc r).1=G->
  ∃h',ai (L11_1 (af pg) ai) [.str s,.hp l 0,.int .i64 n,x4,x5,.str mod,sigs acc] h= .ok (sb (if e=0/\t=s then(⟨mod,G⟩,0)else(⟨[],[]⟩,2))) h':=by
 have ne:∀x y:Int,au T .neq 42 (.int .i64 x) (.int .i64 y)=some (.bool (x != y)):=fun _ _=>rfl;have ns:∀x y:bj,au T .neq 9 (.str x) (.str y)=some (.bool (x != y)):=fun _ _=>rfl;have bz:db T false 32 []=some (.agg [.str [],.sl []]):=rfl;have cz:aG 2 [] (.agg [.str [],.sl []])=M.pure (.agg [.str [],.sl []]):=rfl;have cf:∀F:Face,aG 2 [] F.av=M.pure F.av:=fun F=>by rw[<- jY];rfl
 have hend:∀(h:Hp),(ae (af pg 9 [AV.agg [.str mod,sigs G]]) fun v44=>ae (ah (aZ v44 0)) fun v45=>ae (ah (aZ v44 1)) fun v46=>ae (ah (au T BinOp.neq 42 v46 (AV.int IntKind.i64 0))) fun v47=>
   ae (aw v47 false 1 (ae (ah (au T BinOp.neq 9 v45 (.str s))) fun v48=>M.pure [v48])) fun v49=>ae (ah (aO v47 (AV.bool true) (nth v49 0))) fun v50=>
   aQ v50 (ae (ah (db T false 32 [])) fun v51=>ae (aG 2 [] v51) fun v52=>M.pure (AV.tup [AV.agg [nth (ab v52) 0,nth (ab v52) 1],AV.int IntKind.i64 2]))
    (ae (aG 2 [] (AV.agg [.str mod,sigs G])) fun v53=>M.pure (AV.tup [AV.agg [nth (ab v53) 0,nth (ab v53) 1],AV.int IntKind.i64 0]))) h= .ok (sb (if e=0/\t=s then(⟨mod,G⟩,0)else(⟨[],[]⟩,2))) h:=by
  intro h;rw[sQ];simp only[hT,ap,bK,D3,Et,am,ne,ns,bl,aB,fj,ar,bz,cz,cf,fY,aT,ko,sQ];by_cases hc:e=0/\t=s
  ·have:(e != 0||t != s)=false:=by simp[hc.1,hc.2]
   rw[DR hc,this];rfl
  ·have:(e != 0||t != s)=true:=by
    rw[Ey,Gq,Gq];by_cases h1:e=0
    ·exact .inr fun h2=>hc ⟨h1,h2⟩
    ·exact .inl h1
   rw[if_neg hc,this];rfl
 intro f
 induction f with
 |zero=>
  intro acc h r H hb hf hp hG;obtain rfl:acc=G:=hG;have h6:¬((acc.length:Int)<=30):=by omega
  refine⟨h,?_⟩;rw[FL11_1];simp only[L11_1,aB,aT,lx,am,bp,dl,h6,EL,bl,eX,FF,dn,ap,bX,ar,D2,Ek];exact hend h
 | succ f ihf=>
  intro acc h r H hb hf hp hG;rw[FL11_1];have hL:=t40 H;by_cases hc:(acc.length:Int)<n/\acc.length<=30
  ·have h6:(acc.length:Int)<=30:=by omega
   by_cases hr:0<r.1.length
   ·have hr':(0:Int)<(r.1.length:Int):=by omega
    have hT:=t38 H hb;have l1:=eY r;have H1:=H.put (bF r).2;have hN:=t39 H1 (by omega);rw[b7]at hN;have l2:=cR 59 (bF r).2;have H2:=H.put (aY 59 (bF r).2).2;have b0:∀s:bj,db T true 37 [(0,.str s)]=some (.agg [.str s,.hn,.int .i64 0,.hn,.int .i64 0]):=fun _=>rfl;have c0:∀s:bj,aG 5 [1] (.agg [.str s,.hn,.int .i64 0,.hn,.int .i64 0])=M.pure (.agg [.str s,.hn,.int .i64 0,.hn,.int .i64 0]):=fun _=>rfl;have hin:=xy s (bF r).1 mod n (aY 59 (bF r).2).1 x4 x5 (.int .i64 0) .hn (.int .i64 0) acc (by omega) l (ai (L11_1 (af pg) ai)) 8 [] _ _ H2 (by omega) (by simp) (by simp);rw[b7]at hin;have ei:bd gE n 30 (f+1) acc r=bd gE n 30 f (acc++[(gE r).1]) (gE r).2:=by rw[bd,DR ⟨hc.1,hc.2,hr⟩]
    rw[ei]at hG;have H3:=H.put (gE r).2;obtain⟨h',hrec⟩:=ihf (acc++[(gE r).1]) _ _ H3 (by have:=wv r;omega) (by simp;omega) (by simp;omega) hG;refine⟨h',?_⟩;rw[<- hrec];simp only[L11_1,aB,aT,lx,am,bp,dl,hc.1,h6,Ex,ba,ap,aB,aW];rw[cv,aC hL];simp only[BV,hr',Ex,am,ap,aB,aW,ar,El];rw[aC hT];simp only[b0,c0,am,ap];rw[aC hN];exact hin
   ·have hr':¬(0:Int)<(r.1.length:Int):=by omega
    have ei:bd gE n 30 (f+1) acc r=(acc,r):=by rw[bd,if_neg (by rintro⟨_,_,q⟩;exact hr q)]
    rw[ei]at hG;obtain rfl:acc=G:=hG;refine⟨h,?_⟩;simp only[L11_1,aB,aT,lx,am,bp,dl,hc.1,h6,Ex,ba,ap,aB,aW];rw[cv,aC hL];simp only[BV,hr',EL,am,ap,aB,aW,ar,D2,Ek];exact hend h
  ·have hcc:(decide ((acc.length:Int)<n)&&decide ((acc.length:Int)<=30))=false:=by
    rw[E3,Eu,Eu];by_cases h1:(acc.length:Int)<n
    ·exact .inr fun h2=>hc ⟨h1,by omega⟩
    ·exact .inl h1
   have ei:bd gE n 30 (f+1) acc r=(acc,r):=by rw[bd,if_neg (by rintro⟨q1,q2,_⟩;exact hc ⟨q1,q2⟩)]
   rw[ei]at hG;obtain rfl:acc=G:=hG;refine⟨h,?_⟩;simp only[L11_1,aB,aT,lx,am,bp,dl,bl,eX,hcc,dn,ap,bX,ar,D2,Ek];exact hend h
theorem t11(s:bj)(hb:s.length<=1000000000):af pg 11 [.str s]=M.pure (sb (dS s)):=by
 have hok:=p8 s;have hT:=t9 (dA s) hok.1 hok.2;have eo:af pg 37 [.str s] []= .ok (.hp 0 0) [[AV.str s,.bool false]]:=by
  rw[C37];rfl
 have H0:iT [[AV.str s,.bool false]] 0 (s,false):=rfl;have h1:=t38 H0 hb;have l1:=eY (s,false);have H1:=H0.put (bF (s,false)).2;have h2:=t39 H1 (EG l1 hb);rw[b7]at h2;have l2:=cR 59 (bF (s,false)).2;have H2:=H0.put (aY 59 (bF (s,false)).2).2;have b0:∀s:bj,db T true 32 [(0,.str s)]=some (.agg [.str s,.hn]):=fun _=>rfl;have c0:∀s:bj,aG 2 [1] (.agg [.str s,.hn])=M.pure (.agg [.str s,.hn]):=fun _=>rfl;obtain⟨h',hl⟩:=xz s (bF (s,false)).1 (aY 59 (bF (s,false)).2).1 (.str []) (.sl []) 0 (dA s).funcs (fl (dA s)).1 (fl (dA s)).2 hT 32 [] _ _ H2 (EG l2 (EG l1 hb)) (by simp) (by simp) rfl;rw[C11,show cl ax (.str s)= .str s from rfl];have key:S11 (af pg) ai (.str s) []= .ok (sb (dS s)) h':=by
  simp only[S11];rw[aC eo,aC h1];simp only[b0,c0,am,ap];rw[aC h2];have e1:dS s=if(fl (dA s)).2=0/\(fl (dA s)).1=s then(⟨(bF (s,false)).1,(dA s).funcs⟩,0)else(⟨[],[]⟩,2):=rfl;rw[e1];exact hl
 funext h;unfold aK;rw[key];have hcl:∀h,il 6 h (sb (dS s))=sb (dS s):=fun h=>by
  show AV.tup [il 6 h (Face.av _),.int .i64 _]=_;have:il 6 h (dS s).1.av=(dS s).1.av:=g7 _ _;rw[this];rfl
 show R.ok (il 6 h' (sb (dS s))) h=_;rw[hcl];rfl
def vB{F:(List AV->M AV)->List AV->M AV}(hF:∀vs,ai F vs=F (ai F) vs)(st:Nat->List AV)(n:Nat)(hend:∃b,F (ai F) (st n)=M.pure (.bool b))(hstep:∀k,k<n->(∃b,F (ai F) (st k)=M.pure (.bool b))\/F (ai F) (st k)=ai F (st (k+1))):
  ∀k,k<=n->∃b,ai F (st k)=M.pure (.bool b):=by
 have key:∀r k,n-k=r->k<=n->∃b,ai F (st k)=M.pure (.bool b):=by
  intro r
  induction r with
  |zero=>
   intro k hr hk;obtain rfl:k=n:=by omega
   rw[hF];exact hend
  | succ r ih=>
   intro k hr hk;rw[hF];rcases hstep k (by omega)with h|h
   ·exact h
   ·rw[h];exact ih (k+1) (by omega) (by omega)
 exact fun k hk=>key (n-k) k rfl hk
theorem A7:∀(d:Nat),d<=6->∀(t:Ty),t.Lim->∀most:Int,0<=most->most<=1000->∃r:Int,af pg 67 [t.av,.int .i64 most,.int .i64 d]=M.pure (.int .i64 r)/\1<=r/\r<=most+1
 |0,_,t,ht,most,h0,h1=>by
  have w1:IntKind.i64.wrap (most+1)=most+1:=eV (by omega) (by omega);refine⟨most+1,?_,by omega,by omega⟩;rw[C67];simp[S67,w1]
 | d + 1,hd,t,ht,most,h0,h1=>by
  have hlen:=ht.len;have hd1:IntKind.i64.wrap (((d+1:Nat):Int)-1)=(d:Int):=kj (by omega);have hl:∀(k i:Nat),t.fields.length-i=k->i<=t.fields.length->∀m:Int,1<=m->m<=most+1->∃r:Int,ai (L67_0 (af pg) ai) [.int .i64 most,.int .i64 ((d+1:Nat):Int),.ip (ab t.av),.int .i64 m,.int .i64 i]=M.pure (.int .i64 r)/\1<=r/\r<=most+1:=by
   intro k
   induction k with
   |zero=>
    intro i hk hi m hm1 hm2;rw[FL67_0];have h1:¬((i:Int)<(t.fields.length:Int)):=by omega
    exact⟨m,by simp[L67_0,h1],hm1,hm2⟩
   | succ k ihk=>
    intro i hk hi m hm1 hm2;rw[FL67_0];have hlt:i<t.fields.length:=by omega
    have h1':(i:Int)<(t.fields.length:Int):=by omega
    by_cases hm:m<=most
    ·have hix:=tj (l:=t.fields) (n:=(i:Int)) (by omega) h1';rw[Eb,EB t.fields i hlt]at hix;have hm':=Ed hlt;generalize t.fields[i]=f at hix hm';obtain⟨r,e1,e2,e3⟩:=A7 d (by omega) f.2 (ht.kid hm') (most-m) (by omega) (by omega);obtain⟨r2,g1,g2,g3⟩:=ihk (i+1) (by omega) (by omega) (m+r) (by omega) (by omega);have w1:IntKind.i64.wrap (most-m)=most-m:=eV (by omega) (by omega);have w2:IntKind.i64.wrap (m+r)=m+r:=eV (by omega) (by omega);have w3:IntKind.i64.wrap ((i:Int)+1)=((i+1:Nat):Int):=b5 (by omega);refine⟨r2,?_,g2,g3⟩;rw[<- g1];simp only[L67_0,aB,aT,cb,FA35_1,am,List.drop_succ_cons,Fa,LD23,jN,bp,dl,h1',hm,Ex,ba,ap,aW,ar,El,hix,dC,FA55_1,LD35,Ec,Es,Em,Nat.reduceAdd,DT,Fy,FI,er,sK,w1,hd1,e1,ga,w2,w3]
    ·exact⟨m,by simp[L67_0,h1',hm],hm1,hm2⟩
  obtain⟨r,e1,e2,e3⟩:=hl t.fields.length 0 rfl (by omega) 1 (by omega) (by omega);refine⟨r,?_,e2,e3⟩;rw[C67];have e1':ai (L67_0 (af pg) ai) [.int .i64 most,.int .i64 ((d+1:Nat):Int),.ip (ab t.av),.int .i64 1,.int .i64 0]=M.pure (.int .i64 r):=e1;have hge:¬((((d+1:Nat):Int))<1):=by omega
  simp only[S67,nN,zd,bp,am,hge,EL,ar,D2,Ek,e1',vM]
def A6(t:Ty)(ht:t.Lim):∃b,af pg 26 [t.av]=M.pure (.bool b):=by
 obtain⟨r,e1,e2,e3⟩:=A7 6 (by omega) t ht 40 (by omega) (by omega);have e1':af pg 67 [t.av,.int .i64 40,.int .i64 6]=M.pure (.int .i64 r):=e1;rw[C26];exact⟨decide (r<=40),by simp[S26,e1']⟩
def C5(s:Sig)(hs:s.Lim):∃b,af pg 8 [s.av]=M.pure (.bool b):=by
 have hlen:=hs.plen;obtain⟨br,hbr⟩:=A6 s.result hs.result;have hfin:∃b,(ae (ae (ah (au T BinOp.leq 3 (.int .i64 s.params.length) (AV.int IntKind.i64 8))) fun v19=>ae (aw v19 true 1 (M.pure [.bool br])) fun v23=>ae (ah (aO v19 (nth v23 0) (AV.bool false))) fun v24=>M.pure v24) M.pure:M AV)=M.pure (.bool b):=by
  cases br<;>by_cases h:(s.params.length:Int)<=8<;>simp[h]
 obtain⟨b,hb⟩:=vB (FL8_0 (af pg)) (fun k=>[.ip (ab s.av),.int .i64 (k:Int)]) s.params.length (by
  cases br<;>by_cases h:(s.params.length:Int)<=8<;>simp[L8_0,hbr,h]) (fun k hk=>by
  have h1:(k:Int)<(s.params.length:Int):=by omega
  have hix:=tk (l:=s.params) (n:=(k:Int)) (by omega) h1;rw[Eb,EB s.params k hk]at hix;have hm':=Ed hk;generalize s.params[k]=t at hix hm';have w3:IntKind.i64.wrap ((k:Int)+1)=(k:Int)+1:=by rw[b5 (by omega)];simp
  obtain⟨b,hb⟩:=A6 t (hs.ptys t hm');by_cases h9:(k:Int)<9
  ·have h9':k<9:=by omega
   cases b with
   |false=>exact .inl ⟨false,by simp[L8_0,h1,hk,hix,hb,h9,h9']⟩
   |true=>exact .inr (by simp[L8_0,h1,hk,hix,hb,h9,h9',w3])
  ·have h9':¬k<9:=by omega
   refine .inl ?_;cases br<;>by_cases h:(s.params.length:Int)<=8<;>simp[L8_0,h1,hk,h9,h9',hbr,h]) 0 (ER _)
 refine⟨b,?_⟩;rw[C8];have hb':ai (L8_0 (af pg) ai) [.ip (ab s.av),.int .i64 0]=M.pure (.bool b):=hb;simp only[S8,ry,hb',fP]
def oW{F:(List AV->M AV)->List AV->M AV}(hF:∀vs,ai F vs=F (ai F) vs)(st:Nat->List AV)(n:Nat)(hend:F (ai F) (st n)=M.pure (.bool true))(hstep:∀k,k<n->F (ai F) (st k)=ai F (st (k+1))):ai F (st 0)=M.pure (.bool true):=by
 have h:=lj hF st n (fun _=>true) hend (fun k hk=>by rw[DR rfl];exact hstep k hk) 0 (ER _);rw[h];congr 2;simp
def wI{t:Ty}{f:dV}(h:f∈t.fields):SizeOf.sizeOf f.2<SizeOf.sizeOf t:=by
 cases t with
 |mk k fs=>
  have h1:=List.sizeOf_lt_of_mem (show f∈fs from h);obtain⟨a,b⟩:=f;simp only[Prod.mk.sizeOf_spec]at h1;simp only[Ty.mk.sizeOf_spec];omega
def t51:∀(n:Nat)(t:Ty),SizeOf.sizeOf t<=n->t.Lim->af pg 51 [t.av,t.av]=M.pure (.bool true):=by
 intro n
 induction n with
 |zero=>intro t h;cases t;simp at h
 | succ n ih=>
  intro t hs ht;have hlen:=ht.len;have h:=oW (FL51_0 (af pg)) (fun k=>[.ip (ab t.av),.ip (ab t.av),.int .i64 (k:Int)]) t.fields.length (by simp[L51_0]) (fun k hk'=>by
   have h1:(k:Int)<(t.fields.length:Int):=by omega
   have hix:=tj (l:=t.fields) (n:=(k:Int)) (by omega) h1;rw[Eb,EB t.fields k hk']at hix;have hmm:=Ed hk';have hm:=ih t.fields[k].2 (by have:=wI hmm;omega) (ht.kid hmm);have hw:IntKind.i64.wrap ((k:Int)+1)=(k:Int)+1:=by rw[b5 (by omega)];simp
   generalize t.fields[k]=f at hix hm;simp[L51_0,h1,hk',hix,hm,hw])
  have h':ai (L51_0 (af pg) ai) [.ip (ab t.av),.ip (ab t.av),.int .i64 0]=M.pure (.bool true):=h;simp only[cb]at h';rw[C51];simp[S51,h']
def t16(s:Sig)(hs:s.Lim):af pg 16 [s.av,s.av]=M.pure (.bool true):=by
 have hlen:=hs.plen;have h:=oW (FL16_0 (af pg)) (fun k=>[.ip (ab s.av),.ip (ab s.av),.int .i64 (k:Int)]) s.params.length (by simp[L16_0]) (fun k hk'=>by
  have h1:(k:Int)<(s.params.length:Int):=by omega
  have hix:=tk (l:=s.params) (n:=(k:Int)) (by omega) h1;rw[Eb,EB s.params k hk']at hix;have hm:=t51 _ s.params[k] (DT _) (hs.ptys _ (Ed hk'));have hw:IntKind.i64.wrap ((k:Int)+1)=(k:Int)+1:=by rw[b5 (by omega)];simp
  generalize s.params[k]=f at hix hm;simp[L16_0,h1,hk',hix,hm,hw])
 have h':ai (L16_0 (af pg) ai) [.ip (ab s.av),.ip (ab s.av),.int .i64 0]=M.pure (.bool true):=h;simp only[iy]at h';have hr:=t51 _ s.result (DT _) hs.result;rw[C16];simp[S16,h',hr]
def t15(f:Face)(hf:f.Lim):af pg 15 [f.av,f.av]=M.pure (.bool true):=by
 have hlen:=hf.len;have h:=oW (FL15_0 (af pg)) (fun k=>[.ip (ab f.av),.ip (ab f.av),.int .i64 (k:Int)]) f.funcs.length (by simp[L15_0]) (fun k hk'=>by
  have h1:(k:Int)<(f.funcs.length:Int):=by omega
  have hix:=uv (l:=f.funcs) (n:=(k:Int)) (by omega) h1;rw[Eb,EB f.funcs k hk']at hix;have hm:=t16 f.funcs[k] (hf.sigs _ (Ed hk'));have hw:IntKind.i64.wrap ((k:Int)+1)=(k:Int)+1:=by rw[b5 (by omega)];simp
  generalize f.funcs[k]=s at hix hm;simp[L15_0,h1,hk',hix,hm,hw])
 have h':ai (L15_0 (af pg) ai) [.ip (ab f.av),.ip (ab f.av),.int .i64 0]=M.pure (.bool true):=h;simp only[ko]at h';rw[C15];simp[S15,h']
end Go.Proofs.YtgpmcoffkopjeaaGreatDoor
namespace Go.Proofs.YtgpmcoffkopjeaaGreatDoor
open Go Go.Av
set_option maxRecDepth 1000000
def sr:b9 pg 80 5 [] []= .ok (.bool true) []:=by kernel_rfl
def kf:af pg 5 []=M.pure (.bool true):=by
 funext h;have h1:=u5 hOther sr (by simp);have e:∀h,af pg 5 [] h=aK (bD (pg.cx (af pg) Tryz.f5.ntmps yW) ai Tryz.f5 (pg.own 5) (dJ ax [])) h:=fun h=>congrFun (ay hOther rfl rfl rfl []) h;rw[e]at h1 |-;unfold aK at h1 |-;generalize bD (pg.cx (af pg) Tryz.f5.ntmps yW) ai Tryz.f5 (pg.own 5) (dJ ax []) []=r at h1 |-;cases r with
 |ok v h'=>
  simp only[R.ok.injEq]at h1;show R.ok (il 6 h' v) h=_;rw[h1.1];rfl
 |pan v h'=>cases h1
 |fail=>cases h1
end Go.Proofs.YtgpmcoffkopjeaaGreatDoor
namespace Go.Proofs.YtgpmcoffkopjeaaGreatDoor
open Go Go.Av Go.Av.Ap
set_option maxRecDepth 100000
def C3(f:Face)(hf:f.Lim):∃b,af pg 7 [f.av]=M.pure (.bool b):=by
 have hlen:=hf.len;obtain⟨b,hb⟩:=vB (FL7_0 (af pg)) (fun k=>[.ip (ab f.av),.int .i64 (k:Int)]) f.funcs.length (by
  by_cases h:(f.funcs.length:Int)<=8<;>simp[L7_0,h]) (fun k hk=>by
  have h1:(k:Int)<(f.funcs.length:Int):=by omega
  have hix:=uv (l:=f.funcs) (n:=(k:Int)) (by omega) h1;rw[Eb,EB f.funcs k hk]at hix;have hm':=Ed hk;generalize f.funcs[k]=t at hix hm';have w3:IntKind.i64.wrap ((k:Int)+1)=(k:Int)+1:=by rw[b5 (by omega)];simp
  obtain⟨b,hb⟩:=C5 t (hf.sigs t hm');by_cases h9:(k:Int)<9
  ·have h9':k<9:=by omega
   cases b with
   |false=>exact .inl ⟨false,by simp[L7_0,h1,hk,hix,hb,h9,h9']⟩
   |true=>exact .inr (by simp[L7_0,h1,hk,hix,hb,h9,h9',w3])
  ·have h9':¬k<9:=by omega
   refine .inl ?_;by_cases h:(f.funcs.length:Int)<=8<;>simp[L7_0,h1,hk,h9,h9',h]) 0 (ER _)
 refine⟨b,?_⟩;rw[C7];have hb':ai (L7_0 (af pg) ai) [.ip (ab f.av),.int .i64 0]=M.pure (.bool b):=hb;simp only[S7,g7,hb',fP]
def A4{a:Int}(h1:-9223372036854775808<=a)(h2:a<=9223372036854775807)(h:(eP a 15== 0)=true):0<=a/\a<=15:=by
 have e:=lK h1 h2 h;have hle:(BitVec.ofInt 64 a &&& BitVec.ofInt 64 15).toNat<=15:=by
  rw[BitVec.toNat_and];exact EG Nat.and_le_right (by decide)
 unfold yQ at e;rw[wrap64 _ (by omega),if_neg (by omega)]at e;omega
def tO{f:Face}(he:∀s∈f.funcs,tN s)(h:cP f=true):∀s∈f.funcs,0<=s.effects/\s.effects<=15:=by
 intro s hs;unfold cP at h;simp only[DK,DU,DW]at h;have h3:=h.2.1 s hs;unfold di at h3;simp only[DK,DU,DW]at h3;exact A4 (he s hs).1 (he s hs).2 h3.1.1.2
def Cz(x:Face):bo 2 x.av=M.pure x.av:=by rw[<- jY];rfl
theorem Bb(y:AV):gv false false y=y:=rfl
theorem Be(y:AV):gv true true y=y:=rfl
theorem Bc(y:AV):gv false true y= .tup []:=rfl
theorem Bd(y:AV):gv true false y= .tup []:=rfl
theorem t4(f:Face)(s:bj)(hf:f.Lim)(he:∀s∈f.funcs,tN s):af pg 4 [f.av,.str s]=M.pure (.bool true):=by
 obtain⟨r,hr⟩:=C3 f hf;have hT:=t9 f hf he;have hR:=t17 f hf;have lA:∀f:Face,ak T 32 (.ip (ab f.av))=some f.av:=fun f=>by simp
 have gt:∀x y:Int,au T .gtr 3 (.int .i64 x) (.int .i64 y)=some (.bool (decide (y<x))):=fun _ _=>rfl;have ee:∀x y:Int,au T .eql 42 (.int .i64 x) (.int .i64 y)=some (.bool (x== y)):=fun _ _=>rfl;have en:∀x y:Int,au T .neq 42 (.int .i64 x) (.int .i64 y)=some (.bool (x != y)):=fun _ _=>rfl;have bn:∀x y:Bool,au T .neq 4 (.bool x) (.bool y)=some (.bool (x != y)):=fun _ _=>rfl;have sn:∀x y:bj,au T .neq 9 (.str x) (.str y)=some (.bool (x != y)):=fun _ _=>rfl;have se:∀x y:bj,au T .eql 9 (.str x) (.str y)=some (.bool (x== y)):=fun _ _=>rfl;have bz:db T false 32 []=some (Face.mk [] []).av:=rfl;have lz:(Face.mk [] []).Lim:=⟨by simp,fun s hs=>by cases hs⟩;have sz:=t15 ⟨[],[]⟩ lz;have hK:s.length<=2000->K4_0 (af pg) ai [.str s,.bool true]=M.pure (.bool true):=by
  intro hs;have hrd:=t11 s (by omega);by_cases h0:(dS s).2=0
  ·obtain⟨e1,e2,e3⟩:=wm h0;have hok:=p8 s;have hT2:=t9 (dA s) hok.1 hok.2;have hR2:=t17 (dA s) hok.1;rw[e2]at hR2;unfold fl at hT2;rw[e2,DR rfl,e3]at hT2;have hrd':af pg 11 [.str s]=M.pure (.tup [(dA s).av,.int .i64 0]):=by rw[hrd,e1];rfl
   have z1:((0:Int) != 0)=false:=rfl;have z2:((0:Int)== 0)=true:=rfl;simp only[K4_0,aB,aT,hrd',ap,bK,D3,Et,am,Cz,en,z1,ar,D2,Ek,lA,hT2,ba,hR2,aW,ee,z2,se,BEq.rfl]
  ·have e1:=wk h0;have hrd':af pg 11 [.str s]=M.pure (.tup [(Face.mk [] []).av,.int .i64 2]):=by rw[hrd,e1];rfl
   have z1:((2:Int) != 0)=true:=rfl;have z2:((2:Int)== 2)=true:=rfl;simp only[K4_0,aB,aT,hrd',ap,bK,D3,Et,am,Cz,en,z1,ar,El,lA,ba,aW,ee,z2,bz,sz]
 rw[C4,g7,show cl ax (.str s)= .str s from rfl];have key:S4 (af pg) ai f.av (.str s)=M.pure (.bool true):=by
  by_cases hg:(!r||decide ((2000:Int)<s.length))=true
  ·simp only[S4,kf,ap,lA,am,hr,fB,nh,gt,bl,aB,fj,hg,ar,El]
  ·rw[F6]at hg;have hs:s.length<=2000:=by
    have:=(Fv.1 hg).2
    rw[Eu]at this;omega
   have hk:=hK hs;cases hrf:cP f with
   | false=>
    rw[hrf]at hR;have hT':af pg 9 [f.av]=M.pure (.tup [.str [],.int .i64 1]):=by rw[hT];unfold fl;rw[hrf];rfl
    have z1:((1:Int)== 0)=false:=rfl;have z2:((1:Int) != 0)=true:=rfl;have z3:((1:Int) != 1)=false:=rfl;have z4:(([]:bj) != [])=false:=rfl;have z5:(false != false)=false:=rfl;simp only[S4,kf,ap,lA,am,hr,fB,nh,gt,bl,aB,fj,hg,ar,D2,Ek,hT',bK,D3,Et,ee,en,hR,bn,sn,z1,z2,z3,z4,z5,
     Bb,Be,Bc,Bd,mc,ba,dn,g9,aW,bX,List.replicate,jn]
    exact hk
   | true=>
    rw[hrf]at hR;have hE:=tO he hrf;have hlen:=p9 hrf;have hT':af pg 9 [f.av]=M.pure (.tup [.str (fa f),.int .i64 0]):=by rw[hT];unfold fl;rw[hrf];rfl
    have r1:af pg 11 [.str (fa f)]=M.pure (.tup [f.av,.int .i64 0]):=by rw[t11 _ (by omega),un hrf hE];rfl
    have r2:af pg 11 [.str (fa f++[48,59])]=M.pure (.tup [(Face.mk [] []).av,.int .i64 2]):=by rw[t11 _ (by simp;omega),um hrf hE (by simp)];rfl
    have hc:=rt (fa f) [48,59] (by simp;omega);have sm:=t15 f hf;have z1:((0:Int)== 0)=true:=rfl;have z2:((0:Int) != 0)=false:=rfl;have z3:((2:Int) != 2)=false:=rfl;have z5:(true != true)=false:=rfl;simp only[S4,kf,ap,lA,am,hr,fB,nh,gt,bl,aB,fj,hg,ar,D2,Ek,El,hT',bK,D3,Et,ee,en,hR,bn,sn,z1,z2,z3,z5,
     Bb,Be,Bc,Bd,mc,ba,dn,g9,aW,bX,List.replicate,jn,r1,hc,r2,Cz,sm,Fg]
    exact hk
 rw[key];exact fP true
end Go.Proofs.YtgpmcoffkopjeaaGreatDoor
namespace Go.Proofs.YtgpmcoffkopjeaaGreatDoor.faceBack
open Go Go.Av Go.Av.Ap Go.ChangeShapes Go.WideShapes Go.ChangeAt Go.RowKit Go.Joins Go.Deep
set_option maxRecDepth 1000000
def kids:Kids Tryz.prog (· < Tryz.prog.types.size):=kids_rows (by kernel_rfl) (by kernel_rfl)
def qY:∀t e,t<Tryz.prog.types.size->Tryz.prog.underlying t=some (.slice e)->0<Tryz.prog.cellsOf e:=slices_full_of Tryz.prog (by kernel_rfl)
def ve(H:Type)(enc:TypeId×Value->H)(W:World)(base:Nat)(args:Array Value)(ds gs:List (DataW H))(before:List MemPlace)(hval:∀(j:Nat) t v,Tryz.f4.params[j]? = some t->args[j]? = some v->Value.okWide Tryz.prog W .any base t v)(hW:DataW.Whole enc Tryz.prog Tryz.f4.params.toList Rows.faceBackSpec.vars false W args.toList ds gs before)(hz:(DataW.weightsEach Tryz.prog (Tryz.f4.params.toList++Rows.faceBackSpec.plain.varTypes Tryz.prog) (ds++gs)).all (· <=reachBytes)=true)(hL:laidMetH Tryz.prog Rows.faceBackRow.laid W)(hS:W.ShapedOpen Tryz.prog):
  Calls Tryz.prog 4 args W fun e W'=>∃v,e= .returned v/\Rows.faceBackSpec.post enc Tryz.prog Tryz.f4 false true false false W args v W':=by
 have hW':=hW;obtain⟨p,q,hA0,hV,rfl,hfz,hnd⟩:=hW;have hA:DataW.TrodAll enc Tryz.prog W 0 (fun _=>true) true Tryz.f4.params.toList args.toList ds p:=hA0;have hA1:=hA;rw[Tryz.params4]at hA hval hz;obtain⟨v0,vs0,d0,ds0,p0,q0,ha0,rfl,rfl,h0,r0⟩:=trodAll_cons hA;obtain⟨v1,vs1,d1,ds1,p1,q1,ha1,rfl,rfl,h1,r1⟩:=trodAll_cons r0;obtain⟨hnil,rfl,rfl⟩:=trodAll_nil r1;subst hnil;subst ha1;obtain rfl:args= #[v0,v1]:=by cases args;simp_all
 obtain⟨rfl,rfl⟩:=trodVars_none hV;obtain⟨x0,k0,o0⟩:=ri (fun N=>(we N).le (Nat.le_succ N)) (fun a=>rfl) Tryz.underlying32 (hval 0 32 v0 rfl rfl) h0 (lY hz (j:=0) rfl rfl);obtain⟨x1,k1,o1⟩:=w4 (fun N=>pi Tryz.underlying9) Tryz.underlying9 (hval 1 9 v1 rfl rfl) h1 (lY hz (j:=1) rfl rfl);clear hA0;simp only[Gf]at hW' hA1;have hlt:=hW'.lt;have hv:aE (gC W) [] [x0.av,.str x1] [v0,v1]:=by
  simp only[aE];exact⟨_,_,rfl,k0,_,_,rfl,k1,rfl⟩
 refine (ub good hOther (zo hL hS) hv (by rw[t4 x0 x1 o0.1 o0.2];rfl)).mono fun e W' ⟨he,hb⟩=>?_;subst he;exact⟨_,rfl,nj (pv:=[]) hW' (fun _ _ _=>trodAll_cons_mk (shut_bool Tryz.underlying4 _) trodAll_mk0) (fun sp hsp=>
   rj kids qY (by rw[Tryz.params4];decide +kernel) hA1 hlt hb sp hsp) (fun _ _=>rfl) (by simp)
  hb (ok_one (by kernel_rfl) rfl (okWide_bool_mk Tryz.underlying4 _))⟩
def reads(os:Os){H:Type}(enc:TypeId×Value->H):∃ds places,DataW.whole enc Tryz.prog ((j9 os).forCall (fun _ _=>0) ⟨#[],#[.agg #[.string ⟨#[]⟩,.slice none 0 0],.string ⟨#[]⟩],[]⟩).memory Tryz.f4.params.toList Rows.faceBackSpec.vars false #[.agg #[.string ⟨#[]⟩,.slice none 0 0],.string ⟨#[]⟩].toList 8=some (ds,[],places):=
 ⟨[.agg [.lit (.string []),.nil],.lit (.string [])],[],by kernel_rfl⟩
def lifted(os:Os)(started:os.Started)(H:Type)(enc:TypeId×Value->H)(F:Stop.Interp):
  ReturnsInHanded {} Tryz.checked os 4 .any ((OpenSpec.ofChange Rows.faceBackSpec).preRow enc Tryz.prog Tryz.f4 Rows.faceBackRow.domain false Rows.faceBackRow.laid) (((OpenSpec.ofChange Rows.faceBackSpec).at F).post enc Tryz.prog Tryz.f4 false true false false):=by
 obtain⟨ds,places,hx⟩:=reads os enc;refine returnsInHanded_of_row (C:=Tryz.checked) (s:=OpenSpec.ofChange Rows.faceBackSpec) CM started (by kernel_rfl) Tryz.func4
  (witness_row_atRef (enc:=enc) (C:=Tryz.checked) false (j9 os) #[.agg #[.string ⟨#[]⟩,.slice none 0 0],.string ⟨#[]⟩] rfl (by kernel_rfl) (by kernel_rfl) (by kernel_rfl)
   (OpenSpec.preRow_of_cond 8 hx (by kernel_rfl) (fun k hk=>by cases hk) (by kernel_rfl) (vQ os _))) ?_
 intro W base args ds gs before hval hW _ _ hz hL hS _;exact ve H enc W base args ds gs before hval hW hz hL hS
end Go.Proofs.YtgpmcoffkopjeaaGreatDoor.faceBack
