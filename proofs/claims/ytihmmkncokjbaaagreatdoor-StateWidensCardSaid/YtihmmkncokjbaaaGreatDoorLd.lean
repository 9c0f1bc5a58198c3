/- The abstract evaluator and plain laws, part 4. Condition: the table of types is the program's. -/
import Derived.Test.YtihmmkncokjbaaaGreatDoorLc
set_option linter.defProp false
set_option linter.unusedSimpArgs false
set_option linter.unusedVariables false
namespace Go.Av.Ap
open Go Go.Av
def gA(out:List bv)(s:bO):Nat:=(out.takeWhile fun f=>aC f.1 s).length
def db(rec:Ty->Ty->Option Ty):List bv->List bv->Option (List bv)
 |out,[]=>some out
 | out,f:: l=>match out[gA out f.1]? with
  | some g=>if g.1=f.1 then(match rec g.2 f.2 with
    |none=>none
    |some t=>db rec (out.set (gA out f.1) (g.1,t)) l)
   else db rec (out.take (gA out f.1)++f:: out.drop (gA out f.1)) l
  |none=>db rec (out.take (gA out f.1)++f:: out.drop (gA out f.1)) l
def cd:Nat->Ty->Ty->Option Ty
 |0,_,_=>none
 | d+1,a,b=>if a.kind=b.kind then(match db (cd d) a.fields b.fields with
   |none=>none
   |some l=>some (.mk a.kind l))else none
theorem ta:∀ {out:List bv} {s:bO} {k:Nat},k<=out.length->(∀j (hj:j<out.length),j<k->aC out[j].1 s=true)->(∀j (hj:j<out.length),k<=j->aC out[j].1 s=false)->gA out s=k
 |[],s,k,h,_,_=>by simp at h;subst h;rfl
 |f:: out,s,0,_,_,h2=>by
  have:=h2 0 (by simp) (Ga _)
  unfold gA;rw[Ip];have h3:aC f.1 s=false:=this;rw[h3];rfl
 |f:: out,s,k+1,h,h1,h2=>by
  have h3:aC f.1 s=true:=h1 0 (by simp) (by omega);have ih:=ta (out:=out) (s:=s) (k:=k) (by simpa using h) (fun j hj hk=>h1 (j+1) (Nat.succ_lt_succ hj) (by omega)) (fun j hj hk=>h2 (j+1) (Nat.succ_lt_succ hj) (by omega));unfold gA at ih |-;rw[Ip,h3];simp[ih]
def fw(a b:List (bv×AV)):rowOf cv (a++b)=rowOf cv a++rowOf cv b:=by simp[rowOf]
def xa{ps:List (bv×AV)}{k:Nat}(h:k<=ps.length):(rowOf cv ps).take (3*k)=rowOf cv (ps.take k):=by
 have e:rowOf cv ps=rowOf cv (ps.take k)++rowOf cv (ps.drop k):=by rw[<- fw,Hl]
 have hl:(rowOf cv (ps.take k)).length=3*k:=by rw[cD iQ,Gl];omega
 rw[e];exact HX hl
def wZ{ps:List (bv×AV)}{k:Nat}(h:k<=ps.length):(rowOf cv ps).drop (3*k)=rowOf cv (ps.drop k):=by
 have e:rowOf cv ps=rowOf cv (ps.take k)++rowOf cv (ps.drop k):=by rw[<- fw,Hl]
 have hl:(rowOf cv (ps.take k)).length=3*k:=by rw[cD iQ,Gl];omega
 rw[e];exact List.drop_left' hl
def y7{ps:List (bv×AV)}{q:bv×AV}{k:Nat}(h:k<=ps.length):(rowOf cv ps).take (3*k)++ae (cv q)++(rowOf cv ps).drop (3*k)=rowOf cv (ps.take k++q:: ps.drop k):=by
 rw[xa h,wZ h,fw,dR,GI]
def BK{ps:List (bv×AV)}{k:Nat}(h:k<ps.length):((rowOf cv ps).drop (k*3+1)).take 2=[.int .i64 ps[k].1.2.kind,ps[k].2]:=by
 have e:=ee iQ ps k h;have e2:((rowOf cv ps).drop (k*3+1)).take 2=(((rowOf cv ps).drop (k*3)).take 3).drop 1:=by
  rw[IW,IX]
 rw[e2,e];rfl
def y9{ps:List (bv×AV)}{k:Nat}(h:k<ps.length)(t:Ty)(fs:AV):setCells (rowOf cv ps) (k*3+1) [.int .i64 t.kind,fs]=rowOf cv (ps.set k ((ps[k].1.1,t),fs)):=by
 have e0:ps=ps.take k++ps[k]:: ps.drop (k+1):=by rw[<- GA h,Hl]
 have e1:ps.set k ((ps[k].1.1,t),fs)=ps.take k++((ps[k].1.1,t),fs):: ps.drop (k+1):=by
  rw[Ic,Gg h]
 have hl:(rowOf cv (ps.take k)).length=k*3:=by rw[cD iQ,Gl];omega
 rw[e1,fw,dR];have e2:rowOf cv ps=rowOf cv (ps.take k)++([.str ps[k].1.1]++([.int .i64 ps[k].1.2.kind,ps[k].2]++rowOf cv (ps.drop (k+1)))):=by
  conv=>lhs;rw[e0]
  rw[fw,dR];rfl
 unfold setCells;rw[e2];have t1:(rowOf cv (ps.take k)++([AV.str ps[k].1.1]++([.int .i64 ps[k].1.2.kind,ps[k].2]++rowOf cv (ps.drop (k+1))))).take (k*3+1)=rowOf cv (ps.take k)++[AV.str ps[k].1.1]:=by
  rw[<- GI];exact HX (by rw[Gf,hl];rfl)
 have t2:(rowOf cv (ps.take k)++([AV.str ps[k].1.1]++([.int .i64 ps[k].1.2.kind,ps[k].2]++rowOf cv (ps.drop (k+1))))).drop (k*3+1+2)=rowOf cv (ps.drop (k+1)):=by
  rw[<- GI,<- GI];exact List.drop_left' (by rw[Gf,Gf,hl];rfl)
 show _++[AV.int .i64 t.kind,fs]++List.drop (k*3+1+2) _=_;rw[t1,t2];show _=rowOf cv (ps.take k)++([AV.str ps[k].1.1,.int .i64 t.kind,fs]++rowOf cv (ps.drop (k+1)));simp
def rE{f g q:bv}{v:Val}(h1:q.1=g.1)(h2:f.1=g.1)(h:∀x,eo q.2 x↔eo g.2 x/\eo f.2 x):fJ q v↔fJ g v/\fJ f v:=by
 rw[gx,gx,gx,h1,h2];constructor
 ·rintro⟨x,e,hx⟩;exact⟨⟨x,e,((h x).1 hx).1⟩,⟨x,e,((h x).1 hx).2⟩⟩
 ·rintro⟨⟨x,e,hx⟩,⟨y,e2,hy⟩⟩;rw[e]at e2;cases e2;exact⟨x,e,(h x).2 ⟨hx,hy⟩⟩
theorem jI{rec:Ty->Ty->Option Ty}(hrec:∀a b t,rec a b=some t->∀x,eo t x↔eo a x/\eo b x)(v:Val):∀(l:List bv){out m:List bv},db rec out l=some m->(((∀f∈m,fJ f v)↔(∀f∈out,fJ f v)/\∀f∈l,fJ f v)/\(m=[]↔out=[]/\l=[]))
 |[],out,m,h=>by
  simp only[db,F7]at h;subst h;simp
 | f :: l,out,m,h=>by
  have ins:∀k,db rec (out.take k++f:: out.drop k) l=some m->(((∀f∈m,fJ f v)↔(∀f∈out,fJ f v)/\∀g∈f:: l,fJ g v)/\(m=[]↔out=[]/\f:: l=[])):=by
   intro k h;obtain⟨i1,i2⟩:=jI hrec v l h;refine⟨?_,?_⟩
   ·rw[i1];have e:(∀g∈out.take k++f:: out.drop k,fJ g v)↔(∀g∈out,fJ g v)/\fJ f v:=by
     conv=>rhs;rw[<- Hl k out]
     simp only[Gx,Gt];constructor
     ·intro h;exact⟨fun g hg=>h g (hg.imp id .inr),h f (.inr (.inl rfl))⟩
     ·rintro⟨h1,h2⟩ g (hg|rfl|hg)
      ·exact h1 g (.inl hg)
      ·exact h2
      ·exact h1 g (.inr hg)
    rw[e];simp only[Gt,forall_eq_or_imp,and_assoc]
   ·rw[i2];simp
  simp only[db]at h;split at h
  ·rename_i g hg;split at h
   ·rename_i hn;split at h
    ·cases h
    ·rename_i t ht;obtain⟨i1,i2⟩:=jI hrec v l h;obtain⟨hk,hg'⟩:=HE.1 hg;refine⟨?_,?_⟩
     ·rw[i1];have e0:out=out.take (gA out f.1)++g:: out.drop (gA out f.1+1):=by rw[<- hg',<- GA hk,Hl]
      have e1:out.set (gA out f.1) (g.1,t)=out.take (gA out f.1)++(g.1,t):: out.drop (gA out f.1+1):=by
       rw[Ic,Gg hk]
      rw[e1];have e2:(∀x∈out,fJ x v)↔(∀x∈out.take (gA out f.1)++g:: out.drop (gA out f.1+1),fJ x v):=by rw[<- e0]
      rw[e2];have hq:=rE (f:=f) (g:=g) (q:=(g.1,t)) (v:=v) rfl hn.symm (hrec _ _ _ ht);simp only[Gx,Gt,or_imp,forall_and,forall_eq,hq]
      grind
     ·rw[i2];have:out≠[]:=List.ne_nil_of_length_pos (by omega);simp[this]
   ·exact ins _ h
  ·exact ins _ h
theorem ot:∀(d:Nat)(a b t:Ty),cd d a b=some t->∀v,eo t v↔eo a v/\eo b v
 |0,_,_,_,h=>by cases h
 | d+1,a,b,t,h=>fun v=>by
  simp only[cd]at h;split at h
  ·rename_i hk;split at h
   ·cases h
   ·rename_i l hl;cases h;obtain⟨i1,i2⟩:=jI (ot d) v b.fields hl;obtain⟨ka,fa⟩:=a;obtain⟨kb,fb⟩:=b;simp only[Ty.kind,Ty.fields]at hk i1 i2 |-;subst hk;simp only[eo,gQ];rw[i1,ne_eq,i2];by_cases h1:fa=[]<;>by_cases h2:fb=[]<;>simp[h1,h2]<;>grind
  ·cases h
theorem eQ:∀(d:Nat)(t:Ty),a6 d t=true->∀n,Ty.limN n t
 |0,t,h,_=>by cases h
 |d+1,t,h,0=>trivial
 |d+1,t,h,n+1=>by
  rw[bM]at h;simp only[F8,Ge,Gk]at h;exact⟨by omega,fun f hf=>eQ d f.2 (h.2.1 f hf).2 n⟩
theorem gB{rec:Ty->Ty->Option Ty}{d:Nat}{P:Ty->Prop}(hP:∀t,a6 d t=true->P t)(hrec:∀a b t,a6 d a=true->a6 d b=true->rec a b=some t->P t):∀(l:List bv){out m:List bv},db rec out l=some m->
  (l.Pairwise fun f g=>f.1≠g.1)->(∀f∈l,a6 d f.2=true)->(∀g∈out,P g.2/\((∃f∈l,g.1=f.1)->a6 d g.2=true))->m.length<=out.length+l.length/\∀g∈m,P g.2
 |[],out,m,h,_,_,ho=>by
  simp only[db,F7]at h;subst h;exact⟨by simp,fun g hg=>(ho g hg).1⟩
 | f :: l,out,m,h,hp,hl,ho=>by
  rw[HK]at hp;have hf:=hl f Hf;have ins:∀k,db rec (out.take k++f:: out.drop k) l=some m->m.length<=out.length+(f:: l).length/\∀g∈m,P g.2:=fun k h=>by
   obtain⟨i1,i2⟩:=gB hP hrec l h hp.2 (fun x hx=>hl x (GV _ hx)) (fun g hg=>by
    have hg':g∈out\/g=f:=by
     rcases Gx.1 hg with hg|hg
     ·exact .inl (Hg hg)
     ·rcases Gt.1 hg with rfl|hg
      ·exact .inr rfl
      ·exact .inl (Hh hg)
    rcases hg' with hg|rfl
    ·exact⟨(ho g hg).1,fun⟨x,hx,e⟩=>(ho g hg).2 ⟨x,GV _ hx,e⟩⟩
    ·exact⟨hP _ hf,fun _=>hf⟩)
   refine⟨?_,i2⟩;simp only[Gf,Gu,Gl,Hc]at i1 |-;omega
  simp only[db]at h;split at h
  ·rename_i g hg;split at h
   ·rename_i hn;split at h
    ·cases h
    ·rename_i t ht;have hgm:=He hg;have hgr:=(ho g hgm).2 ⟨f,Hf,hn⟩;obtain⟨i1,i2⟩:=gB hP hrec l h hp.2 (fun x hx=>hl x (GV _ hx)) (fun x hx=>by
      rcases HZ hx with hx|rfl
      ·exact⟨(ho x hx).1,fun⟨y,hy,e⟩=>(ho x hx).2 ⟨y,GV _ hy,e⟩⟩
      ·exact⟨hrec _ _ _ hgr hf ht,fun⟨y,hy,e⟩=>absurd (hn.symm.trans e) (hp.1 y hy)⟩)
     refine⟨?_,i2⟩;simp only[GZ,Gu]at i1 |-;omega
   ·exact ins _ h
  ·exact ins _ h
theorem td:∀(n d:Nat)(a b t:Ty),a6 d a=true->a6 d b=true->cd d a b=some t->Ty.limN n t
 |0,_,_,_,_,_,_,_=>trivial
 |n+1,0,_,_,_,h,_,_=>by cases h
 | n+1,d+1,a,b,t,ha,hb,h=>by
  simp only[cd]at h;split at h
  ·split at h
   ·cases h
   ·rename_i l hl;cases h;rw[bM]at ha hb;simp only[F8,Ge,Gk]at ha hb;have hpb:=gJ (nm:=fun f:bv=>f.1) (fun x y h=>(fE _ _).1 h) _ hb.2.2;obtain⟨i1,i2⟩:=gB (d:=d) (P:=Ty.limN n) (fun t h=>eQ d t h n) (fun a b t h1 h2 h3=>td n d a b t h1 h2 h3) b.fields hl (hpb.imp fun{x y} h e=>by rw[e,cX]at h;cases h) (fun f hf=>(hb.2.1 f hf).2) (fun g hg=>⟨eQ d g.2 (ha.2.1 g hg).2 n,fun _=>(ha.2.1 g hg).2⟩);have h1:=ha.1.1.2;have h2:=hb.1.1.2;exact⟨by show l.length<=_;omega,i2⟩
  ·cases h
def eN(a b:Ty):Option Ty:=if bd a&&bd b then(match cd 4 a b with
 |some t=>if bd t then some t else none
 |none=>none)else none
def wL{a b t:Ty}(h:eN a b=some t)(v:Val):dn t v=(dn a v&&dn b v):=by
 unfold eN at h;split at h
 ·rename_i hr;rw[F8]at hr;split at h
  ·rename_i u hu;split at h
   ·rename_i ht;cases h;rw[Hn,F8];constructor
    ·intro hv;have hf:cE 4 v=true:=by simp only[dn,F8]at hv;exact hv.2.1
     have:=(ot 4 a b t hu v).1 (fk hv)
     exact⟨gy hr.1 hf this.1,gy hr.2 hf this.2⟩
    ·rintro⟨h1,h2⟩;have hf:cE 4 v=true:=by simp only[dn,F8]at h1;exact h1.2.1
     exact gy ht hf ((ot 4 a b t hu v).2 ⟨fk h1,fk h2⟩)
   ·cases h
  ·cases h
 ·cases h
def xo{a b:Ty}(h:su a b=true){v:Val}(hv:dn a v=true):dn b v=true:=by
 have hr:bd b=true:=by simp only[su,F8]at h;exact h.1.2
 have hb:gl a b=true:=by simp only[su,F8]at h;exact h.2
 have hf:cE 4 v=true:=by simp only[dn,F8]at hv;exact hv.2.1
 exact gy hr hf (na 4 a b v hr hb (fk hv))
def um{a b u:Ty}(ha:bd a=true)(h:nM a b=some u){v:Val}(hv:dn a v=true\/dn b v=true):dn u v=true:=by
 have hr:bd u=true:=mj 4 a b u ha h;have hf:cE 4 v=true:=by rcases hv with hv|hv<;>(simp only[dn,F8]at hv;exact hv.2.1)
 exact gy hr hf (hv.elim (fun hv=>(oi a b u h v).1 (fk hv)) fun hv=>(oi a b u h v).2 (fk hv))
mutual
def xB:Val->Prop
 |.mk _ _ ns vs=>(∀s∈ns,s.length<=60)/\uQ vs
def uQ:List Val->Prop
 |[]=>True
 |v:: l=>xB v/\uQ l
end
theorem qj:∀l:List Val,uQ l↔∀v∈l,xB v
 |[]=>by simp[uQ]
 |v:: l=>by rw[uQ,qj l];simp
def yR(v:Val):xB v↔(∀s∈v.names,s.length<=60)/\∀x∈v.values,xB x:=by
 cases v;rw[xB,qj];rfl
end Go.Av.Ap
