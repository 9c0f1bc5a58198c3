/- The abstract evaluator of the model and plain laws, part 4: its soundness holds for every program whose table of types is the evaluator's. No further condition. -/
import Derived.Test.YteemeakjlfnapaaGreatDoorLc
set_option linter.defProp false
set_option linter.unusedSimpArgs false
set_option linter.unusedVariables false
namespace Go.Av.Ap
open Go Go.Av
def bv(n:Int):BitVec 64:=BitVec.ofInt 64 n
def fT(a b:Int):Prop:=bv a ||| bv b=bv b
def fT.refl(a:Int):fT a a:=BitVec.or_self
def fT.trans{a b c:Int}(h1:fT a b)(h2:fT b c):fT a c:=by
 unfold fT at *;rw[<- h2,<- BitVec.or_assoc,h1]
theorem tN(b:BitVec 64):bv (IntKind.i64.wrap b.toNat)=b:=by
 unfold bv;have h:IntKind.i64.wrap b.toNat=b.toInt:=by
  have h:=b.isLt;rw[BitVec.toInt_eq_toNat_cond];have h1:(2:Int) ^ IntKind.i64.bits=18446744073709551616:=rfl;have h2:(2:Int) ^ (IntKind.i64.bits-1)=9223372036854775808:=rfl;have h3:((2 ^ 64:Nat):Int)=18446744073709551616:=rfl;have h4:(b.toNat:Int) % 18446744073709551616=b.toNat:=by omega
  simp only[IntKind.wrap,h1,h2,h3,h4];have h5:IntKind.i64.signed=true:=rfl;rw[h5,HA];by_cases hb:2*b.toNat<2 ^ 64
  ·rw[GD hb,if_neg (by simp;omega)]
  ·rw[if_neg hb,GD (by simp;omega)]
 rw[h,BitVec.ofInt_toInt]
def AL(a b:Int):bv (lY a b)=bv a ||| bv b:=tN _
def lv{a b:Int}(h:cn a b=0):fT a b:=by
 have h1:bv (cn a b)=bv a &&& ~~~ bv b:=tN _;rw[h]at h1;unfold fT;have h2:bv a &&& ~~~ bv b=0#64:=h1.symm
 ext i hi
 have:=GI (fun x:BitVec 64=>x.getLsbD i) h2
 simp only[BitVec.getLsbD_and,BitVec.getLsbD_not,hi,Hq,HA,BitVec.getLsbD_zero]at this;rw[Ja];simp only[BitVec.getLsbD_eq_getElem hi]at this;cases h1:(bv a)[i]<;>cases h2:(bv b)[i]<;>simp[h1,h2]at this |-
mutual
def FE:Ty->Val->Prop
 |.mk k fs,v=>v.kind=k/\(fs≠[]->k=2)/\A1 fs v
def A1:List (bA×Ty)->Val->Prop
 |[],_=>True
 |f:: fs,v=>FD f v/\A1 fs v
def FD:bA×Ty->Val->Prop
 |(n,t),v=>∃x,sZ v.names v.values n=some x/\FE t x
end
theorem dN{α:Type}{p:α->Bool}:{l:List α} ->{z:α} ->aM p l=some z->z∈l/\p z=true
 |[],z,h=>by cases h
 | x:: l,z,h=>by
  simp only[aM]at h;split at h
  ·rename_i y hy;cases h
   have:=dN hy
   exact⟨Hl _ this.1,this.2⟩
  ·cases hx:p x with
   |true=>
    rw[hx]at h;cases h;exact⟨Hs,hx⟩
   |false=>rw[hx]at h;cases h
def sd{f:br}{l:List br}{g:br}(h:yQ f l=some g):g.1=f.1/\∃z,z∈l/\z.1=f.1/\nK f.2 z.2=some g.2:=by
 obtain⟨n,t⟩:=f;simp only[yQ]at h;split at h
 ·rename_i z hz;split at h
  ·rename_i u hu;cases h
   have:=dN hz
   exact⟨rfl,z,this.1,Ha.1 this.2,hu⟩
  ·cases h
 ·cases h
theorem nJ(l:List br)(g:br):(fs:List br)->g∈fV fs l->∃f∈fs,yQ f l=some g
 |[],h=>by simp[fV]at h
 | f:: fs,h=>by
  simp only[fV,G6]at h;rcases h with h|h
  ·split at h
   ·rename_i x hx;simp only[HL]at h;exact⟨f,Hs,by rw[hx,h]⟩
   ·cases h
  ·obtain⟨f',h1,h2⟩:=nJ l g fs h;exact⟨f',Hl _ h1,h2⟩
def eF(a b:Ty):aJ a b=true↔a.kind=b.kind/\∀f∈b.fields,∃z,aM (fun z=>z.1== f.1) a.fields=some z/\aJ z.2 f.2=true:=by
 rw[iO];simp only[Gz,Ha,GJ];refine and_congr_right fun _=>⟨fun h f hf=>?_,fun h f hf=>?_⟩
 ·have:=h f hf
  split at this
  ·rename_i z hz;exact⟨z,hz,this⟩
  ·cases this
 ·obtain⟨z,h1,h2⟩:=h f hf;rw[h1];exact h2
def mr{a b c:Ty}(h1:aJ a b=true)(h2:aJ b c=true):aJ a c=true:=pB _ a b c (GC _) h1 h2
theorem oQ{α:Type}(p:α->Bool):(a b:List α)->aM p (a++b)=match aM p b with
  |some y=>some y
  |none=>aM p a
 |[],b=>by
  simp only[Hi,aM];split<;>simp_all
 |x:: a,b=>by
  simp only[G7,aM,oQ p a b];cases aM p b<;>rfl
theorem ry{α:Type}{p:α->Bool}:{l:List α} ->aM p l=none->∀x∈l,p x=false
 | y:: l,h,x,hx=>by
  simp only[aM]at h;cases hl:aM p l with
  |some z=>rw[hl]at h;cases h
  | none=>
   rw[hl]at h;rcases G1.1 hx with rfl|hx
   ·cases hp:p x with
    |false=>rfl
    |true=>rw[hp]at h;cases h
   ·exact ry hl x hx
theorem oS(l:List br)(s:bA):(fs:List br)->{z:br} ->aM (fun z=>z.1== s) fs=some z->{g:br} ->yQ z l=some g->aM (fun z=>z.1== s) (fV fs l)=some g
 | f:: fs,z,h,g,hg=>by
  simp only[aM]at h;simp only[fV];rw[oQ];cases hl:aM (fun z:br=>z.1== s) fs with
  |some y=>
   rw[hl]at h;cases h;rw[oS l s fs hl hg]
  | none=>
   rw[hl]at h;have hno:aM (fun z:br=>z.1== s) (fV fs l)=none:=jt fun x hx=>by
    obtain⟨f',h1,h2⟩:=nJ l x fs hx;rw[(sd h2).1];exact ry hl f' h1
   rw[hno];cases hp:f.1== s with
   |false=>rw[hp]at h;cases h
   |true=>
    rw[hp]at h;cases h;rw[hg];have e:(g.1== s)=true:=by rw[(sd hg).1];exact hp
    simp only[aM,e,GA]
def yR(a b:Ty):nK a b=if a.kind=b.kind then some (.mk a.kind (fV a.fields b.fields))else none:=by cases a;rfl
theorem nI(z:br)(l:List br):yQ z l=match aM (fun x=>x.1== z.1) l with
  |some x=>(match nK z.2 x.2 with|some u=>some (z.1,u)|none=>none)
  |none=>none:=by
 obtain⟨n,t⟩:=z;simp only[yQ];cases aM (fun z:br=>z.1== n) l with
 |none=>rfl
 |some x=>cases nK t x.2<;>rfl
def Ah:∀(n:Nat)(a b a' b' u:Ty),SizeOf.sizeOf a<=n->aJ a' a=true->aJ b' b=true->nK a b=some u->∃u',nK a' b'=some u'/\aJ u' u=true:=by
 intro n
 induction n with
 |zero=>intro a;intros;cases a;simp at *
 | succ n ih=>
  intro a b a' b' u hn ha hb hu;rw[eF]at ha hb;rw[yR]at hu;split at hu
  ·rename_i hk;cases hu;refine⟨_,by rw[yR,GD (by rw[ha.1,hb.1,hk])],?_⟩;rw[eF];refine⟨ha.1,fun g hg=>?_⟩;obtain⟨f,hf,h2⟩:=nJ _ g _ hg;have h2':=h2;rw[nI]at h2;split at h2
   ·rename_i z hz;split at h2
    ·rename_i v hv;cases h2;obtain⟨z1,g1,g2⟩:=ha.2 f hf;obtain⟨h3,h4⟩:=dN hz;obtain⟨z2,g3,g4⟩:=hb.2 z h3;have h4:z.1=f.1:=Ha.1 h4;rw[h4]at g3;have hsz:=xN hf;obtain⟨w,w1,w2⟩:=ih f.2 z.2 z1.2 z2.2 v (by omega) g2 g4 hv;have hz1:z1.1=f.1:=Ha.1 (dN g1).2;refine⟨(z1.1,w),oS _ _ _ g1 (by rw[nI,hz1,g3];simp only[w1]),w2⟩
    ·cases h2
   ·cases h2
  ·cases hu
theorem oq{α β:Type}{F:α->β->Bool}:{a:List α} ->{b:List β} ->cf F a b=true->a.length=b.length
 |[],[],_=>rfl
 |x:: a,y:: b,h=>by
  simp only[cf,Gz]at h;simp only[GN,oq h.2]
def jM{l' l:List Ty}(h:cf aJ l' l=true)(i:Nat):aJ l'[i]! l[i]! = true:=by
 induction l' generalizing l i with
 |nil=>cases l with
  |nil=>simp;rfl
  |cons y l=>cases h
 | cons x l' ih=>cases l with
  |nil=>cases h
  |cons y l=>
   simp only[cf,Gz]at h;cases i with
   |zero=>simpa using h.1
   |succ i=>simpa using ih h.2 i
theorem jh(k:Int):{l' l:List Ty} ->cf aJ l' l=true->f9 k l'=f9 k l
 |[],[],_=>rfl
 |x:: l',y:: l,h=>by
  simp only[cf,Gz]at h;have ih:=jh k h.2;unfold f9 at ih |-;rw[HB,HB,ih,((eF _ _).1 h.1).1]
theorem po:(ns:List bA)->(l' l:List Ty)->cf aJ l' l=true->∀f∈ns.zip l,∃t,(f.1,t)∈ns.zip l'/\aJ t f.2=true
 | n:: ns,x:: l',y:: l,h,f,hf=>by
  simp only[cf,Gz]at h;rw[I5]at hf |-;rcases G1.1 hf with rfl|hf
  ·exact⟨x,Hs,h.1⟩
  ·obtain⟨t,h1,h2⟩:=po ns l' l h.2 f hf;exact⟨t,Hl _ h1,h2⟩
 |[],_,_,_,f,hf=>by simp at hf
 |n:: ns,[],[],_,f,hf=>by simp at hf
theorem sg{R:bA->bA->Prop}:(ns:List bA)->(l:List Ty)->ns.Pairwise R->(ns.zip l).Pairwise fun x y=>R x.1 y.1
 |[],_,_=>by simp
 |_:: _,[],_=>by simp
 |n:: ns,t:: l,h=>by
  rw[I5];obtain⟨h1,h2⟩:=HX.1 h;refine HX.2 ⟨fun x hx=>h1 _ (List.of_mem_zip hx).1,sg ns l h2⟩
def tp{e:Exp}(he:iJ e=true){l' l:List Ty}(h:cf aJ l' l=true){t:Ty}(ht:bO e l=some t):∃t',bO e l'=some t'/\aJ t' t=true:=by
 have b0:∀k,aJ (.mk k []) (.mk k [])=true:=fun k=>by rw[eF];exact⟨rfl,fun f hf=>by cases hf⟩
 unfold bO at ht |-;rw[jh 0 h,jh 1 h];split at ht
 ·rw[GD ‹_›];split at ht
  ·cases ht;rw[GD ‹_›];exact⟨_,rfl,b0 _⟩
  ·cases ht
 rw[if_neg ‹_›];split at ht
 ·rw[GD ‹_›];cases ht;exact⟨_,rfl,b0 _⟩
 rw[if_neg ‹_›];split at ht
 ·rw[GD ‹_›];split at ht
  ·cases ht;rw[GD ‹_›];exact⟨_,rfl,b0 _⟩
  ·cases ht
 rw[if_neg ‹_›];split at ht
 ·rw[GD ‹_›];split at ht
  ·cases ht;rw[GD ‹_›];exact⟨_,rfl,b0 _⟩
  ·cases ht
 rw[if_neg ‹_›];split at ht
 ·rw[GD ‹_›];split at ht
  ·cases ht;rw[GD ‹_›];exact⟨_,rfl,b0 _⟩
  ·cases ht
 rw[if_neg ‹_›];split at ht
 ·rw[GD ‹_›];cases hu:nK l[1]! l[2]! with
  |none=>rw[hu]at ht;cases ht
  |some u=>
   rw[hu]at ht;obtain⟨u',h1,h2⟩:=Ah _ _ _ _ _ _ (GC _) (jM h 1) (jM h 2) hu;rw[h1];simp only at ht |-;rw[((eF _ _).1 (jM h 0)).1];split at ht
   ·cases ht;rw[GD ‹_›];exact⟨_,rfl,h2⟩
   ·cases ht
 rw[if_neg ‹_›];split at ht
 ·rename_i h13;rw[GD h13];cases ht;refine⟨_,rfl,?_⟩;have hns:gD dk e.names=true:=by
   unfold iJ dX qa at he;simp[h13]at he;exact he.2.1.2
  have hp:=sg e.names l' (kz (nm:=fun s:bA=>s) (fun x y h=>(ml _ _).1 h) _ hns);rw[eF];refine⟨rfl,fun f hf=>?_⟩;obtain⟨u,h1,h2⟩:=po e.names l' l h f hf;have h3:=kO (nm:=fun f:br=>f.1) hp h1;exact⟨_,h3,h2⟩
 rw[if_neg ‹_›];split at ht
 ·rw[GD ‹_›];cases hz:aM (fun z:br=>z.1== e.s) l[0]!.fields with
  |none=>rw[hz]at ht;cases ht
  |some z=>
   rw[hz]at ht;cases ht;obtain⟨h1,h2⟩:=dN hz;obtain⟨y,h3,h4⟩:=((eF _ _).1 (jM h 0)).2 z h1;have h2:z.1=e.s:=Ha.1 h2;rw[h2]at h3;rw[h3];exact⟨_,rfl,h4⟩
 rw[if_neg ‹_›];cases ht;exact⟨_,rfl,b0 _⟩
def fH(e:Exp):Prop:=∃k,ck k e=true
def fH.shape{e:Exp}(h:fH e):iJ e=true:=by
 obtain⟨k,h⟩:=h;cases k with
 |zero=>cases h
 |succ k=>rw[f8,Gz]at h;exact h.1
def fH.kid{e:Exp}(h:fH e){x:Exp}(hx:x∈e.args):fH x:=by
 obtain⟨k,h⟩:=h;cases k with
 |zero=>cases h
 |succ k=>rw[f8,Gz,GJ]at h;exact⟨k,h.2 x hx⟩
def tx:fH default:=⟨1,by decide +kernel⟩
def fH.nth{e:Exp}(h:fH e)(i:Nat):fH e.args[i]!:=by
 by_cases hi:i<e.args.length
 ·rw[GR e.args i hi];exact h.kid (GH hi)
 ·rw[getElem!_neg e.args i hi];exact tx
structure CLe (c c':Tcx):Prop where
 vars:c'.vars=c.vars
 vok:∀z∈c.vars,aJ z.2 z.2=true
 call:∀e s,cr c e=some s->∃s',cr c' e=some s'/\cf aJ s.1 s'.1=true/\aJ s'.2.1 s.2.1=true/\fT s'.2.2 s.2.2
def Ch(f' f:br):Bool:=f'.1== f.1&&aJ f'.2 f.2
theorem ub{s:bA}:{ls' ls:List br} ->cf Ch ls' ls=true->(aM (fun z=>z.1== s) ls=none->aM (fun z=>z.1== s) ls'=none)/\∀z,aM (fun z=>z.1== s) ls=some z->∃z',aM (fun z=>z.1== s) ls'=some z'/\aJ z'.2 z.2=true
 |[],[],_=>⟨fun _=>rfl,fun z h=>by cases h⟩
 | x:: ls',y:: ls,h=>by
  simp only[cf,Gz,Ch,Ha]at h;obtain⟨⟨h1,h2⟩,h3⟩:=h;obtain⟨i1,i2⟩:=ub (s:=s) h3;simp only[aM];cases hl:aM (fun z:br=>z.1== s) ls with
  |some z=>
   obtain⟨z',e1,e2⟩:=i2 z hl;rw[e1];exact⟨fun h=>(by cases h),fun w hw=>by cases hw;exact⟨z',rfl,e2⟩⟩
  |none=>
   rw[i1 hl,h1];cases y.1== s with
   |true=>exact⟨fun h=>(by cases h),fun z hz=>by cases hz;exact⟨x,rfl,h2⟩⟩
   |false=>exact⟨fun _=>rfl,fun z hz=>by cases hz⟩
theorem qF{α β:Type}{F:α->β->Bool}:{a:List α} ->{b:List β} ->cf F a b=true->∀ {x y},F x y=true->cf F (a++[x]) (b++[y])=true
 |[],[],_,x,y,h=>by simp[cf,h]
 |z:: a,w:: b,h,x,y,hxy=>by
  simp only[cf,Gz]at h;simp only[G7,cf,Gz];exact⟨h.1,qF h.2 hxy⟩
def oz:{a b c:List Ty} ->cf aJ a b=true->cf aJ b c=true->cf aJ a c=true:=fun h1 h2=>mm (F:=aJ) (fun _ _ _ h h'=>mr h h') h1 h2
def ui{a a' b b':Int}(h1:fT a' a)(h2:fT b' b):fT (lY a' b') (lY a b):=by
 unfold fT at *;rw[AL,AL,<- h1,<- h2]
 ext i hi
 simp only[Ja];cases (bv a)[i]<;>cases (bv a')[i]<;>cases (bv b)[i]<;>cases (bv b')[i]<;>rfl
def sb{a b:Int}(h:fT a b):cn a b=0:=by
 unfold cn;have:BitVec.ofInt 64 a &&& ~~~ BitVec.ofInt 64 b=0#64:=by
  have h:bv a ||| bv b=bv b:=h;show bv a &&& ~~~ bv b=0#64
  ext i hi
  have h3:=GI (fun x:BitVec 64=>x[i]'hi) h;simp only[Ja]at h3;simp only[BitVec.getElem_and,BitVec.getElem_not,BitVec.getElem_zero];cases h1:(bv a)[i]<;>cases h2:(bv b)[i]<;>simp[h1,h2]at h3 |-
 rw[this];rfl
def vS(x x':dq Ty):Prop:=∀n n' t m,fT n' n->x n= .ok t m->∃t' m',x' n'= .ok t' m'/\aJ t' t=true/\fT m' m
def Dh(x x':dq (List Ty)):Prop:=∀n n' l m,fT n' n->x n= .ok l m->∃l' m',x' n'= .ok l' m'/\cf aJ l' l=true/\fT m' m
theorem jx{r r':Exp->dq Ty}:(es:List Exp)->(∀e∈es,vS (r e) (r' e))->Dh (cQ r es) (cQ r' es)
 |[],_=>fun n n' l m hn h=>by
  cases h;exact⟨_,_,rfl,rfl,hn⟩
 | e:: es,H=>fun n n' l m hn h=>by
  simp only[cQ,dq.bind]at h|-;cases h1:r e n with
  |er b q=>rw[h1]at h;cases h
  | ok t q=>
   rw[h1]at h;obtain⟨t',q',e1,e2,e3⟩:=H e Hs n n' t q hn h1;rw[e1];simp only at h|-;cases h2:cQ r es q with
   |er b q2=>rw[h2]at h;cases h
   |ok ts q2=>
    rw[h2]at h;obtain⟨ts',q2',f1,f2,f3⟩:=jx es (fun e he=>H e (Hl _ he)) q q' ts q2 e3 h2;rw[f1];cases h;exact⟨_,_,rfl,by simp only[cf,e2,f2,IA],f3⟩
theorem pk{c c':Tcx}(C:CLe c c'):∀(d:Nat)(ls' ls:List br)(e:Exp),fH e->cf Ch ls' ls=true->vS (bi c d ls e) (bi c' d ls' e)
 |0,_,_,_,_,_=>fun n n' t m _ h=>by cases h
 | d + 1,ls',ls,e,he,hls=>by
  have H:∀(ls' ls:List br)(e:Exp),fH e->cf Ch ls' ls=true->vS (bi c d ls e) (bi c' d ls' e):=pk C d;intro n n' t m hn h;have h:cF c (bi c d) ls e n= .ok t m:=h;show ∃t' m',cF c' (bi c' d) ls' e n'= .ok t' m'/\_;by_cases h2:e.op=2
  ·rw[nC h2]at h|-;cases hz:aM (fun z:br=>z.1== e.s) ls with
   |none=>rw[hz]at h;cases h
   |some z=>
    rw[hz]at h;cases h;obtain⟨z',e1,e2⟩:=(ub hls).2 z hz;rw[e1];exact⟨_,_,rfl,e2,hn⟩
  by_cases h12:e.op=12
  ·rw[nB h12]at h|-;unfold dq.bind at h|-;cases h1:bi c d ls e.args[0]! n with
   |er b q=>rw[h1]at h;cases h
   |ok u q=>
    rw[h1]at h;obtain⟨u',q',e1,e2,e3⟩:=H ls' ls _ (he.nth 0) hls n n' u q hn h1;rw[e1];exact H _ _ _ (he.nth 1) (qF hls (by simp[Ch,e2])) q q' t m e3 h
  by_cases h17:e.op=17\/e.op=18
  ·rw [nA h17]at h|-;rw[C.vars];cases hz:aM (fun z:br=>z.1== e.s) c.vars with
   |none=>rw[hz]at h;cases h
   | some z=>
    rw[hz]at h;simp only at h|-;by_cases h18:e.op=18
    ·rw[GD h18]at h|-;unfold dq.bind at h|-;cases h1:bi c d ls e.args[0]! n with
     |er b q=>rw[h1]at h;cases h
     | ok u q=>
      rw[h1]at h;obtain⟨u',q',e1,e2,e3⟩:=H ls' ls _ (he.nth 0) hls n n' u q hn h1;rw[e1];simp only at h|-;split at h
      ·rename_i hb;cases h;rw[GD (mr e2 hb)];exact⟨_,_,rfl,C.vok z (dN hz).1,e3⟩
      ·cases h
    ·rw[if_neg h18]at h|-;cases h;exact⟨_,_,rfl,C.vok z (dN hz).1,hn⟩
  by_cases h15:e.op=15
  ·rw [lO h15]at h|-;cases hs:cr c e with
   |none=>rw[hs]at h;cases h
   | some s=>
    rw[hs]at h;obtain⟨s',e1,e2,e3,e4⟩:=C.call e s hs;rw[e1];simp only at h|-;split at h
    ·rename_i hl;rw[GD (by rw[<- hl,oq e2])];unfold dq.bind at h|-;cases h1:cQ (bi c d ls) e.args n with
     |er b q=>rw[h1]at h;cases h
     | ok l q=>
      rw[h1]at h;obtain⟨l',q',f1,f2,f3⟩:=jx e.args (fun x hx=>H ls' ls x (he.kid hx) hls) n n' l q hn h1;rw[f1];simp only at h|-;split at h
      ·rename_i hb;cases h;rw[GD (oz (oz f2 hb) e2)];exact⟨_,_,rfl,e3,ui f3 e4⟩
      ·cases h
    ·cases h
  rw[lP h2 h12 h17 h15]at h|-;unfold dq.bind at h|-;cases h1:cQ (bi c d ls) e.args n with
  |er b q=>rw[h1]at h;cases h
  | ok l q=>
   rw[h1]at h;obtain⟨l',q',f1,f2,f3⟩:=jx e.args (fun x hx=>H ls' ls x (he.kid hx) hls) n n' l q hn h1;rw[f1];simp only at h|-;cases hp:bO e l with
   |none=>rw[jE hp]at h;cases h
   |some u=>
    rw[gY hp]at h;cases h;obtain⟨u',g1,g2⟩:=tp he.shape f2 hp;rw[gY g1];refine⟨_,_,rfl,g2,?_⟩;split
    ·exact ui f3 (fT.refl _)
    ·exact f3
theorem ux:{l:List (bA×Int)} ->(∀x∈l,x.2=0)->bq l=([],0)
 |[],_=>rfl
 |y:: l,h=>by
  unfold bq;rw[GD (h y Hs)];exact ux fun x hx=>h x (Hl _ hx)
def q9{c:Tcx}{f:Fun}:uY c f=0↔∃t n,bi c 12 f.params f.body 0= .ok t n/\aJ t f.result=true/\cn n f.effects=0:=by
 constructor
 ·intro h;unfold uY at h;cases hx:bi c 12 f.params f.body 0 with
  |er b n=>rw[hx]at h;exact absurd h (fv c 12 f.params f.body 0 b n hx)
  | ok t n=>
   rw[hx]at h;simp only at h;by_cases h1:aJ t f.result=true
   ·rw[GD h1]at h;by_cases h2:cn n f.effects=0
    ·exact⟨t,n,rfl,h1,h2⟩
    ·rw[if_neg h2]at h;cases h
   ·rw[if_neg h1]at h;cases h
 ·rintro⟨t,n,h1,h2,h3⟩;unfold uY;rw[h1];simp only[GD h2,GD h3]
def nF{a b:Ty}(h:qq a b=true):aJ a b=true:=by
 unfold qq at h;simp only[Gz]at h;exact h.2
theorem qG{α β:Type}{F G:α->β->Bool}(h:∀x y,F x y=true->G x y=true):{a:List α} ->{b:List β} ->cf F a b=true->cf G a b=true
 |[],[],_=>rfl
 |x:: a,y:: b,g=>by
  simp only[cf,Gz]at g |-;exact⟨h x y g.1,qG h g.2⟩
def uA{l:List br}(h:∀z∈l,a8 z.2=true):cf Ch l l=true:=kw fun z hz=>by
 unfold Ch;rw[eZ 4 z.2 (h z hz)];simp
theorem yF{a b:Face}(hm:a.module=b.module)(hl:gt a b=none){m:Mod}(M:ModOk m):CLe (dh m [a]) (dh m [b]) where
 vars:=rfl
 vok:=fun z hz=>eZ 4 z.2 (M.vars z hz)
 call :=fun e s h=>by
  unfold cr at h|-;by_cases he:e.m=[]
  ·rw[GD he]at h|-;cases hf:m.funcs.find? (fun f=>f.name== e.s)with
   |none=>
    have h:(match m.funcs.find? (fun f=>f.name== e.s)with|some f=>some (f.params.map (·.2),f.result,f.effects)|none=>none)=some s:=h;rw[hf]at h;cases h
   | some f=>
    have h:(match m.funcs.find? (fun f=>f.name== e.s)with|some f=>some (f.params.map (·.2),f.result,f.effects)|none=>none)=some s:=h;rw[hf]at h;cases h;have F:=M.fns f (HG hf);have hpp:cf aJ (f.params.map fun z:br=>z.2) (f.params.map fun z:br=>z.2)=true:=kw fun t ht=>by
     obtain⟨z,hz,rfl⟩:=HK.1 ht;exact eZ 4 _ (F.pars z hz)
    refine⟨(f.params.map (fun z:br=>z.2),f.result,f.effects),?_,hpp,eZ 4 _ F.res,fT.refl _⟩;show (match m.funcs.find? (fun f=>f.name== e.s)with|some f=>some (f.params.map (fun z:br=>z.2),f.result,f.effects)|none=>none)=_;rw[hf]
  ·rw [if_neg he]at h|-;have ea:(dh m [a]).faces e.m=if a.module=e.m then some a else none:=by
    show[a].find? (fun f=>f.module== e.m)=_;by_cases hx:a.module=e.m<;>simp[hx]
   have eb:(dh m [b]).faces e.m=if a.module=e.m then some b else none:=by
    show[b].find? (fun f=>f.module== e.m)=_;rw[hm];by_cases hx:b.module=e.m<;>simp[hx]
   rw[ea]at h;rw[eb];by_cases hx:a.module=e.m
   ·rw [GD hx]at h|-;simp only at h|-;cases hf:a.funcs.find? (fun s=>s.name== e.s)with
    |none=>rw[hf]at h;cases h
    | some g=>
     rw[hf]at h;simp only at h;split at h
     ·rename_i hu;cases h;have hk:=(vt a b).1 hl g (HG hf);have hn:g.name=e.s:=Ha.1 (List.find?_some (p:=fun s:Sig=>s.name== e.s) hf);unfold kK oK at hk;rw[hn]at hk;cases hg:b.funcs.find? (fun s=>s.name== e.s)with
      |none=>rw[hg]at hk;cases hk
      |some g'=>
       rw[hg]at hk;simp only at hk |-;have hu':e.m∈(dh m [b]).uses:=hu;rw[GD hu'];unfold vJ at hk;simp only[Gz]at hk;exact⟨_,rfl,qG (fun _ _ h=>nF h) hk.1.1,nF hk.1.2,lv (Ha.1 hk.2)⟩
     ·cases h
   ·rw[if_neg hx]at h;cases h
theorem Ac{a b:Face}{m:Mod}(hm:a.module=b.module)(hl:gt a b=none)(hb:dC b=true)(h:(gI m [a]).2=0):(gI m [b]).2=0:=by
 unfold gI at h|-;split at h
 ·rename_i hr;rw[Gz]at hr;have hfb:[b].all eI=true:=by
   unfold dC at hb;simp only[Gz,GJ]at hb;simp only[HB,List.all_nil,Iz,eI,GJ];intro s hs
   have:=hb.2.1 s hs
   unfold fo at this;simp only[Gz]at this |-;exact⟨this.1.2,this.2⟩
  rw[GD (by rw[hfb,hr.2];rfl)];have H:=tR h;have M:=yf hr.2;have da:cB [] [a]=[a]:=rfl;have db:cB [] [b]=[b]:=rfl;rw[da]at H;rw[db,ux];intro x hx;rcases G6.1 hx with hx|hx
  ·obtain⟨u,hu,rfl⟩:=HK.1 hx
   have:=H _ (Iw _ (IC hu))
   have e1:([a].find? fun f=>f.module== u).isNone=([b].find? fun f=>f.module== u).isNone:=by
    by_cases hx:b.module=u<;>simp[hm,hx]
   simp only[e1]at this;exact this
  ·rcases G1.1 hx with rfl|hx
   ·exact H _ (by simp)
   ·obtain⟨f,hf,rfl⟩:=HK.1 hx;have h1:=H _ (Iu _ (Hl _ (IC hf)));obtain⟨t,n,e1,e2,e3⟩:=q9.1 h1;have F:=M.fns f hf;obtain⟨t',n',g1,g2,g3⟩:=pk (yF hm hl M) 12 f.params f.params f.body ⟨12,F.body⟩ (uA F.pars) 0 0 t n (fT.refl _) e1;exact q9.2 ⟨t',n',g1,mr g2 e2,sb (g3.trans (lv e3))⟩
 ·cases h
end Go.Av.Ap
