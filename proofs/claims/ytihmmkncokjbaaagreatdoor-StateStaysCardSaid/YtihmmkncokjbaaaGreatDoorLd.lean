/- The abstract evaluator of the model and plain laws, part 4: its soundness holds for every program whose table of types is the evaluator's. No further condition. -/
import Derived.Test.YtihmmkncokjbaaaGreatDoorLc
set_option linter.defProp false
set_option linter.unusedSimpArgs false
set_option linter.unusedVariables false
namespace Go.Av.Ap
def bZ{α β:Type}{m:M α}{f:α->M β}{h h':Hp}{a:α}(e:m h= .ok a h'):ae m f h=f a h':=by simp only[ae,e]
def uP{α β:Type}{m:M α}{f:α->M β}{h h':Hp}{v:AV}(e:m h= .pan v h'):ae m f h= .pan v h':=by simp only[ae,e]
def bj(l:List Val):List AV:=l.flatMap fun v=>aa v.av
def ie(l:List Val):(bj l).length=l.length*4:=by
 induction l with
 |nil=>rfl
 |cons v l ih=>simp only[bj,Jv,IG]at ih |-;rw[ih];simp;omega
def kL{l:List Val}{k:Nat}(h:k<l.length):((bj l).drop (k*4)).take 4=aa (l[k]).av:=by
 induction l generalizing k with
 |nil=>simp at h
 | cons v l ih=>
  cases k with
  |zero=>simp[bj]
  |succ k=>
   have:=ih (k:=k) (by simpa using h)
   simp only[bj,Jv]at this |-;have e:(k+1)*4=(aa v.av).length+k*4:=by simp;omega
   rw[e,List.drop_append,List.getElem_cons_succ];simp only[KD];rw[List.drop_of_length_le (by omega),I6];exact this
def qM{l:List Val}{k:Nat}(h:k<l.length)(v:Val):setCells (bj l) (k*4) (aa v.av)=bj (l.set k v):=by
 induction l generalizing k with
 |nil=>simp at h
 | cons w l ih=>
  cases k with
  |zero=>
   simp only[setCells,bj,Jv,JG,J3,I6,List.set_cons_zero];congr 1;have:0+(aa v.av).length=(aa w.av).length:=by simp
   rw[this,List.drop_left]
  |succ k=>
   have:=ih (k:=k) (by simpa using h)
   simp only[setCells,bj,Jv,List.set_cons_succ]at this |-;have e:(k+1)*4=(aa w.av).length+k*4:=by simp;omega
   have e2:(aa w.av).length+k*4+(aa v.av).length-(aa w.av).length=k*4+(aa v.av).length:=by omega
   have e3:(aa w.av).length+k*4-(aa w.av).length=k*4:=by omega
   rw[e,JR,List.drop_append,e2,e3,JC (by omega),List.drop_of_length_le (by omega)];simp only[I6,Jg];congr 1;rw[<- Jg];exact this
def eI(l:List Deed):List AV:=l.flatMap fun d=>[.int .i64 d.effect,.int .i64 d.arg,.int .i64 d.answer]
def pH(tag:Nat->Nat)(k:Nat)(h:Hp)(l:List Val)(v:AV):Prop:=v=vals l\/∃r,v= .hs r 0 l.length 4 true/\tag r=k/\h[r]? = some (bj l)
def dY(tag:Nat->Nat)(h:Hp):List Call->List AV->Prop
 |[],cs=>cs=[]
 |c:: l,cs=>∃av rest,cs= .str c.module:: .str c.func:: av:: rest/\pH tag 4 h c.args av/\dY tag h l rest
def cf(tag:Nat->Nat)(h:Hp):Nat->List bF->List (List Val)->List AV->Prop
 |_,[],[],cs=>cs=[]
 |i,n:: ns,l:: st,cs=>∃av rest,cs= .str n:: av:: rest/\((l=[]/\av= .sl [])\/∃r,av= .hs r 0 l.length 4 true/\tag r=6+i/\h[r]? = some (bj l))/\cf tag h (i+1) ns st rest
 |_,_,_,_=>False
def AF(tag:Nat->Nat)(k sz n:Nat)(cells:List AV->Prop)(v:AV)(h:Hp):Prop:=(n=0/\v= .hn)\/∃q cs,v= .hs q 0 n sz true/\0<n/\tag q=k/\h[q]? = some cs/\cs.length=n*sz/\cells cs
structure SNm where
 names:List bF
 sv:AV
 cells:List AV
 told:Bool
structure RepT (row:Ms->AV->AV->AV->List AV) (nm:SNm) (tag:Nat->Nat) (dv cv sv:AV) (m:Ms) (h:Hp):Prop where
 r0:h[0]? = some (row m dv cv sv)
 t0:tag 0=0
 ds:AF tag 2 3 m.deeds.length (fun cs=>cs=eI m.deeds) dv h
 cs:AF tag 3 3 m.calls.length (fun cs=>dY tag h m.calls cs) cv h
 st:AF tag 5 2 m.state.length (fun cs=>cs=nm.cells/\cf tag h 0 nm.names m.state cs) sv h
 sve:sv=nm.sv
 wok:nm.told=true->m.world=[]
def Ho(row:Ms->AV->AV->AV->List AV)(nm:SNm)(m:Ms)(h:Hp):Prop:=∃tag dv cv sv,RepT row nm tag dv cv sv m h
def Kp(tag tag':Nat->Nat)(ks:Nat->Prop)(h h':Hp):Prop:=∀r cs,h[r]? = some cs->¬ks (tag r)->h'[r]? = some cs/\tag' r=tag r
def pH.keep{tag tag':Nat->Nat}{ks:Nat->Prop}{h h':Hp}(K:Kp tag tag' ks h h'){k:Nat}(hk:¬ks k){l:List Val}{v:AV}(H:pH tag k h l v):pH tag' k h' l v:=by
 rcases H with H|⟨r,h1,h2,h3⟩
 ·exact .inl H
 ·have:=K r _ h3 (by rw[h2];exact hk)
  exact .inr ⟨r,h1,this.2.trans h2,this.1⟩
theorem dY.keep{tag tag':Nat->Nat}{ks:Nat->Prop}{h h':Hp}(K:Kp tag tag' ks h h')(hk:¬ks 4):{l:List Call} ->{cs:List AV} ->dY tag h l cs->dY tag' h' l cs
 |[],_,H=>H
 |_:: _,_,⟨av,rest,h1,h2,h3⟩=>⟨av,rest,h1,h2.keep K hk,h3.keep K hk⟩
theorem cf.keep{tag tag':Nat->Nat}{ks:Nat->Prop}{h h':Hp}(K:Kp tag tag' ks h h')(hk:∀i,¬ks (6+i)):{i:Nat} ->{nm:List bF} ->{st:List (List Val)} ->{cs:List AV} ->cf tag h i nm st cs->cf tag' h' i nm st cs
 |_,[],[],_,H=>H
 | i,_:: _,_:: _,_,⟨av,rest,h1,h2,h3⟩=>⟨av,rest,h1,by
   rcases h2 with h2|⟨r,g1,g2,g3⟩
   ·exact .inl h2
   ·have:=K r _ g3 (by rw[g2];exact hk i)
    exact .inr ⟨r,g1,this.2.trans g2,this.1⟩,cf.keep K hk h3⟩
 |_,[],_:: _,_,H=>H.elim
 |_,_:: _,[],_,H=>H.elim
def AF.keep{tag tag':Nat->Nat}{ks:Nat->Prop}{h h':Hp}(K:Kp tag tag' ks h h'){k sz n:Nat}{c c':List AV->Prop}{v:AV}(hk:¬ks k)(hc:∀cs,c cs->c' cs)(H:AF tag k sz n c v h):AF tag' k sz n c' v h':=by
 rcases H with H|⟨q,cs,h1,h2,h3,h4,h5,h6⟩
 ·exact .inl H
 ·have:=K q _ h4 (by rw[h3];exact hk)
  exact .inr ⟨q,cs,h1,h2,this.2.trans h3,this.1,h5,hc _ h6⟩
def RepT.set0{row:Ms->AV->AV->AV->List AV}{nm:SNm}{tag:Nat->Nat}{dv cv sv:AV}{m m':Ms}{h:Hp}(R:RepT row nm tag dv cv sv m h)(h1:m'.deeds=m.deeds)(h2:m'.calls=m.calls)(h3:m'.state=m.state)(h4:m.world=[]->m'.world=[]):
  RepT row nm tag dv cv sv m' (h.set 0 (row m' dv cv sv)):=by
 have hlt:0<h.length:=(IJ.1 R.r0).1;have K:Kp tag tag (fun k=>k=0) h (h.set 0 (row m' dv cv sv)):=fun r cs hr hk=>by
  have:r≠0:=fun e=>hk (by rw[e];exact R.t0);exact⟨by rw[JU (Kq this)];exact hr,rfl⟩
 refine⟨by rw[JD hlt],R.t0,?_,?_,?_,R.sve,fun t=>h4 (R.wok t)⟩
 ·rw[h1];exact R.ds.keep K (by decide) fun _ h=>h
 ·rw[h2];exact R.cs.keep K (by decide) fun _ h=>h.keep K (by decide)
 ·rw[h3];exact R.st.keep K (by decide) fun _ h=>⟨h.1,h.2.keep K (by omega)⟩
def RepT.more{row:Ms->AV->AV->AV->List AV}{nm:SNm}{tag:Nat->Nat}{dv cv sv:AV}{m:Ms}{h:Hp}(R:RepT row nm tag dv cv sv m h)(x:List AV)(k:Nat):
  RepT row nm (fun i=>if i=h.length then k else tag i) dv cv sv m (h++[x])/\Kp tag (fun i=>if i=h.length then k else tag i) (fun _=>False) h (h++[x]):=by
 have K:Kp tag (fun i=>if i=h.length then k else tag i) (fun _=>False) h (h++[x]):=fun r cs hr _=>by
  have hlt:r<h.length:=(IJ.1 hr).1;exact⟨by rw[Ik hlt];exact hr,by simp only;rw[if_neg (by omega)]⟩
 exact⟨⟨(K 0 _ R.r0 id).1,(K 0 _ R.r0 id).2.trans R.t0,R.ds.keep K id fun _ h=>h,R.cs.keep K id fun _ h=>h.keep K id,R.st.keep K id fun _ h=>⟨h.1,h.2.keep K (fun _=>id)⟩,R.sve,R.wok⟩,K⟩
def HN{tag:Nat->Nat}{h:Hp}{q:Nat}{k:Nat}(hq:tag q=k)(x:List AV):Kp tag tag (fun j=>j=k) h (h.set q x):=fun r cs hr hk=>by
 have:r≠q:=fun e=>hk (by rw[e];exact hq);exact⟨by rw[JU (Kq this)];exact hr,rfl⟩
def cw{T:TT}{t:Nat}{ti:TI}(ht:T t=some ti)(ha:ti.agg=false){h:Hp}{l k:Nat}{cs:List AV}{v:AV}(h0:h[l]? = some cs)(h1:cs[k]? = some v):bO T t (.hp l k) h= .ok v h:=by
 simp[bO,ht,h0,ha,h1]
def pe{T:TT}{t:Nat}{ti:TI}(ht:T t=some ti)(ha:ti.agg=true){h:Hp}{l k:Nat}{cs:List AV}(h0:h[l]? = some cs)(hle:k+ti.size<=cs.length):bO T t (.hp l k) h= .ok (.agg ((cs.drop k).take ti.size)) h:=by
 simp[bO,ht,h0,ha,hle]
def fK{T:TT}{t:Nat}{ti:TI}(ht:T t=some ti){h:Hp}{l k:Nat}{cs:List AV}{v:AV}(h0:h[l]? = some cs)(hv:bD ti.size v=true)(hle:k+ti.size<=cs.length)(hp:0<ti.size):
  cZ T t (.hp l k) v h= .ok (.tup []) (h.set l (setCells cs k (aa v))):=by
 simp[cZ,ht,h0,hv,hle,hp]
def yx{T:TT}{t e:Nat}{ti ei:TI}(ht:T t=some ti)(hk:ti.kind= .slice e)(he:T e=some ei){x:AV}(hx:bD ei.size x=true)(hb:0<ei.bytes)(hs:0<ei.size)(hc:ei.bytes<=140737488355328)(h:Hp):
  appH T t false .hn (.sl [x]) h= .ok (.hs h.length 0 1 ei.size ei.agg) (h++[aa x]):=by
 have:cF ei.size [x]=true:=by simp[cF,hx]
 simp[appH,ht,hk,he,gf,this,hb,hs,iT,hc]
def yy{T:TT}{t e:Nat}{ti ei:TI}(ht:T t=some ti)(hk:ti.kind= .slice e)(he:T e=some ei){x:AV}(hx:bD ei.size x=true)(hb:0<ei.bytes)(hs:0<ei.size){h:Hp}{q n:Nat}{cs:List AV}(h0:h[q]? = some cs)(hok:cs.all aV=true)(hl:cs.length=n*ei.size)(hn:0<n)(hc:(n+1)*ei.bytes<=140737488355328):appH T t false (.hs q 0 n ei.size ei.agg) (.sl [x]) h= .ok (.hs h.length 0 (n+1) ei.size ei.agg) ((h.set q [])++[cs++aa x]):=by
 have h1:cF ei.size [x]=true:=by simp[cF,hx]
 have h2:List.all cs aV=true:=hok;simp only[appH,ht,hk,he,gf,h1,hb,hs,iT,h0,h2,hl,hn,JB,Ku,H7,Js,Jq,List.isEmpty_cons,Ib,Jv,List.flatMap_nil,I7];have h5:cs.take (n*ei.size)=cs:=JC (by omega);have h6:0<n*ei.size:=JW hn hs;rw[JQ hc,h5];simp[h6]
theorem rq{T:TT}{t e:Nat}{ti ei:TI}(ht:T t=some ti)(hk:ti.kind= .slice e)(he:T e=some ei)(h4:ei.size=4)(hag:ei.agg=true)(hb:0<ei.bytes)(call:FuncId->List AV->M AV)(l:List Val)(hc:l.length*ei.bytes<=140737488355328)(h:Hp):
  eq T t call [vals l] h=if l=[]then .ok (vals []) h else .ok (.hs h.length 0 l.length 4 true) (h++[bj l]):=by
 have h1:cF 4 (dq l)=true:=wW l;have hlen:(dq l).length=l.length:=by simp[dt]
 have hfl:(dq l).flatMap aa=bj l:=by simp[dt,bj,List.flatMap_map]
 cases l with
 |nil=>simp[eq,appH,ht,hk,he,gf,hb,h4,iT,vals,dq,cF]
 |cons v l=>
  have hne:(dq (v:: l)).isEmpty=false:=rfl;unfold eq vals appH;simp only[ht,hk,he,gf,h4,h1,hb,iT,JB,Ku,JV,H7,hne,Ib,hlen,hfl,hag];rw[JQ hc];simp
theorem dY.ok{tag:Nat->Nat}{h:Hp}:{l:List Call} ->{cs:List AV} ->dY tag h l cs->cs.all aV=true/\cs.length=l.length*3
 |[],cs,H=>by cases H;exact⟨rfl,rfl⟩
 | c:: l,_,⟨av,rest,h1,h2,h3⟩=>by
  subst h1;obtain⟨g1,g2⟩:=h3.ok;have:aV av=true:=by
   rcases h2 with rfl|⟨r,rfl,_⟩<;>rfl
  refine⟨?_,by simp[g2];omega⟩;rw[Jd,Jd,Jd,this,g1];rfl
theorem dY.snoc{tag:Nat->Nat}{h:Hp}{c:Call}{av:AV}(ha:pH tag 4 h c.args av):{l:List Call} ->{cs:List AV} ->dY tag h l cs->dY tag h (l++[c]) (cs++[.str c.module,.str c.func,av])
 |[],cs,H=>by cases H;exact⟨av,[],rfl,ha,rfl⟩
 |d:: l,_,⟨av',rest,h1,h2,h3⟩=>⟨av',rest++[.str c.module,.str c.func,av],by rw[h1];rfl,h2,dY.snoc ha h3⟩
def pY(l:List Deed):(eI l).all aV=true:=by simp[eI,aV]
theorem cf.at{tag:Nat->Nat}{h:Hp}:{i:Nat} ->{nm:List bF} ->{st:List (List Val)} ->{cs:List AV} ->cf tag h i nm st cs->∀(j:Nat)(l:List Val),st[j]? = some l->
  ∃av,cs[j*2+1]? = some av/\((l=[]/\av= .sl [])\/∃r,av= .hs r 0 l.length 4 true/\tag r=6+(i+j)/\h[r]? = some (bj l))
 |_,[],[],_,_,j,l,hj=>by simp at hj
 | i,_:: _,_:: _,_,⟨av,rest,h1,h2,h3⟩,j,l,hj=>by
  subst h1;cases j with
  |zero=>simp at hj;subst hj;exact⟨av,rfl,h2⟩
  |succ j=>
   obtain⟨av',g1,g2⟩:=h3.at j l (by simpa using hj);refine⟨av',?_,?_⟩
   ·rw[show (j+1)*2+1=j*2+1+2 by omega];simpa using g1
   ·rw[show i+(j+1)=i+1+j by omega];exact g2
 |_,[],_:: _,_,H,_,_,_=>H.elim
 |_,_:: _,[],_,H,_,_,_=>H.elim
theorem cf.len{tag:Nat->Nat}{h:Hp}:{i:Nat} ->{nm:List bF} ->{st:List (List Val)} ->{cs:List AV} ->cf tag h i nm st cs->nm.length=st.length
 |_,[],[],_,_=>rfl
 |_,_:: _,_:: _,_,⟨_,_,_,_,h3⟩=>by simp[h3.len]
 |_,[],_:: _,_,H=>H.elim
 |_,_:: _,[],_,H=>H.elim
theorem cf.set{tag:Nat->Nat}{h:Hp}{r k:Nat}{v:Val}:{i:Nat} ->{nm:List bF} ->{st:List (List Val)} ->{cs:List AV} ->cf tag h i nm st cs->∀(j:Nat)(l:List Val),st[j]? = some l->tag r=6+(i+j)->h[r]? = some (bj l)->cs[j*2+1]? = some (.hs r 0 l.length 4 true)->
  k<l.length->cf tag (h.set r (bj (l.set k v))) i nm (setSt st j k v) cs
 |_,[],[],_,_,j,l,hj,_,_,_,_=>by simp at hj
 | i, n:: ns,l0:: st,_,⟨av,rest,h1,h2,h3⟩,j,l,hj,ht,hr,hc,hk=>by
  subst h1;have hlt:r<h.length:=(IJ.1 hr).1;cases j with
  | zero=>
   simp only[Ig,H5]at hj;subst hj;simp only[JG,II,Ix,Ig,H5]at hc;have e:setSt (l0:: st) 0 k v=l0.set k v:: st:=by simp[setSt]
   rw[e];refine⟨av,rest,rfl,.inr ⟨r,by rw[hc,JL],ht,JD hlt⟩,?_⟩;have K:Kp tag tag (fun t=>t=6+i) h (h.set r (bj (l0.set k v))):=HN (by rw[ht];rfl) _;have key:∀ {i':Nat} {nm':List bF} {st':List (List Val)} {cs':List AV},i<i'->cf tag h i' nm' st' cs'->cf tag (h.set r (bj (l0.set k v))) i' nm' st' cs':=by
    intro i' nm' st'
    induction st' generalizing i' nm' with
    |nil=>intro cs' hi H;cases nm' with
     |nil=>exact H
     |cons _ _=>exact H.elim
    | cons a st' ih=>intro cs' hi H;cases nm' with
     |nil=>exact H.elim
     | cons b nm'=>
      obtain⟨av2,rest2,k1,k2,k3⟩:=H;refine⟨av2,rest2,k1,?_,ih (by omega) k3⟩;rcases k2 with k2|⟨r2,g1,g2,g3⟩
      ·exact .inl k2
      ·have:=K r2 _ g3 (by rw[g2];omega)
       exact .inr ⟨r2,g1,g2,this.1⟩
   exact key (J7 i) h3
  | succ j=>
   have e:setSt (l0:: st) (j+1) k v=l0:: setSt st j k v:=by simp[setSt]
   rw[e];have hc':rest[j*2+1]? = some (.hs r 0 l.length 4 true):=by
    rw[show (j+1)*2+1=j*2+1+2 by omega]at hc;simpa using hc
   refine⟨av,rest,rfl,?_,h3.set j l (by simpa using hj) (by rw[ht];omega) hr hc' hk⟩;rcases h2 with h2|⟨r2,g1,g2,g3⟩
   ·exact .inl h2
   ·have:r2≠r:=fun e=>by rw[e,ht]at g2;omega
    exact .inr ⟨r2,g1,g2,by rw[JU (Kq this)];exact g3⟩
 |_,[],_:: _,_,H,_,_,_,_,_,_,_=>H.elim
 |_,_:: _,[],_,H,_,_,_,_,_,_,_=>H.elim
def Kp.trans{a b c:Nat->Nat}{ks js:Nat->Prop}{h h1 h2:Hp}(K:Kp a b ks h h1)(J:Kp b c js h1 h2):Kp a c (fun k=>ks k\/js k) h h2:=fun r cs hr hk=>by
 obtain⟨k1,k2⟩:=K r cs hr fun h=>hk (.inl h);obtain⟨j1,j2⟩:=J r cs k1 fun h=>hk (.inr (by rwa [k2]at h));exact⟨j1,j2.trans k2⟩
def Kp.new(tag:Nat->Nat)(h:Hp)(x:List AV)(k:Nat):Kp tag (fun i=>if i=h.length then k else tag i) (fun _=>False) h (h++[x]):=fun r cs hr _=>by
 have hlt:r<h.length:=(IJ.1 hr).1;exact⟨by rw[Ik hlt];exact hr,by simp only;rw[if_neg (by omega)]⟩
def Kp.mono{a b:Nat->Nat}{ks js:Nat->Prop}{h h1:Hp}(K:Kp a b ks h h1)(hj:∀k,ks k->js k):Kp a b js h h1:=fun r cs hr hk=>K r cs hr fun h=>hk (hj _ h)
def sD{T:TT}{t e:Nat}{ti ei:TI}(ht:T t=some ti)(hk:ti.kind= .slice e)(he:T e=some ei){sz:Nat}(h3:ei.size=sz)(hsz:0<sz)(hag:ei.agg=true)(hb:0<ei.bytes){tag:Nat->Nat}{k n:Nat}{P:List AV->Prop}{v x:AV}{h:Hp}(H:AF tag k sz n P v h)(hP0:n=0->P [])(hok:∀cs,P cs->cs.all aV=true)(hx:bD sz x=true)(hc:(n+1)*ei.bytes<=140737488355328):
  ∃h1 v' tag',appH T t false v (.sl [x]) h= .ok v' h1/\Kp tag tag' (fun j=>j=k) h h1/\AF tag' k sz (n+1) (fun cs'=>∃cs,P cs/\cs'=cs++aa x) v' h1/\aV v'=true:=by
 have hxl:(aa x).length=sz:=by
  unfold bD at hx;simp only[H6,I2]at hx;have h1:=hx.1;cases x<;>simp only[cd,H5,reduceCtorEq]at h1<;>simp only[aa,Jq]<;>exact h1
 have hx':bD ei.size x=true:=by rw[h3];exact hx
 rcases H with⟨hn,rfl⟩|⟨q,cs,rfl,hn,hq,hcs,hl,hp⟩
 ·subst hn;refine⟨_,_,_,yx ht hk he hx' hb (by omega) (by omega) h,(Kp.new tag h (aa x) k).mono fun _ h=>h.elim,.inr ⟨h.length,aa x,by rw[h3,hag],by omega,by simp,by simp,by simpa using hxl,[],hP0 rfl,rfl⟩,rfl⟩
 ·have e1:=yy ht hk he hx' hb (by omega) hcs (hok cs hp) (by rw[h3];exact hl) hn hc;rw[h3,hag]at e1;have K1:Kp tag tag (fun j=>j=k) h (h.set q []):=HN hq [];have K2:=Kp.new tag (h.set q []) (cs++aa x) k;refine⟨_,_,_,e1,(K1.trans K2).mono fun j h=>h.elim id False.elim,.inr ⟨h.length,cs++aa x,rfl,by omega,by simp,?_,by rw[IG,hl,hxl,IL,Nat.one_mul],cs,hp,rfl⟩,rfl⟩;have:(h.set q []).length=h.length:=by simp
  rw[<- this];simp
def RepT.pushDeed{row:Ms->AV->AV->AV->List AV}{nm:SNm}{tag tag':Nat->Nat}{dv dv' cv sv:AV}{m m':Ms}{h h1:Hp}{d:Deed}(R:RepT row nm tag dv cv sv m h)(K:Kp tag tag' (fun j=>j=2) h h1)(H:AF tag' 2 3 (m.deeds.length+1) (fun cs'=>∃cs,cs=eI m.deeds/\cs'=cs++aa d.av) dv' h1)(hd:m'.deeds=m.deeds++[d])(hc:m'.calls=m.calls)(hs:m'.state=m.state)(h4:m.world=[]->m'.world=[]):RepT row nm tag' dv' cv sv m' (h1.set 0 (row m' dv' cv sv)):=by
 obtain⟨k1,k2⟩:=K 0 _ R.r0 (by rw[R.t0];decide);have hlt:0<h1.length:=(IJ.1 k1).1;have t0:=k2.trans R.t0;have K0:Kp tag' tag' (fun j=>j=0) h1 (h1.set 0 (row m' dv' cv sv)):=HN t0 _;refine⟨JD hlt,t0,?_,?_,?_,R.sve,fun t=>h4 (R.wok t)⟩
 ·rw[hd,IG];refine H.keep K0 (by decide) ?_;rintro cs' ⟨cs,rfl,rfl⟩;show eI m.deeds++[AV.int .i64 d.effect,.int .i64 d.arg,.int .i64 d.answer]=_;simp[eI]
 ·rw[hc];exact (R.cs.keep K (c':=dY tag' h1 m.calls) (by decide) fun _ h=>h.keep K (by decide)).keep K0 (by decide) fun _ h=>h.keep K0 (by decide)
 ·rw[hs];exact (R.st.keep K (c':=fun cs=>cs=nm.cells/\cf tag' h1 0 nm.names m.state cs) (by decide) fun _ h=>⟨h.1,h.2.keep K (by omega)⟩).keep K0 (by decide) fun _ h=>⟨h.1,h.2.keep K0 (by omega)⟩
def RepT.pushCall{row:Ms->AV->AV->AV->List AV}{nm:SNm}{tag tag':Nat->Nat}{dv cv cv' sv:AV}{m m':Ms}{h h1:Hp}{c:Call}{av:AV}(R:RepT row nm tag dv cv sv m h)(K:Kp tag tag' (fun j=>j=3) h h1)(ha:pH tag 4 h c.args av)(H:AF tag' 3 3 (m.calls.length+1) (fun cs'=>∃cs,dY tag h m.calls cs/\cs'=cs++[.str c.module,.str c.func,av]) cv' h1)(hd:m'.deeds=m.deeds)(hc:m'.calls=m.calls++[c])(hs:m'.state=m.state)(h4:m.world=[]->m'.world=[]):RepT row nm tag' dv cv' sv m' (h1.set 0 (row m' dv cv' sv)):=by
 obtain⟨k1,k2⟩:=K 0 _ R.r0 (by rw[R.t0];decide);have hlt:0<h1.length:=(IJ.1 k1).1;have t0:=k2.trans R.t0;have K0:Kp tag' tag' (fun j=>j=0) h1 (h1.set 0 (row m' dv cv' sv)):=HN t0 _;refine⟨JD hlt,t0,?_,?_,?_,R.sve,fun t=>h4 (R.wok t)⟩
 ·rw[hd];exact (R.ds.keep K (c':=fun cs=>cs=eI m.deeds) (by decide) fun _ h=>h).keep K0 (by decide) fun _ h=>h
 ·rw[hc,IG];refine H.keep K0 (by decide) ?_;rintro cs' ⟨cs,hcs,rfl⟩;exact ((hcs.keep K (by decide)).snoc (ha.keep K (by decide))).keep K0 (by decide)
 ·rw[hs];exact (R.st.keep K (c':=fun cs=>cs=nm.cells/\cf tag' h1 0 nm.names m.state cs) (by decide) fun _ h=>⟨h.1,h.2.keep K (by omega)⟩).keep K0 (by decide) fun _ h=>⟨h.1,h.2.keep K0 (by omega)⟩
def RepT.var{row:Ms->AV->AV->AV->List AV}{nm:SNm}{tag:Nat->Nat}{dv cv sv:AV}{m:Ms}{h:Hp}(R:RepT row nm tag dv cv sv m h)(hrow:∀st,row { m with state:=st } dv cv sv=row m dv cv sv){i:Nat}{l:List Val}(hl:m.state[i]? = some l)(hne:l≠[]):
  ∃q r,nm.sv= .hs q 0 m.state.length 2 true/\h[q]? = some nm.cells/\nm.cells[i*2+1]? = some (.hs r 0 l.length 4 true)/\nm.cells.length=m.state.length*2/\h[r]? = some (bj l)/\
   ∀(k:Nat)(v:Val),k<l.length->RepT row nm tag dv cv sv { m with state:=setSt m.state i k v } (h.set r (bj (l.set k v))):=by
 have hi:i<m.state.length:=(IJ.1 hl).1;rcases R.st with⟨h0,_⟩|⟨q,cs,h1,h2,h3,h4,h5,rfl,h6⟩
 ·omega
 ·obtain⟨av,g1,g2⟩:=h6.at i l hl;rcases g2 with⟨g2,_⟩|⟨r,rfl,g3,g4⟩
  ·exact absurd g2 hne
  ·rw[II]at g3;refine⟨q,r,by rw[<- R.sve,h1],h4,g1,h5,g4,fun k v hk=>?_⟩;have K:Kp tag tag (fun j=>j=6+i) h (h.set r (bj (l.set k v))):=HN g3 _;refine⟨?_,R.t0,?_,?_,?_,R.sve,R.wok⟩
   ·rw[hrow];exact (K 0 _ R.r0 (by rw[R.t0];omega)).1
   ·exact R.ds.keep K (by omega) fun _ h=>h
   ·exact R.cs.keep K (by omega) fun _ h=>h.keep K (by omega)
   ·right;have hq:r≠q:=fun e=>by rw[e,h3]at g3;omega
    refine⟨q,nm.cells,by rw[h1];simp[setSt],by simpa [setSt]using h2,h3,by rw[JU hq];exact h4,by simpa [setSt]using h5,rfl,?_⟩;exact h6.set i l hl (by rw[II];exact g3) g4 g1 hk
theorem cf.snoc{tag:Nat->Nat}{h:Hp}{n:bF}{l:List Val}{av:AV}:{i:Nat} ->{nm:List bF} ->{st:List (List Val)} ->{cs:List AV} ->cf tag h i nm st cs->
  ((l=[]/\av= .sl [])\/∃r,av= .hs r 0 l.length 4 true/\tag r=6+(i+st.length)/\h[r]? = some (bj l))->cf tag h i (nm++[n]) (st++[l]) (cs++[.str n,av])
 |i,[],[],cs,H,ha=>by
  have H':cs=[]:=H;subst H';exact⟨av,[],rfl,ha,rfl⟩
 |i,_:: _,l0:: st,_,⟨av',rest,h1,h2,h3⟩,ha=>by
  refine⟨av',rest++[.str n,av],by rw[h1];rfl,h2,h3.snoc ?_⟩;rcases ha with ha|⟨r,g1,g2,g3⟩
  ·exact .inl ha
  ·exact .inr ⟨r,g1,by rw[g2];simp;omega,g3⟩
 |_,[],_:: _,_,H,_=>H.elim
 |_,_:: _,[],_,H,_=>H.elim
theorem cf.ok{tag:Nat->Nat}{h:Hp}:{i:Nat} ->{nm:List bF} ->{st:List (List Val)} ->{cs:List AV} ->cf tag h i nm st cs->cs.all aV=true
 |_,[],[],cs,H=>by
  have H':cs=[]:=H;subst H';rfl
 | _,_:: _,_:: _,_,⟨av,rest,h1,h2,h3⟩=>by
  subst h1;have:aV av=true:=by
   rcases h2 with⟨_,rfl⟩|⟨r,rfl,_⟩<;>rfl
  rw[Jd,Jd,this,h3.ok];rfl
 |_,[],_:: _,_,H=>H.elim
 |_,_:: _,[],_,H=>H.elim
theorem dY.at{tag:Nat->Nat}{h:Hp}:{l:List Call} ->{cs:List AV} ->dY tag h l cs->∀(i:Nat)(c:Call),l[i]? = some c->∃av,(cs.drop (i*3)).take 3=[.str c.module,.str c.func,av]/\pH tag 4 h c.args av
 |[],_,_,i,c,hc=>by simp at hc
 | d:: l,_,⟨av,rest,h1,h2,h3⟩,i,c,hc=>by
  subst h1;cases i with
  |zero=>simp at hc;subst hc;exact⟨av,by simp,h2⟩
  |succ i=>
   obtain⟨av',g1,g2⟩:=h3.at i c (by simpa using hc);refine⟨av',?_,g2⟩;rw[show (i+1)*3=i*3+3 by omega];simpa using g1
def fX{v:AV}(h:aV v=true):bD 1 v=true/\aa v=[v]/\cd v=some 1:=by
 cases v with
 |any=>cases h
 |agg _=>cases h
 |tup _=>cases h
 |nilb _=>cases h
 |byt _ _=>cases h
 |it _=>cases h
 |_=>exact⟨rfl,rfl,rfl⟩
def mu(m:Ms):Int:=m.deeds.length+m.calls.length+m.fuel
def TQ(k:Int){α:Type}(x:X α):Prop:=∀m a s,0<=m.fuel->x m= .ok a s->mu s<=mu m+k/\s.fuel<=m.fuel/\0<=s.fuel/\s.frames=m.frames
def vU{k:Int}{α:Type}{a:α}(hk:0<=k):TQ k (.ok a):=fun m b s h0 h=>by cases h;exact⟨by omega,JF _,h0,rfl⟩
def Au{k:Int}{α:Type}{e:Int}:TQ k (α:=α) (.er e):=fun m b s _ h=>by cases h
def B4{j k:Int}{α β:Type}{x:X α}{f:α->X β}(hx:TQ j x)(hf:∀a,TQ k (f a)):TQ (j+k) (x.bind f):=by
 intro m b s h0 h;unfold X.bind at h;cases hr:x m with
 |er e t=>rw[hr]at h;cases h
 |ok a t=>
  rw[hr]at h;obtain⟨h1,h2,h3,h4⟩:=hx m a t h0 hr;obtain⟨g1,g2,g3,g4⟩:=hf a t b s h3 h;exact⟨by omega,by omega,g3,g4.trans h4⟩
def cC{k:Int}{α β:Type}{x:X α}{f:α->X β}(hx:TQ 0 x)(hf:∀a,TQ k (f a)):TQ k (x.bind f):=by
 have:=B4 hx hf
 rwa [Int.zero_add]at this
def vT{j k:Int}{α:Type}{x:X α}(h:TQ j x)(hk:j<=k):TQ k x:=fun m a s h0 e=>by
 obtain⟨h1,h2⟩:=h m a s h0 e;exact⟨by omega,h2⟩
def bM{k:Int}{α:Type}{c:Prop}[Decidable c]{x y:X α}(h1:TQ k x)(h2:TQ k y):TQ k (if c then x else y):=by
 split
 ·exact h1
 ·exact h2
def mA{r:X Val}(h:TQ 0 r):TQ 0 (boolX r):=cC h fun _=>bM (vU (JF _)) Au
theorem qJ{r:Exp->X Val}(h:∀e,TQ 0 (r e)):∀l,TQ 0 (listX r l)
 |[]=>vU (JF _)
 |e:: l=>cC (h e) fun _=>cC (qJ h l) fun _=>vU (JF _)
def kR(p:List Mod)(r:Ev)(a:Int)(f:Fun)(l:List Val)(m:Ms):fk p r a f l m=if m.frames<60 then((r a (f.params.map (·.1)) l f.body).bind fun v=>.upd (fun m=>{ m with frames:=m.frames-1 }) (.ok v)) (ji p a f l m)else .er 6 m:=by
 unfold fk X.get;by_cases h:m.frames<60
 ·simp only[h,Iu];rfl
 ·simp only[h,Ir];rfl
def Ar{p:List Mod}{r:Ev}{a:Int}{f:Fun}{l:List Val}(hr:∀o ns vs e,TQ 0 (r o ns vs e)):TQ 1 (fk p r a f l):=by
 intro m v s h0 h;rw[kR]at h;split at h
 ·unfold X.bind at h;cases hr':r a (f.params.map (·.1)) l f.body (ji p a f l m)with
  |er e t=>rw[hr']at h;cases h
  | ok b t=>
   rw[hr']at h;cases h;obtain⟨h1,h2,h3,h4⟩:=hr _ _ _ _ (ji p a f l m) v t h0 hr';have hm:mu (ji p a f l m)<=mu m+1:=by
    simp only[mu,ji];split
    ·simp;omega
    ·omega
   have h4':t.frames=m.frames+1:=h4;have h2':t.fuel<=m.fuel:=h2;simp only[mu]at h1 hm |-;exact⟨by omega,h2',h3,by omega⟩
 ·cases h
def B5{p:List Mod}{r:Ev}(hr:∀o ns vs e,TQ 0 (r o ns vs e))(o:Int)(ns:List bF)(vs:List Val)(e:Exp):TQ 0 (kH p r o ns vs e):=by
 have tick:∀y:X Val,TQ 1 y->TQ 0 (pE y):=fun y hy m a s h0 h=>by
  unfold pE X.get at h;by_cases hf:m.fuel<=0
  ·simp only[hf,Iu]at h;cases h
  ·simp only[hf,Ir]at h;obtain⟨h1,h2,h3,h4⟩:=hy { m with fuel:=m.fuel-1 } a s (by simp only;omega) h;simp only[mu]at h1 h2 |-;exact⟨by omega,by omega,h3,h4⟩
 have H:=fun e=>hr o ns vs e;have ok1:∀(α:Type)(a:α),TQ 1 (.ok a):=fun _ _=>vU (by omega);have er1:∀(α:Type) e,TQ 1 (α:=α) (.er e):=fun _ _=>Au;have H1:=fun e=>vT (H e) (show (0:Int)<=1 by omega);refine tick _ ?_;refine bM (er1 _ _) (bM (ok1 _ _) (bM (bM (ok1 _ _) (er1 _ _)) (bM ?_ (bM ?_ (bM ?_ (bM ?_ (bM ?_ (bM ?_ (bM ?_ (bM ?_ (bM ?_ (bM ?_ ?_))))))))))))
 ·split
  ·exact ok1 _ _
  ·exact er1 _ _
 ·refine cC (H _) fun a=>cC (H _) fun b=>?_;unfold jz;exact bM (bM (ok1 _ _) (er1 _ _)) (bM (bM (ok1 _ _) (bM (ok1 _ _) (bM (ok1 _ _) (ok1 _ _)))) (er1 _ _))
 ·exact cC (mA (H _)) fun a=>bM (ok1 _ _) (cC (mA (H _)) fun b=>ok1 _ _)
 ·exact cC (mA (H _)) fun a=>ok1 _ _
 ·exact cC (mA (H _)) fun a=>bM (H1 _) (H1 _)
 ·exact cC (H _) fun v=>vT (hr _ _ _ _) (by omega)
 ·unfold ib;exact bM (bM (cC (qJ H _) fun vs=>bM (ok1 _ _) (er1 _ _)) (er1 _ _)) (er1 _ _)
 ·refine cC (H _) fun v=>?_;split
  ·exact bM (ok1 _ _) (er1 _ _)
  ·exact er1 _ _
 ·unfold mP;simp only;split
  ·exact er1 _ _
  ·exact bM (bM (cC (qJ H _) fun l=>Ar hr) (er1 _ _)) (er1 _ _)
 ·unfold ta;refine cC (H _) fun v=>bM (bM (fun m a s h0 h=>?_) (er1 _ _)) (er1 _ _);cases h;simp only[mu];exact⟨by simp;omega,JF _,h0,trivial⟩
 ·unfold uA;refine bM (er1 _ _) ?_;simp only;refine bM (er1 _ _) (bM (cC (H _) fun v m a s h0 h=>?_) fun m a s h0 h=>?_)
  ·cases h;exact⟨by simp only[mu];omega,JF _,h0,rfl⟩
  ·cases h;exact⟨by omega,JF _,h0,rfl⟩
theorem mB{p:List Mod}:∀(n:Nat)(o:Int)(ns:List bF)(vs:List Val)(e:Exp),TQ 0 (bK p n o ns vs e)
 |0,_,_,_,_=>Au
 |n+1,o,ns,vs,e=>B5 (fun o ns vs e=>mB n o ns vs e) o ns vs e
structure GoodM (p:List Mod) (m:Ms):Prop where
 right:pM m
 bud:mu m<=1000000
 fr:0<=m.frames/\m.frames<=60
 fuel:0<=m.fuel
 shape:∀(i:Nat)(x:Mod),p[i]? = some x->∃l,m.state[i]? = some l/\l.length=x.vars.length
def GoodM.eval{p:List Mod}{n:Nat}{o:Int}{ns:List bF}{vs:List Val}{e:Exp}{m s:Ms}{v:Val}(G:GoodM p m)(hs:ix ns vs)(h:bK p n o ns vs e m= .ok v s):GoodM p s/\Rv v/\s.fuel<=m.fuel:=by
 obtain⟨h1,h2,h3,h4⟩:=mB n o ns vs e m v s G.fuel h;obtain⟨g1,g2,g3⟩:=jU (p:=p) n o ns vs e hs m G.right;rw[h]at g1 g2;refine⟨⟨g1,by have:=G.bud;omega,by rw[h4];exact G.fr,h3,fun i x hx=>?_⟩,g3 v s h,h2⟩;obtain⟨l,k1,k2⟩:=G.shape i x hx;have:(iS s)[i]? = (iS m)[i]?:=by rw[show iS s=iS m from g2]
 simp only[iS,I3,k1,Ja]at this;cases hi:s.state[i]? with
 |none=>rw[hi]at this;cases this
 |some l'=>
  rw[hi]at this;simp only[Ja,H5]at this;exact⟨l',rfl,by omega⟩
def GoodM.bool{p:List Mod}{n:Nat}{o:Int}{ns:List bF}{vs:List Val}{e:Exp}{m s:Ms}{b:Bool}(G:GoodM p m)(hs:ix ns vs)(h:boolX (bK p n o ns vs e) m= .ok b s):GoodM p s/\s.fuel<=m.fuel:=by
 unfold boolX X.bind at h;cases hr:bK p n o ns vs e m with
 |er c t=>rw[hr]at h;cases h
 | ok v t=>
  rw[hr]at h;simp only at h;split at h
  ·cases h;exact⟨(G.eval hs hr).1,(G.eval hs hr).2.2⟩
  ·cases h
def uj{v:Val}(h:Rv v):v.names.length<=8:=by
 unfold Rv bp at h;split at h
 ·simp only[H6,I2]at h;omega
 ·simp only[H6,Ia]at h;exact h.1.1.2
theorem uZ:∀(d:Nat)(v:Val),bp d v=true->v.sz<=17*9 ^ d
 |0,v,h=>by simp[bp]at h
 | d + 1,v,h=>by
  have hp:1<=9 ^ d:=Nat.one_le_pow _ _ (by decide);obtain⟨k,n,ns,vs⟩:=v;unfold bp at h;simp only[Val.sz];split at h
  ·simp only[H6,I2,HJ,HI]at h;have h1:=h.1.1;have h2:vs=[]:=Im h.1.2;subst h2;simp only[bu];rw[Nat.pow_succ];omega
  ·simp only[H6,I2,Ip,HJ,HI]at h;have h8:=Jy h.1.1.2;have hl:=h.1.1.1.2;have hv:=h.2;have key:∀l:List Val,(∀v∈l,bp d v=true)->bu l<=l.length*(17*9 ^ d):=by
    intro l
    induction l with
    |nil=>intro _;simp[bu]
    |cons v l ih=>
     intro h;have h1:=uZ d v (h v Jt);have h2:=ih fun w hw=>h w (Jo _ hw);simp only[bu,Je];rw[IL];omega
   have h3:=key vs hv;have h4:vs.length*(17*9 ^ d)<=8*(17*9 ^ d):=Il _ (by omega);rw[Nat.pow_succ];omega
def nT{v:Val}(h:Rv v):v.sz<=200000:=Jf (uZ 4 v h) (by decide)
end Go.Av.Ap
namespace Go.Av.Ap
open Go Go.Av
theorem uH{α β:Type}{F:α->β->Bool}:∀ {l:List α} {r:List β},b6 F l r=true->∀(k:Nat)(x:α)(y:β),l[k]? = some x->r[k]? = some y->F x y=true
 |x:: l,y:: r,h,k,a,b,ha,hb=>by
  simp only[b6,H6]at h;cases k with
  |zero=>simp at ha hb;subst ha;subst hb;exact h.1
  |succ k=>exact uH h.2 k a b (by simpa using ha) (by simpa using hb)
 |[],_,_,k,a,b,ha,_=>by simp at ha
 |_:: _,[],h,_,_,_,_,_=>by simp[b6]at h
theorem uI{E:Val->Val->Bool}(hE:∀a b,E a b=true->a=b):∀ {l r:List Val},b6 E l r=true->l=r
 |[],[],_=>rfl
 |x:: l,y:: r,h=>by
  simp only[b6,H6]at h;rw[hE x y h.1,uI hE h.2]
 |[],_:: _,h=>by simp[b6]at h
 |_:: _,[],h=>by simp[b6]at h
theorem lR:∀(l:List ca)(i:Int)(k:Nat)(f:ca),(l.map (·.1)).Nodup->l[k]? = some f->br (fun g:ca=>g.1== f.1) l i=i+k
 |[],_,_,_,_,h=>by simp at h
 | g:: l,i,k,f,hn,h=>by
  rw[Jc,Kk]at hn;cases k with
  |zero=>
   simp at h;subst h;simp[br]
  |succ k=>
   have h':l[k]? = some f:=by simpa using h
   have hne:¬g.1=f.1:=fun e=>hn.1 (by rw[e];exact JP.2 ⟨f,IQ h',rfl⟩);simp only[br];rw[if_neg (by simpa using hne),lR l (i+1) k f hn.2 h'];omega
theorem o8{l:List ca}(hn:(l.map (·.1)).Nodup){vars:List Val}(hm:cb l vars=true):∀(B A:List ca),A++B=l->cE l vars B (vars.take A.length)=some vars
 |[],A,e=>by
  simp only[cb,H6,Ia]at hm;rw[I7]at e;subst e;rw[cE,JC (by omega)]
 | f:: B,A,e=>by
  have hm':=hm;simp only[cb,H6,Ia]at hm';have hlen:A.length+(B.length+1)=l.length:=by rw[<- e];simp
  have hf:l[A.length]? = some f:=by rw[<- e];simp
  have hv:vars[A.length]? = some vars[A.length]!:=by rw[Is vars A.length (by omega)];exact Ih (by omega)
  have hi:cY l f.1=(A.length:Int):=by
   unfold cY;rw[lR l 0 A.length f hn hf];omega
  have hx:=uH hm'.2 A.length f _ hf hv;have ih:=o8 hn hm B (A++[f]) (by rw[<- e];simp);have ht:vars.take (A++[f]).length=vars.take A.length++[vars[A.length]!]:=by
   rw[IG,Jq,J8 (by omega),Is vars A.length (by omega)]
  rw[ht]at ih;rw[cE,hi,I0,if_neg (by rw[hx];simp)];exact ih
theorem kP{α β:Type}{F:α->β->Bool}{a:α}{b:β}:∀ {l:List α} {r:List β},b6 F l r=true->F a b=true->b6 F (l++[a]) (r++[b])=true
 |[],[],_,h=>by simp[b6,h]
 |x:: l,y:: r,h1,h=>by
  simp only[b6,H6]at h1;simp only[IZ,b6,H6];exact⟨h1.1,kP h1.2 h⟩
 |[],_:: _,h,_=>by simp[b6]at h
 |_:: _,[],h,_=>by simp[b6]at h
theorem qX{α β:Type}{F:α->β->Bool}:∀ {l:List α} {r:List β},b6 F l r=true->l.length=r.length
 |[],[],_=>rfl
 |x:: l,y:: r,h=>by
  simp only[b6,H6]at h;simp[qX h.2]
 |[],_:: _,h=>by simp[b6]at h
 |_:: _,[],h=>by simp[b6]at h
theorem nu{fr:List ca}{vars:List Val}:∀ {B A:List ca} {acc l:List Val},cE fr vars B acc=some l->b6 (fun f v=>g8 f.2 v) A acc=true->b6 (fun f v=>g8 f.2 v) (A++B) l=true
 |[],A,acc,l,h,ha=>by
  simp only[cE,H5]at h;subst h;rw[I7];exact ha
 | f:: B,A,acc,l,h,ha=>by
  rw[cE]at h;split at h
  ·cases h
  ·rename_i hc;rw[not_or,JN]at hc
   have:=nu (A:=A++[f]) h (kP ha hc.2)
   simpa using this
theorem nI{ns:List bF}{vars:List Val}:∀ {B:List ca} {es:List Exp} {A:List ca} {acc l:List Val},es.length=B.length->dB ns vars B es acc= .ok l->b6 (fun f v=>g8 f.2 v) A acc=true->b6 (fun f v=>g8 f.2 v) (A++B) l=true
 |[],[],A,acc,l,_,h,ha=>by
  simp only[dB,KJ]at h;subst h;rw[I7];exact ha
 | f:: B,e:: es,A,acc,l,hl,h,ha=>by
  rw[dB]at h;split at h
  ·cases h
  ·split at h
   ·rename_i hx
    have:=nI (A:=A++[f]) (by simpa using hl) h (kP ha hx)
    simpa using this
   ·cases h
 |[],_:: _,_,_,_,hl,_,_=>by simp at hl
 |_:: _,[],_,_,_,hl,_,_=>by simp at hl
def kv{l:List ca}{vs:List Val}(h:b6 (fun f v=>g8 f.2 v) l vs=true):cb l vs=true:=by
 simp only[cb,H6,Ia];exact⟨qX h,h⟩
def iE{F:ca->ca->Bool}{old now:Mod}{vars l:List Val}(h:cK F old now vars= .ok l):cb old.vars vars=true/\cb now.vars l=true:=by
 unfold cK at h;split at h
 ·cases h
 ·rename_i hm;rw[JN]at hm;refine⟨hm,?_⟩;split at h
  ·cases hk:cE old.vars vars now.vars []with
   |none=>rw[hk]at h;cases h
   |some l'=>
    rw[hk]at h;simp only[jq,KJ]at h;subst h;exact kv (by have:=nu (A:=[]) hk rfl;simpa using this)
  ·split at h
   ·cases h
   ·rename_i hl;rw[JN]at hl;simp only[gt,H6,Ia]at hl;exact kv (by have:=nI (A:=[]) hl.1.1 h rfl;simpa using this)
def yD{F:ca->ca->Bool}{old now:Mod}{vars l:List Val}(h:fP F old now vars= .ok l):cb now.vars vars=true/\cb old.vars l=true:=by
 unfold fP at h;split at h
 ·cases h
 ·rename_i hm;rw[JN]at hm;refine⟨hm,?_⟩;split at h
  ·cases hk:cE now.vars vars old.vars []with
   |none=>rw[hk]at h;cases h
   |some l'=>
    rw[hk]at h;simp only[jq,KJ]at h;subst h;exact kv (by have:=nu (A:=[]) hk rfl;simpa using this)
  ·split at h
   ·cases h
   ·rename_i hl;rw[JN]at hl;simp only[gt,H6,Ia]at hl;exact kv (by have:=nI (A:=[]) hl.1.2 h rfl;simpa using this)
def tV{F:ca->ca->Bool}{E:Val->Val->Bool}(hE:∀a b,E a b=true->a=b){old now:Mod}{vars:List Val}(h:iF F E old now vars=true):∃l,cK F old now vars= .ok l/\fP F old now l= .ok vars/\cb old.vars vars=true/\cb now.vars l=true:=by
 unfold iF at h;cases hf:cK F old now vars with
 |error c=>rw[hf]at h;cases h
 | ok l=>
  rw[hf]at h;simp only at h;cases hb:fP F old now l with
  |error c=>rw[hb]at h;cases h
  |ok m=>
   rw[hb]at h;simp only[H6,Ia]at h;have hm:=uI hE h.2;subst hm;exact⟨l,rfl,hb,(iE hf).1,(iE hf).2⟩
def ux{F:ca->ca->Bool}{E:Val->Val->Bool}{old twin:Mod}(hv:twin.vars=old.vars)(hm:twin.moves=false)(hn:(old.vars.map (·.1)).Nodup){vars:List Val}(h:cb old.vars vars=true)(hE:∀a∈vars,E a a=true):
  cK F old twin vars= .ok vars/\fP F old twin vars= .ok vars/\iF F E old twin vars=true:=by
 have hk:=o8 hn h old.vars [] rfl;have hk':cE old.vars vars old.vars []=some vars:=by simpa using hk
 have f1:cK F old twin vars= .ok vars:=by
  unfold cK;rw[if_neg (by simp[h]),Ic hm,hv,hk'];rfl
 have b1:fP F old twin vars= .ok vars:=by
  unfold fP;rw[hv,if_neg (by simp[h]),Ic hm,hk'];rfl
 refine⟨f1,b1,?_⟩;unfold iF;rw[f1];simp only[b1,JB,JJ];have key:∀l:List Val,(∀a∈l,E a a=true)->b6 E l l=true:=by
  intro l
  induction l with
  |nil=>intro _;rfl
  |cons a l ih=>intro h;simp only[b6,H6];exact⟨h a (by simp),ih fun b hb=>h b (by simp[hb])⟩
 exact key vars hE
end Go.Av.Ap
