/- The abstract evaluator of the model and plain laws, part 4: its soundness holds for every program whose table of types is the evaluator's. No further condition. -/
import Derived.Test.YtmgjpakjlbofpaaGreatLc
import Derived.Sort.MapsRangeIn
import Derived.Maps.OwnIn
import Derived.RangeFuncSeq
set_option linter.defProp false
set_option linter.unusedSimpArgs false
set_option linter.unusedVariables false
namespace Go.Av.Ap
def bp{α β:Type}{m:M α}{f:α->M β}{h h':Hp}{a:α}(e:m h= .ok a h'):ae m f h=f a h':=by simp only[ae,e]
def vq{α β:Type}{m:M α}{f:α->M β}{h h':Hp}{v:AV}(e:m h= .pan v h'):ae m f h= .pan v h':=by simp only[ae,e]
def aX(l:List Val):List AV:=l.flatMap fun v=>aa v.av
def fL(l:List Val):(aX l).length=l.length*4:=by
 induction l with
 |nil=>rfl
 |cons v l ih=>simp only[aX,LC,KH]at ih |-;rw[ih];simp;omega
def iB{l:List Val}{k:Nat}(h:k<l.length):((aX l).drop (k*4)).take 4=aa (l[k]).av:=by
 induction l generalizing k with
 |nil=>simp at h
 | cons v l ih=>
  cases k with
  |zero=>simp[aX]
  |succ k=>
   have:=ih (k:=k) (by simpa using h)
   simp only[aX,LC]at this |-;have e:(k+1)*4=(aa v.av).length+k*4:=by simp;omega
   rw[e,MM,List.getElem_cons_succ];simp only[Mh];rw[List.drop_of_length_le (by omega),KL];exact this
def ra{l:List Val}{k:Nat}(h:k<l.length)(v:Val):setCells (aX l) (k*4) (aa v.av)=aX (l.set k v):=by
 induction l generalizing k with
 |nil=>simp at h
 | cons w l ih=>
  cases k with
  |zero=>
   simp only[setCells,aX,LC,LH,Me,KL,List.set_cons_zero];congr 1;have:0+(aa v.av).length=(aa w.av).length:=by simp
   rw[this,List.drop_left]
  |succ k=>
   have:=ih (k:=k) (by simpa using h)
   simp only[setCells,aX,LC,List.set_cons_succ]at this |-;have e:(k+1)*4=(aa w.av).length+k*4:=by simp;omega
   have e2:(aa w.av).length+k*4+(aa v.av).length-(aa w.av).length=k*4+(aa v.av).length:=by omega
   have e3:(aa w.av).length+k*4-(aa w.av).length=k*4:=by omega
   rw[e,L2,MM,e2,e3,LL (by omega),List.drop_of_length_le (by omega)];simp only[KL,Ld];congr 1;rw[<- Ld];exact this
def cE(l:List Deed):List AV:=l.flatMap fun d=>[.int .i64 d.effect,.int .i64 d.arg,.int .i64 d.answer]
def oO(tag:Nat->Nat)(k:Nat)(h:Hp)(l:List Val)(v:AV):Prop:=v=vals l\/∃r,v= .hs r 0 l.length 4 true/\tag r=k/\h[r]? = some (aX l)
def dD(tag:Nat->Nat)(h:Hp):List Call->List AV->Prop
 |[],cs=>cs=[]
 |c:: l,cs=>∃av rest,cs= .str c.module:: .str c.func:: av:: rest/\oO tag 4 h c.args av/\dD tag h l rest
def bR(tag:Nat->Nat)(h:Hp):Nat->List bA->List (List Val)->List AV->Prop
 |_,[],[],cs=>cs=[]
 |i,n:: ns,l:: st,cs=>∃av rest,cs= .str n:: av:: rest/\((l=[]/\av= .sl [])\/∃r,av= .hs r 0 l.length 4 true/\tag r=6+i/\h[r]? = some (aX l))/\bR tag h (i+1) ns st rest
 |_,_,_,_=>False
def vd(tag:Nat->Nat)(k sz n:Nat)(cells:List AV->Prop)(v:AV)(h:Hp):Prop:=(n=0/\v= .hn)\/∃q cs,v= .hs q 0 n sz true/\0<n/\tag q=k/\h[q]? = some cs/\cs.length=n*sz/\cells cs
structure SNm where
 names:List bA
 sv:AV
 cells:List AV
 told:Bool
structure RepT (row:Ms->AV->AV->AV->List AV) (nm:SNm) (tag:Nat->Nat) (dv cv sv:AV) (m:Ms) (h:Hp):Prop where
 r0:h[0]? = some (row m dv cv sv)
 t0:tag 0=0
 ds:vd tag 2 3 m.deeds.length (fun cs=>cs=cE m.deeds) dv h
 cs:vd tag 3 3 m.calls.length (fun cs=>dD tag h m.calls cs) cv h
 st:vd tag 5 2 m.state.length (fun cs=>cs=nm.cells/\bR tag h 0 nm.names m.state cs) sv h
 sve:sv=nm.sv
 wok:nm.told=true->m.world=[]
def JY(row:Ms->AV->AV->AV->List AV)(nm:SNm)(m:Ms)(h:Hp):Prop:=∃tag dv cv sv,RepT row nm tag dv cv sv m h
def Kp(tag tag':Nat->Nat)(ks:Nat->Prop)(h h':Hp):Prop:=∀r cs,h[r]? = some cs->¬ks (tag r)->h'[r]? = some cs/\tag' r=tag r
def oO.keep{tag tag':Nat->Nat}{ks:Nat->Prop}{h h':Hp}(K:Kp tag tag' ks h h'){k:Nat}(hk:¬ks k){l:List Val}{v:AV}(H:oO tag k h l v):oO tag' k h' l v:=by
 rcases H with H|⟨r,h1,h2,h3⟩
 ·exact .inl H
 ·have:=K r _ h3 (by rw[h2];exact hk)
  exact .inr ⟨r,h1,this.2.trans h2,this.1⟩
theorem dD.keep{tag tag':Nat->Nat}{ks:Nat->Prop}{h h':Hp}(K:Kp tag tag' ks h h')(hk:¬ks 4):{l:List Call} ->{cs:List AV} ->dD tag h l cs->dD tag' h' l cs
 |[],_,H=>H
 |_:: _,_,⟨av,rest,h1,h2,h3⟩=>⟨av,rest,h1,h2.keep K hk,h3.keep K hk⟩
theorem bR.keep{tag tag':Nat->Nat}{ks:Nat->Prop}{h h':Hp}(K:Kp tag tag' ks h h')(hk:∀i,¬ks (6+i)):{i:Nat} ->{nm:List bA} ->{st:List (List Val)} ->{cs:List AV} ->bR tag h i nm st cs->bR tag' h' i nm st cs
 |_,[],[],_,H=>H
 | i,_:: _,_:: _,_,⟨av,rest,h1,h2,h3⟩=>⟨av,rest,h1,by
   rcases h2 with h2|⟨r,g1,g2,g3⟩
   ·exact .inl h2
   ·have:=K r _ g3 (by rw[g2];exact hk i)
    exact .inr ⟨r,g1,this.2.trans g2,this.1⟩,bR.keep K hk h3⟩
 |_,[],_:: _,_,H=>H.elim
 |_,_:: _,[],_,H=>H.elim
def vd.keep{tag tag':Nat->Nat}{ks:Nat->Prop}{h h':Hp}(K:Kp tag tag' ks h h'){k sz n:Nat}{c c':List AV->Prop}{v:AV}(hk:¬ks k)(hc:∀cs,c cs->c' cs)(H:vd tag k sz n c v h):vd tag' k sz n c' v h':=by
 rcases H with H|⟨q,cs,h1,h2,h3,h4,h5,h6⟩
 ·exact .inl H
 ·have:=K q _ h4 (by rw[h3];exact hk)
  exact .inr ⟨q,cs,h1,h2,this.2.trans h3,this.1,h5,hc _ h6⟩
def RepT.set0{row:Ms->AV->AV->AV->List AV}{nm:SNm}{tag:Nat->Nat}{dv cv sv:AV}{m m':Ms}{h:Hp}(R:RepT row nm tag dv cv sv m h)(h1:m'.deeds=m.deeds)(h2:m'.calls=m.calls)(h3:m'.state=m.state)(h4:m.world=[]->m'.world=[]):
  RepT row nm tag dv cv sv m' (h.set 0 (row m' dv cv sv)):=by
 have hlt:0<h.length:=(Kz.1 R.r0).1;have K:Kp tag tag (fun k=>k=0) h (h.set 0 (row m' dv cv sv)):=fun r cs hr hk=>by
  have:r≠0:=fun e=>hk (by rw[e];exact R.t0);exact⟨by rw[L3 (Mz this)];exact hr,rfl⟩
 refine⟨by rw[Lf hlt],R.t0,?_,?_,?_,R.sve,fun t=>h4 (R.wok t)⟩
 ·rw[h1];exact R.ds.keep K (by decide) fun _ h=>h
 ·rw[h2];exact R.cs.keep K (by decide) fun _ h=>h.keep K (by decide)
 ·rw[h3];exact R.st.keep K (by decide) fun _ h=>⟨h.1,h.2.keep K (by omega)⟩
def RepT.more{row:Ms->AV->AV->AV->List AV}{nm:SNm}{tag:Nat->Nat}{dv cv sv:AV}{m:Ms}{h:Hp}(R:RepT row nm tag dv cv sv m h)(x:List AV)(k:Nat):
  RepT row nm (fun i=>if i=h.length then k else tag i) dv cv sv m (h++[x])/\Kp tag (fun i=>if i=h.length then k else tag i) (fun _=>False) h (h++[x]):=by
 have K:Kp tag (fun i=>if i=h.length then k else tag i) (fun _=>False) h (h++[x]):=fun r cs hr _=>by
  have hlt:r<h.length:=(Kz.1 hr).1;exact⟨by rw[Ky hlt];exact hr,by simp only;rw[if_neg (by omega)]⟩
 exact⟨⟨(K 0 _ R.r0 id).1,(K 0 _ R.r0 id).2.trans R.t0,R.ds.keep K id fun _ h=>h,R.cs.keep K id fun _ h=>h.keep K id,R.st.keep K id fun _ h=>⟨h.1,h.2.keep K (fun _=>id)⟩,R.sve,R.wok⟩,K⟩
def J5{tag:Nat->Nat}{h:Hp}{q:Nat}{k:Nat}(hq:tag q=k)(x:List AV):Kp tag tag (fun j=>j=k) h (h.set q x):=fun r cs hr hk=>by
 have:r≠q:=fun e=>hk (by rw[e];exact hq);exact⟨by rw[L3 (Mz this)];exact hr,rfl⟩
def cp{T:TT}{t:Nat}{ti:TI}(ht:T t=some ti)(ha:ti.agg=false){h:Hp}{l k:Nat}{cs:List AV}{v:AV}(h0:h[l]? = some cs)(h1:cs[k]? = some v):a7 T t (.hp l k) h= .ok v h:=by
 simp[a7,ht,h0,ha,h1]
def lC{T:TT}{t:Nat}{ti:TI}(ht:T t=some ti)(ha:ti.agg=true){h:Hp}{l k:Nat}{cs:List AV}(h0:h[l]? = some cs)(hle:k+ti.size<=cs.length):a7 T t (.hp l k) h= .ok (.agg ((cs.drop k).take ti.size)) h:=by
 simp[a7,ht,h0,ha,hle]
def dO{T:TT}{t:Nat}{ti:TI}(ht:T t=some ti){h:Hp}{l k:Nat}{cs:List AV}{v:AV}(h0:h[l]? = some cs)(hv:bv ti.size v=true)(hle:k+ti.size<=cs.length)(hp:0<ti.size):
  bH T t (.hp l k) v h= .ok (.tup []) (h.set l (setCells cs k (aa v))):=by
 simp[bH,ht,h0,hv,hle,hp]
def yn{T:TT}{t e:Nat}{ti ei:TI}(ht:T t=some ti)(hk:ti.kind= .slice e)(he:T e=some ei){x:AV}(hx:bv ei.size x=true)(hb:0<ei.bytes)(hs:0<ei.size)(hc:ei.bytes<=140737488355328)(h:Hp):
  appH T t false .hn (.sl [x]) h= .ok (.hs h.length 0 1 ei.size ei.agg) (h++[aa x]):=by
 have:cn ei.size [x]=true:=by simp[cn,hx]
 simp[appH,ht,hk,he,fq,this,hb,hs,hG,hc]
def yo{T:TT}{t e:Nat}{ti ei:TI}(ht:T t=some ti)(hk:ti.kind= .slice e)(he:T e=some ei){x:AV}(hx:bv ei.size x=true)(hb:0<ei.bytes)(hs:0<ei.size){h:Hp}{q n:Nat}{cs:List AV}(h0:h[q]? = some cs)(hok:cs.all aI=true)(hl:cs.length=n*ei.size)(hn:0<n)(hc:(n+1)*ei.bytes<=140737488355328):appH T t false (.hs q 0 n ei.size ei.agg) (.sl [x]) h= .ok (.hs h.length 0 (n+1) ei.size ei.agg) ((h.set q [])++[cs++aa x]):=by
 have h1:cn ei.size [x]=true:=by simp[cn,hx]
 have h2:List.all cs aI=true:=hok;simp only[appH,ht,hk,he,fq,h1,hb,hs,hG,h0,h2,hl,hn,Ll,Lz,Kh,Lb,La,List.isEmpty_cons,Km,LC,List.flatMap_nil,Lk];have h5:cs.take (n*ei.size)=cs:=LL (by omega);have h6:0<n*ei.size:=LW hn hs;rw[MA hc,h5];simp[h6]
theorem lW{T:TT}{t e:Nat}{ti ei:TI}(ht:T t=some ti)(hk:ti.kind= .slice e)(he:T e=some ei)(h4:ei.size=4)(hag:ei.agg=true)(hb:0<ei.bytes)(call:FuncId->List AV->M AV)(l:List Val)(hc:l.length*ei.bytes<=140737488355328)(h:Hp):
  dW T t call [vals l] h=if l=[]then .ok (vals []) h else .ok (.hs h.length 0 l.length 4 true) (h++[aX l]):=by
 have h1:cn 4 (dn l)=true:=xw l;have hlen:(dn l).length=l.length:=by simp[cU]
 have hfl:(dn l).flatMap aa=aX l:=by simp[cU,aX,List.flatMap_map]
 cases l with
 |nil=>simp[dW,appH,ht,hk,he,fq,hb,h4,hG,vals,dn,cn]
 |cons v l=>
  have hne:(dn (v:: l)).isEmpty=false:=rfl;unfold dW vals appH;simp only[ht,hk,he,fq,h4,h1,hb,hG,Ll,Lz,Ml,Kh,hne,Km,hlen,hfl,hag];rw[MA hc];simp
theorem dD.ok{tag:Nat->Nat}{h:Hp}:{l:List Call} ->{cs:List AV} ->dD tag h l cs->cs.all aI=true/\cs.length=l.length*3
 |[],cs,H=>by cases H;exact⟨rfl,rfl⟩
 | c:: l,_,⟨av,rest,h1,h2,h3⟩=>by
  subst h1;obtain⟨g1,g2⟩:=h3.ok;have:aI av=true:=by
   rcases h2 with rfl|⟨r,rfl,_⟩<;>rfl
  refine⟨?_,by simp[g2];omega⟩;rw[Ln,Ln,Ln,this,g1];rfl
theorem dD.snoc{tag:Nat->Nat}{h:Hp}{c:Call}{av:AV}(ha:oO tag 4 h c.args av):{l:List Call} ->{cs:List AV} ->dD tag h l cs->dD tag h (l++[c]) (cs++[.str c.module,.str c.func,av])
 |[],cs,H=>by cases H;exact⟨av,[],rfl,ha,rfl⟩
 |d:: l,_,⟨av',rest,h1,h2,h3⟩=>⟨av',rest++[.str c.module,.str c.func,av],by rw[h1];rfl,h2,dD.snoc ha h3⟩
def qq(l:List Deed):(cE l).all aI=true:=by simp[cE,aI]
theorem bR.at{tag:Nat->Nat}{h:Hp}:{i:Nat} ->{nm:List bA} ->{st:List (List Val)} ->{cs:List AV} ->bR tag h i nm st cs->∀(j:Nat)(l:List Val),st[j]? = some l->
  ∃av,cs[j*2+1]? = some av/\((l=[]/\av= .sl [])\/∃r,av= .hs r 0 l.length 4 true/\tag r=6+(i+j)/\h[r]? = some (aX l))
 |_,[],[],_,_,j,l,hj=>by simp at hj
 | i,_:: _,_:: _,_,⟨av,rest,h1,h2,h3⟩,j,l,hj=>by
  subst h1;cases j with
  |zero=>simp at hj;subst hj;exact⟨av,rfl,h2⟩
  |succ j=>
   obtain⟨av',g1,g2⟩:=h3.at j l (by simpa using hj);refine⟨av',?_,?_⟩
   ·rw[show (j+1)*2+1=j*2+1+2 by omega];simpa using g1
   ·rw[show i+(j+1)=i+1+j by omega];exact g2
 |_,[],_:: _,_,H,_,_,_=>H.elim
 |_,_:: _,[],_,H,_,_,_=>H.elim
theorem bR.len{tag:Nat->Nat}{h:Hp}:{i:Nat} ->{nm:List bA} ->{st:List (List Val)} ->{cs:List AV} ->bR tag h i nm st cs->nm.length=st.length
 |_,[],[],_,_=>rfl
 |_,_:: _,_:: _,_,⟨_,_,_,_,h3⟩=>by simp[h3.len]
 |_,[],_:: _,_,H=>H.elim
 |_,_:: _,[],_,H=>H.elim
theorem bR.set{tag:Nat->Nat}{h:Hp}{r k:Nat}{v:Val}:{i:Nat} ->{nm:List bA} ->{st:List (List Val)} ->{cs:List AV} ->bR tag h i nm st cs->∀(j:Nat)(l:List Val),st[j]? = some l->tag r=6+(i+j)->h[r]? = some (aX l)->cs[j*2+1]? = some (.hs r 0 l.length 4 true)->
  k<l.length->bR tag (h.set r (aX (l.set k v))) i nm (setSt st j k v) cs
 |_,[],[],_,_,j,l,hj,_,_,_,_=>by simp at hj
 | i, n:: ns,l0:: st,_,⟨av,rest,h1,h2,h3⟩,j,l,hj,ht,hr,hc,hk=>by
  subst h1;have hlt:r<h.length:=(Kz.1 hr).1;cases j with
  | zero=>
   simp only[Ku,Kg]at hj;subst hj;simp only[LH,KF,KS,Ku,Kg]at hc;have e:setSt (l0:: st) 0 k v=l0.set k v:: st:=by simp[setSt]
   rw[e];refine⟨av,rest,rfl,.inr ⟨r,by rw[hc,LM],ht,Lf hlt⟩,?_⟩;have K:Kp tag tag (fun t=>t=6+i) h (h.set r (aX (l0.set k v))):=J5 (by rw[ht];rfl) _;have key:∀ {i':Nat} {nm':List bA} {st':List (List Val)} {cs':List AV},i<i'->bR tag h i' nm' st' cs'->bR tag (h.set r (aX (l0.set k v))) i' nm' st' cs':=by
    intro i' nm' st'
    induction st' generalizing i' nm' with
    |nil=>intro cs' hi H;cases nm' with
     |nil=>exact H
     |cons _ _=>exact H.elim
    | cons a st' ih=>intro cs' hi H;cases nm' with
     |nil=>exact H.elim
     | cons b nm'=>
      obtain⟨av2,rest2,k1,k2,k3⟩:=H;refine⟨av2,rest2,k1,?_,ih (by omega) k3⟩;rcases k2 with k2|⟨r2,g1,g2,g3⟩
      ·exact .inl k2
      ·have:=K r2 _ g3 (by rw[g2];omega)
       exact .inr ⟨r2,g1,g2,this.1⟩
   exact key (Mm i) h3
  | succ j=>
   have e:setSt (l0:: st) (j+1) k v=l0:: setSt st j k v:=by simp[setSt]
   rw[e];have hc':rest[j*2+1]? = some (.hs r 0 l.length 4 true):=by
    rw[show (j+1)*2+1=j*2+1+2 by omega]at hc;simpa using hc
   refine⟨av,rest,rfl,?_,h3.set j l (by simpa using hj) (by rw[ht];omega) hr hc' hk⟩;rcases h2 with h2|⟨r2,g1,g2,g3⟩
   ·exact .inl h2
   ·have:r2≠r:=fun e=>by rw[e,ht]at g2;omega
    exact .inr ⟨r2,g1,g2,by rw[L3 (Mz this)];exact g3⟩
 |_,[],_:: _,_,H,_,_,_,_,_,_,_=>H.elim
 |_,_:: _,[],_,H,_,_,_,_,_,_,_=>H.elim
def Kp.trans{a b c:Nat->Nat}{ks js:Nat->Prop}{h h1 h2:Hp}(K:Kp a b ks h h1)(J:Kp b c js h1 h2):Kp a c (fun k=>ks k\/js k) h h2:=fun r cs hr hk=>by
 obtain⟨k1,k2⟩:=K r cs hr fun h=>hk (.inl h);obtain⟨j1,j2⟩:=J r cs k1 fun h=>hk (.inr (by rwa [k2]at h));exact⟨j1,j2.trans k2⟩
def Kp.new(tag:Nat->Nat)(h:Hp)(x:List AV)(k:Nat):Kp tag (fun i=>if i=h.length then k else tag i) (fun _=>False) h (h++[x]):=fun r cs hr _=>by
 have hlt:r<h.length:=(Kz.1 hr).1;exact⟨by rw[Ky hlt];exact hr,by simp only;rw[if_neg (by omega)]⟩
def Kp.mono{a b:Nat->Nat}{ks js:Nat->Prop}{h h1:Hp}(K:Kp a b ks h h1)(hj:∀k,ks k->js k):Kp a b js h h1:=fun r cs hr hk=>K r cs hr fun h=>hk (hj _ h)
def oh{T:TT}{t e:Nat}{ti ei:TI}(ht:T t=some ti)(hk:ti.kind= .slice e)(he:T e=some ei){sz:Nat}(h3:ei.size=sz)(hsz:0<sz)(hag:ei.agg=true)(hb:0<ei.bytes){tag:Nat->Nat}{k n:Nat}{P:List AV->Prop}{v x:AV}{h:Hp}(H:vd tag k sz n P v h)(hP0:n=0->P [])(hok:∀cs,P cs->cs.all aI=true)(hx:bv sz x=true)(hc:(n+1)*ei.bytes<=140737488355328):
  ∃h1 v' tag',appH T t false v (.sl [x]) h= .ok v' h1/\Kp tag tag' (fun j=>j=k) h h1/\vd tag' k sz (n+1) (fun cs'=>∃cs,P cs/\cs'=cs++aa x) v' h1/\aI v'=true:=by
 have hxl:(aa x).length=sz:=by
  unfold bv at hx;simp only[Kj,Lj]at hx;have h1:=hx.1;cases x<;>simp only[bT,Kg,reduceCtorEq]at h1<;>simp only[aa,La]<;>exact h1
 have hx':bv ei.size x=true:=by rw[h3];exact hx
 rcases H with⟨hn,rfl⟩|⟨q,cs,rfl,hn,hq,hcs,hl,hp⟩
 ·subst hn;refine⟨_,_,_,yn ht hk he hx' hb (by omega) (by omega) h,(Kp.new tag h (aa x) k).mono fun _ h=>h.elim,.inr ⟨h.length,aa x,by rw[h3,hag],by omega,by simp,by simp,by simpa using hxl,[],hP0 rfl,rfl⟩,rfl⟩
 ·have e1:=yo ht hk he hx' hb (by omega) hcs (hok cs hp) (by rw[h3];exact hl) hn hc;rw[h3,hag]at e1;have K1:Kp tag tag (fun j=>j=k) h (h.set q []):=J5 hq [];have K2:=Kp.new tag (h.set q []) (cs++aa x) k;refine⟨_,_,_,e1,(K1.trans K2).mono fun j h=>h.elim id False.elim,.inr ⟨h.length,cs++aa x,rfl,by omega,by simp,?_,by rw[KH,hl,hxl,KU,Nat.one_mul],cs,hp,rfl⟩,rfl⟩;have:(h.set q []).length=h.length:=by simp
  rw[<- this];simp
def RepT.pushDeed{row:Ms->AV->AV->AV->List AV}{nm:SNm}{tag tag':Nat->Nat}{dv dv' cv sv:AV}{m m':Ms}{h h1:Hp}{d:Deed}(R:RepT row nm tag dv cv sv m h)(K:Kp tag tag' (fun j=>j=2) h h1)(H:vd tag' 2 3 (m.deeds.length+1) (fun cs'=>∃cs,cs=cE m.deeds/\cs'=cs++aa d.av) dv' h1)(hd:m'.deeds=m.deeds++[d])(hc:m'.calls=m.calls)(hs:m'.state=m.state)(h4:m.world=[]->m'.world=[]):RepT row nm tag' dv' cv sv m' (h1.set 0 (row m' dv' cv sv)):=by
 obtain⟨k1,k2⟩:=K 0 _ R.r0 (by rw[R.t0];decide);have hlt:0<h1.length:=(Kz.1 k1).1;have t0:=k2.trans R.t0;have K0:Kp tag' tag' (fun j=>j=0) h1 (h1.set 0 (row m' dv' cv sv)):=J5 t0 _;refine⟨Lf hlt,t0,?_,?_,?_,R.sve,fun t=>h4 (R.wok t)⟩
 ·rw[hd,KH];refine H.keep K0 (by decide) ?_;rintro cs' ⟨cs,rfl,rfl⟩;show cE m.deeds++[AV.int .i64 d.effect,.int .i64 d.arg,.int .i64 d.answer]=_;simp[cE]
 ·rw[hc];exact (R.cs.keep K (c':=dD tag' h1 m.calls) (by decide) fun _ h=>h.keep K (by decide)).keep K0 (by decide) fun _ h=>h.keep K0 (by decide)
 ·rw[hs];exact (R.st.keep K (c':=fun cs=>cs=nm.cells/\bR tag' h1 0 nm.names m.state cs) (by decide) fun _ h=>⟨h.1,h.2.keep K (by omega)⟩).keep K0 (by decide) fun _ h=>⟨h.1,h.2.keep K0 (by omega)⟩
def RepT.pushCall{row:Ms->AV->AV->AV->List AV}{nm:SNm}{tag tag':Nat->Nat}{dv cv cv' sv:AV}{m m':Ms}{h h1:Hp}{c:Call}{av:AV}(R:RepT row nm tag dv cv sv m h)(K:Kp tag tag' (fun j=>j=3) h h1)(ha:oO tag 4 h c.args av)(H:vd tag' 3 3 (m.calls.length+1) (fun cs'=>∃cs,dD tag h m.calls cs/\cs'=cs++[.str c.module,.str c.func,av]) cv' h1)(hd:m'.deeds=m.deeds)(hc:m'.calls=m.calls++[c])(hs:m'.state=m.state)(h4:m.world=[]->m'.world=[]):RepT row nm tag' dv cv' sv m' (h1.set 0 (row m' dv cv' sv)):=by
 obtain⟨k1,k2⟩:=K 0 _ R.r0 (by rw[R.t0];decide);have hlt:0<h1.length:=(Kz.1 k1).1;have t0:=k2.trans R.t0;have K0:Kp tag' tag' (fun j=>j=0) h1 (h1.set 0 (row m' dv cv' sv)):=J5 t0 _;refine⟨Lf hlt,t0,?_,?_,?_,R.sve,fun t=>h4 (R.wok t)⟩
 ·rw[hd];exact (R.ds.keep K (c':=fun cs=>cs=cE m.deeds) (by decide) fun _ h=>h).keep K0 (by decide) fun _ h=>h
 ·rw[hc,KH];refine H.keep K0 (by decide) ?_;rintro cs' ⟨cs,hcs,rfl⟩;exact ((hcs.keep K (by decide)).snoc (ha.keep K (by decide))).keep K0 (by decide)
 ·rw[hs];exact (R.st.keep K (c':=fun cs=>cs=nm.cells/\bR tag' h1 0 nm.names m.state cs) (by decide) fun _ h=>⟨h.1,h.2.keep K (by omega)⟩).keep K0 (by decide) fun _ h=>⟨h.1,h.2.keep K0 (by omega)⟩
def RepT.var{row:Ms->AV->AV->AV->List AV}{nm:SNm}{tag:Nat->Nat}{dv cv sv:AV}{m:Ms}{h:Hp}(R:RepT row nm tag dv cv sv m h)(hrow:∀st,row { m with state:=st } dv cv sv=row m dv cv sv){i:Nat}{l:List Val}(hl:m.state[i]? = some l)(hne:l≠[]):
  ∃q r,nm.sv= .hs q 0 m.state.length 2 true/\h[q]? = some nm.cells/\nm.cells[i*2+1]? = some (.hs r 0 l.length 4 true)/\nm.cells.length=m.state.length*2/\h[r]? = some (aX l)/\
   ∀(k:Nat)(v:Val),k<l.length->RepT row nm tag dv cv sv { m with state:=setSt m.state i k v } (h.set r (aX (l.set k v))):=by
 have hi:i<m.state.length:=(Kz.1 hl).1;rcases R.st with⟨h0,_⟩|⟨q,cs,h1,h2,h3,h4,h5,rfl,h6⟩
 ·omega
 ·obtain⟨av,g1,g2⟩:=h6.at i l hl;rcases g2 with⟨g2,_⟩|⟨r,rfl,g3,g4⟩
  ·exact absurd g2 hne
  ·rw[KF]at g3;refine⟨q,r,by rw[<- R.sve,h1],h4,g1,h5,g4,fun k v hk=>?_⟩;have K:Kp tag tag (fun j=>j=6+i) h (h.set r (aX (l.set k v))):=J5 g3 _;refine⟨?_,R.t0,?_,?_,?_,R.sve,R.wok⟩
   ·rw[hrow];exact (K 0 _ R.r0 (by rw[R.t0];omega)).1
   ·exact R.ds.keep K (by omega) fun _ h=>h
   ·exact R.cs.keep K (by omega) fun _ h=>h.keep K (by omega)
   ·right;have hq:r≠q:=fun e=>by rw[e,h3]at g3;omega
    refine⟨q,nm.cells,by rw[h1];simp[setSt],by simpa [setSt]using h2,h3,by rw[L3 hq];exact h4,by simpa [setSt]using h5,rfl,?_⟩;exact h6.set i l hl (by rw[KF];exact g3) g4 g1 hk
theorem bR.snoc{tag:Nat->Nat}{h:Hp}{n:bA}{l:List Val}{av:AV}:{i:Nat} ->{nm:List bA} ->{st:List (List Val)} ->{cs:List AV} ->bR tag h i nm st cs->
  ((l=[]/\av= .sl [])\/∃r,av= .hs r 0 l.length 4 true/\tag r=6+(i+st.length)/\h[r]? = some (aX l))->bR tag h i (nm++[n]) (st++[l]) (cs++[.str n,av])
 |i,[],[],cs,H,ha=>by
  have H':cs=[]:=H;subst H';exact⟨av,[],rfl,ha,rfl⟩
 |i,_:: _,l0:: st,_,⟨av',rest,h1,h2,h3⟩,ha=>by
  refine⟨av',rest++[.str n,av],by rw[h1];rfl,h2,h3.snoc ?_⟩;rcases ha with ha|⟨r,g1,g2,g3⟩
  ·exact .inl ha
  ·exact .inr ⟨r,g1,by rw[g2];simp;omega,g3⟩
 |_,[],_:: _,_,H,_=>H.elim
 |_,_:: _,[],_,H,_=>H.elim
theorem bR.ok{tag:Nat->Nat}{h:Hp}:{i:Nat} ->{nm:List bA} ->{st:List (List Val)} ->{cs:List AV} ->bR tag h i nm st cs->cs.all aI=true
 |_,[],[],cs,H=>by
  have H':cs=[]:=H;subst H';rfl
 | _,_:: _,_:: _,_,⟨av,rest,h1,h2,h3⟩=>by
  subst h1;have:aI av=true:=by
   rcases h2 with⟨_,rfl⟩|⟨r,rfl,_⟩<;>rfl
  rw[Ln,Ln,this,h3.ok];rfl
 |_,[],_:: _,_,H=>H.elim
 |_,_:: _,[],_,H=>H.elim
def RepT.pushState{row:Ms->AV->AV->AV->List AV}{nm:SNm}{tag tag':Nat->Nat}{dv cv sv sv':AV}{m:Ms}{h h1:Hp}{n:bA}{l:List Val}{av:AV}(R:RepT row nm tag dv cv sv m h)(K:Kp tag tag' (fun j=>j=5) h h1)(ha:(l=[]/\av= .sl [])\/∃r,av= .hs r 0 l.length 4 true/\tag r=6+m.state.length/\h[r]? = some (aX l))(H:vd tag' 5 2 (m.state.length+1) (fun cs'=>∃cs,(cs=nm.cells/\bR tag h 0 nm.names m.state cs)/\cs'=cs++[.str n,av]) sv' h1):
  RepT row ⟨nm.names++[n],sv',nm.cells++[.str n,av],nm.told⟩ tag' dv cv sv' { m with state:=m.state++[l] } (h1.set 0 (row { m with state:=m.state++[l] } dv cv sv')):=by
 obtain⟨k1,k2⟩:=K 0 _ R.r0 (by rw[R.t0];decide);have hlt:0<h1.length:=(Kz.1 k1).1;have t0:=k2.trans R.t0;have K0:Kp tag' tag' (fun j=>j=0) h1 (h1.set 0 (row { m with state:=m.state++[l] } dv cv sv')):=J5 t0 _;refine⟨Lf hlt,t0,?_,?_,?_,rfl,R.wok⟩
 ·exact (R.ds.keep K (c':=fun cs=>cs=cE m.deeds) (by decide) fun _ h=>h).keep K0 (by decide) fun _ h=>h
 ·exact (R.cs.keep K (c':=dD tag' h1 m.calls) (by decide) fun _ h=>h.keep K (by decide)).keep K0 (by decide) fun _ h=>h.keep K0 (by decide)
 ·simp only[KH,La];refine H.keep K0 (by decide) ?_;rintro cs' ⟨cs,⟨rfl,hcs⟩,rfl⟩;refine⟨rfl,?_⟩;have h2:=hcs.snoc (n:=n) (l:=l) (av:=av) (by rw[KF];exact ha);exact (h2.keep K (by omega)).keep K0 (by omega)
def vM(d:Nat)(h:Hp):Nat->Nat->Nat->Nat->Bool->AV:=fun l off len sz ag=>match h[l]? with
 | some cs=>bif decide (off+len*sz<=cs.length)&&decide (0<sz)&&(ag||(Nat.beq sz 1&&cs.all aI))then
   .sl ((List.range len).map fun i=>iU d h (bif ag then .agg ((cs.drop (off+i*sz)).take sz)else nth cs (off+i*sz)))else .any
 |none=>.any
theorem kC(d:Nat)(h:Hp)(a:AV):iU (d+1) h a=cl (vM d h) a:=rfl
def jt{α β:Type}{l:List α}{f:Nat->β}{g:α->β}(h:∀i x,l[i]? = some x->f i=g x):(List.range l.length).map f=l.map g:=by
 apply LO;intro i;rw[KX,KX];by_cases hi:i<l.length
 ·rw[List.getElem?_range hi,Kl hi];simp only[K3,Kg];exact h i _ (Kl hi)
 ·rw[Kr (by simp;omega),Kr (by omega)];rfl
def mL{d:Nat}{h:Hp}{q n sz:Nat}{cs:List AV}(h0:h[q]? = some cs)(hl:cs.length=n*sz)(hz:0<sz):vM d h q 0 n sz true= .sl ((List.range n).map fun i=>iU d h (.agg ((cs.drop (i*sz)).take sz))):=by
 unfold vM;rw[h0];simp only[hl,KF,Kk,Ll,hz,Bool.true_or,Lz,Kh]
def A3(d:Nat)(h:Hp)(v:Val):iU d h v.av=v.av:=by
 cases d with
 |zero=>exact ln _ v
 |succ d=>exact ln _ v
def sk{d:Nat}{h:Hp}{r:Nat}{l:List Val}(h0:h[r]? = some (aX l)):vM d h r 0 l.length 4 true=vals l:=by
 rw[mL h0 (fL l) (by decide)];unfold vals;rw[cU];congr 1;refine jt fun i v hv=>?_;have hi:=(Kz.1 hv).1;rw[iB hi,(Kz.1 hv).2];have:AV.agg (aa v.av)=v.av:=by simp
 rw[this,A3]
def Em{d:Nat}{tag:Nat->Nat}{k:Nat}{h:Hp}{l:List Val}{av:AV}(H:oO tag k h l av):cl (vM d h) av=vals l:=by
 rcases H with rfl|⟨r,rfl,_,h0⟩
 ·exact ie _ l
 ·exact sk h0
theorem dD.at{tag:Nat->Nat}{h:Hp}:{l:List Call} ->{cs:List AV} ->dD tag h l cs->∀(i:Nat)(c:Call),l[i]? = some c->∃av,(cs.drop (i*3)).take 3=[.str c.module,.str c.func,av]/\oO tag 4 h c.args av
 |[],_,_,i,c,hc=>by simp at hc
 | d:: l,_,⟨av,rest,h1,h2,h3⟩,i,c,hc=>by
  subst h1;cases i with
  |zero=>simp at hc;subst hc;exact⟨av,by simp,h2⟩
  |succ i=>
   obtain⟨av',g1,g2⟩:=h3.at i c (by simpa using hc);refine⟨av',?_,g2⟩;rw[show (i+1)*3=i*3+3 by omega];simpa using g1
def wY{d:Nat}{tag:Nat->Nat}{h:Hp}{l:List Call}{v:AV}(H:vd tag 3 3 l.length (fun cs=>dD tag h l cs) v h):cl (vM (d+1) h) v=calls l:=by
 rcases H with⟨h0,rfl⟩|⟨q,cs,rfl,_,_,h4,h5,h6⟩
 ·have:l=[]:=Kq h0;subst this;rfl
 ·show vM (d+1) h q 0 l.length 3 true=_;rw[mL h4 h5 (by decide)];unfold calls;congr 1;refine jt fun i c hc=>?_;obtain⟨av,g1,g2⟩:=h6.at i c hc;rw[g1,kC];show AV.agg [.str c.module,.str c.func,cl (vM d h) av]=_;rw[Em g2];rfl
def qp{l:List Deed}{i:Nat}{d:Deed}(h:l[i]? = some d):((cE l).drop (i*3)).take 3=[.int .i64 d.effect,.int .i64 d.arg,.int .i64 d.answer]:=by
 induction l generalizing i with
 |nil=>simp at h
 | cons x l ih=>
  cases i with
  |zero=>simp at h;subst h;simp[cE]
  |succ i=>
   have:=ih (i:=i) (by simpa using h)
   rw[show (i+1)*3=i*3+3 by omega];simpa [cE]using this
def wZ{d:Nat}{tag:Nat->Nat}{h:Hp}{l:List Deed}{v:AV}(H:vd tag 2 3 l.length (fun cs=>cs=cE l) v h):cl (vM (d+1) h) v=deeds l:=by
 rcases H with⟨h0,rfl⟩|⟨q,cs,rfl,_,_,h4,h5,rfl⟩
 ·have:l=[]:=Kq h0;subst this;rfl
 ·show vM (d+1) h q 0 l.length 3 true=_;rw[mL h4 h5 (by decide)];unfold deeds;congr 1;refine jt fun i c hc=>?_;rw[qp hc,kC];rfl
theorem bR.at2{tag:Nat->Nat}{h:Hp}:{i:Nat} ->{nm:List bA} ->{st:List (List Val)} ->{cs:List AV} ->bR tag h i nm st cs->∀(j:Nat)(x:Vars),(List.zipWith Vars.mk nm st)[j]? = some x->
  ∃av,(cs.drop (j*2)).take 2=[.str x.module,av]/\((x.values=[]/\av= .sl [])\/∃r,av= .hs r 0 x.values.length 4 true/\h[r]? = some (aX x.values))
 |_,[],[],_,_,j,x,hx=>by simp at hx
 | i,n:: ns,l:: st,_,⟨av,rest,h1,h2,h3⟩,j,x,hx=>by
  subst h1;cases j with
  |zero=>
   simp at hx;subst hx;refine⟨av,by simp,?_⟩;rcases h2 with h2|⟨r,g1,_,g3⟩
   ·exact .inl h2
   ·exact .inr ⟨r,g1,g3⟩
  |succ j=>
   obtain⟨av',g1,g2⟩:=h3.at2 j x (by simpa using hx);refine⟨av',?_,g2⟩;rw[show (j+1)*2=j*2+2 by omega];simpa using g1
 |_,[],_:: _,_,H,_,_,_=>H.elim
 |_,_:: _,[],_,H,_,_,_=>H.elim
def un{d:Nat}{tag:Nat->Nat}{h:Hp}{nm:List bA}{c0:List AV}{st:List (List Val)}{v:AV}(H:vd tag 5 2 st.length (fun cs=>cs=c0/\bR tag h 0 nm st cs) v h):cl (vM (d+1) h) v=bJ (List.zipWith Vars.mk nm st):=by
 rcases H with⟨h0,rfl⟩|⟨q,cs,rfl,_,_,h4,h5,_,h6⟩
 ·have:st=[]:=Kq h0;subst this;cases nm<;>rfl
 ·have hl:(List.zipWith Vars.mk nm st).length=st.length:=by simp[h6.len]
  show vM (d+1) h q 0 st.length 2 true=_;rw[mL h4 h5 (by decide),<- hl];unfold bJ;congr 1;refine jt fun i c hc=>?_;obtain⟨av,g1,g2⟩:=h6.at2 i c hc;rw[g1,kC];have:cl (vM d h) av=vals c.values:=by
   rcases g2 with⟨e1,rfl⟩|⟨r,rfl,g3⟩
   ·rw[e1];rfl
   ·exact sk g3
  show AV.agg [.str c.module,cl (vM d h) av]=_;rw[this];rfl
def dZ{v:AV}(h:aI v=true):bv 1 v=true/\aa v=[v]/\bT v=some 1:=by
 cases v with
 |any=>cases h
 |agg _=>cases h
 |tup _=>cases h
 |nilb _=>cases h
 |byt _ _=>cases h
 |it _=>cases h
 |_=>exact⟨rfl,rfl,rfl⟩
def mu(m:Ms):Int:=m.deeds.length+m.calls.length+m.fuel
def TQ(k:Int){α:Type}(x:X α):Prop:=∀m a s,0<=m.fuel->x m= .ok a s->mu s<=mu m+k/\s.fuel<=m.fuel/\0<=s.fuel/\s.frames=m.frames
def wv{k:Int}{α:Type}{a:α}(hk:0<=k):TQ k (.ok a):=fun m b s h0 h=>by cases h;exact⟨by omega,LX _,h0,rfl⟩
def zT{k:Int}{α:Type}{e:Int}:TQ k (α:=α) (.er e):=fun m b s _ h=>by cases h
def BO{j k:Int}{α β:Type}{x:X α}{f:α->X β}(hx:TQ j x)(hf:∀a,TQ k (f a)):TQ (j+k) (x.bind f):=by
 intro m b s h0 h;unfold X.bind at h;cases hr:x m with
 |er e t=>rw[hr]at h;cases h
 |ok a t=>
  rw[hr]at h;obtain⟨h1,h2,h3,h4⟩:=hx m a t h0 hr;obtain⟨g1,g2,g3,g4⟩:=hf a t b s h3 h;exact⟨by omega,by omega,g3,g4.trans h4⟩
def cH{k:Int}{α β:Type}{x:X α}{f:α->X β}(hx:TQ 0 x)(hf:∀a,TQ k (f a)):TQ k (x.bind f):=by
 have:=BO hx hf
 rwa [Int.zero_add]at this
def wu{j k:Int}{α:Type}{x:X α}(h:TQ j x)(hk:j<=k):TQ k x:=fun m a s h0 e=>by
 obtain⟨h1,h2⟩:=h m a s h0 e;exact⟨by omega,h2⟩
def bN{k:Int}{α:Type}{c:Prop}[Decidable c]{x y:X α}(h1:TQ k x)(h2:TQ k y):TQ k (if c then x else y):=by
 split
 ·exact h1
 ·exact h2
def gx{r:X Val}(h:TQ 0 r):TQ 0 (boolX r):=cH h fun _=>bN (wv (LX _)) zT
theorem jx{r:Exp->X Val}(h:∀e,TQ 0 (r e)):∀l,TQ 0 (listX r l)
 |[]=>wv (LX _)
 |e:: l=>cH (h e) fun _=>cH (jx h l) fun _=>wv (LX _)
def gM(p:List Mod)(r:Ev)(a:Int)(f:Fun)(l:List Val)(m:Ms):ct p r a f l m=if m.frames<60 then((r a (f.params.map (·.1)) l f.body).bind fun v=>.upd (fun m=>{ m with frames:=m.frames-1 }) (.ok v)) (gk p a f l m)else .er 6 m:=by
 unfold ct X.get;by_cases h:m.frames<60
 ·simp only[h,Kt];rfl
 ·simp only[h,Ks];rfl
def oI{p:List Mod}{r:Ev}{a:Int}{f:Fun}{l:List Val}(hr:∀o ns vs e,TQ 0 (r o ns vs e)):TQ 1 (ct p r a f l):=by
 intro m v s h0 h;rw[gM]at h;split at h
 ·unfold X.bind at h;cases hr':r a (f.params.map (·.1)) l f.body (gk p a f l m)with
  |er e t=>rw[hr']at h;cases h
  | ok b t=>
   rw[hr']at h;cases h;obtain⟨h1,h2,h3,h4⟩:=hr _ _ _ _ (gk p a f l m) v t h0 hr';have hm:mu (gk p a f l m)<=mu m+1:=by
    simp only[mu,gk];split
    ·simp;omega
    ·omega
   have h4':t.frames=m.frames+1:=h4;have h2':t.fuel<=m.fuel:=h2;simp only[mu]at h1 hm |-;exact⟨by omega,h2',h3,by omega⟩
 ·cases h
def BP{p:List Mod}{r:Ev}(hr:∀o ns vs e,TQ 0 (r o ns vs e))(o:Int)(ns:List bA)(vs:List Val)(e:Exp):TQ 0 (jh p r o ns vs e):=by
 have tick:∀y:X Val,TQ 1 y->TQ 0 (jI y):=fun y hy m a s h0 h=>by
  unfold jI X.get at h;by_cases hf:m.fuel<=0
  ·simp only[hf,Kt]at h;cases h
  ·simp only[hf,Ks]at h;obtain⟨h1,h2,h3,h4⟩:=hy { m with fuel:=m.fuel-1 } a s (by simp only;omega) h;simp only[mu]at h1 h2 |-;exact⟨by omega,by omega,h3,h4⟩
 have H:=fun e=>hr o ns vs e;have ok1:∀(α:Type)(a:α),TQ 1 (.ok a):=fun _ _=>wv (by omega);have er1:∀(α:Type) e,TQ 1 (α:=α) (.er e):=fun _ _=>zT;have H1:=fun e=>wu (H e) (show (0:Int)<=1 by omega);refine tick _ ?_;refine bN (er1 _ _) (bN (ok1 _ _) (bN (bN (ok1 _ _) (er1 _ _)) (bN ?_ (bN ?_ (bN ?_ (bN ?_ (bN ?_ (bN ?_ (bN ?_ (bN ?_ (bN ?_ (bN ?_ ?_))))))))))))
 ·split
  ·exact ok1 _ _
  ·exact er1 _ _
 ·refine cH (H _) fun a=>cH (H _) fun b=>?_;unfold iN;exact bN (bN (ok1 _ _) (er1 _ _)) (bN (bN (ok1 _ _) (bN (ok1 _ _) (bN (ok1 _ _) (ok1 _ _)))) (er1 _ _))
 ·exact cH (gx (H _)) fun a=>bN (ok1 _ _) (cH (gx (H _)) fun b=>ok1 _ _)
 ·exact cH (gx (H _)) fun a=>ok1 _ _
 ·exact cH (gx (H _)) fun a=>bN (H1 _) (H1 _)
 ·exact cH (H _) fun v=>wu (hr _ _ _ _) (by omega)
 ·unfold fK;exact bN (bN (cH (jx H _) fun vs=>bN (ok1 _ _) (er1 _ _)) (er1 _ _)) (er1 _ _)
 ·refine cH (H _) fun v=>?_;split
  ·exact bN (ok1 _ _) (er1 _ _)
  ·exact er1 _ _
 ·unfold kh;simp only;split
  ·exact er1 _ _
  ·exact bN (bN (cH (jx H _) fun l=>oI hr) (er1 _ _)) (er1 _ _)
 ·unfold qf;refine cH (H _) fun v=>bN (bN (fun m a s h0 h=>?_) (er1 _ _)) (er1 _ _);cases h;simp only[mu];exact⟨by simp;omega,LX _,h0,trivial⟩
 ·unfold rc;refine bN (er1 _ _) ?_;simp only;refine bN (er1 _ _) (bN (cH (H _) fun v m a s h0 h=>?_) fun m a s h0 h=>?_)
  ·cases h;exact⟨by simp only[mu];omega,LX _,h0,rfl⟩
  ·cases h;exact⟨by omega,LX _,h0,rfl⟩
theorem iA{p:List Mod}:∀(n:Nat)(o:Int)(ns:List bA)(vs:List Val)(e:Exp),TQ 0 (bh p n o ns vs e)
 |0,_,_,_,_=>zT
 |n+1,o,ns,vs,e=>BP (fun o ns vs e=>iA n o ns vs e) o ns vs e
structure GoodM (p:List Mod) (m:Ms):Prop where
 right:qa m
 bud:mu m<=1000000
 fr:0<=m.frames/\m.frames<=60
 fuel:0<=m.fuel
 shape:∀(i:Nat)(x:Mod),p[i]? = some x->∃l,m.state[i]? = some l/\l.length=x.vars.length
def GoodM.eval{p:List Mod}{n:Nat}{o:Int}{ns:List bA}{vs:List Val}{e:Exp}{m s:Ms}{v:Val}(G:GoodM p m)(hs:iI ns vs)(h:bh p n o ns vs e m= .ok v s):GoodM p s/\Rv v/\s.fuel<=m.fuel:=by
 obtain⟨h1,h2,h3,h4⟩:=iA n o ns vs e m v s G.fuel h;obtain⟨g1,g2,g3⟩:=iy (p:=p) n o ns vs e hs m G.right;rw[h]at g1 g2;refine⟨⟨g1,by have:=G.bud;omega,by rw[h4];exact G.fr,h3,fun i x hx=>?_⟩,g3 v s h,h2⟩;obtain⟨l,k1,k2⟩:=G.shape i x hx;have:(gg s)[i]? = (gg m)[i]?:=by rw[show gg s=gg m from g2]
 simp only[gg,KX,k1,K3]at this;cases hi:s.state[i]? with
 |none=>rw[hi]at this;cases this
 |some l'=>
  rw[hi]at this;simp only[K3,Kg]at this;exact⟨l',rfl,by omega⟩
def GoodM.bool{p:List Mod}{n:Nat}{o:Int}{ns:List bA}{vs:List Val}{e:Exp}{m s:Ms}{b:Bool}(G:GoodM p m)(hs:iI ns vs)(h:boolX (bh p n o ns vs e) m= .ok b s):GoodM p s/\s.fuel<=m.fuel:=by
 unfold boolX X.bind at h;cases hr:bh p n o ns vs e m with
 |er c t=>rw[hr]at h;cases h
 | ok v t=>
  rw[hr]at h;simp only at h;split at h
  ·cases h;exact⟨(G.eval hs hr).1,(G.eval hs hr).2.2⟩
  ·cases h
def uL{v:Val}(h:Rv v):v.names.length<=8:=by
 unfold Rv bn at h;split at h
 ·simp only[Kj,Lj]at h;omega
 ·simp only[Kj,KQ]at h;exact h.1.1.2
theorem vI:∀(d:Nat)(v:Val),bn d v=true->v.sz<=17*9 ^ d
 |0,v,h=>by simp[bn]at h
 | d + 1,v,h=>by
  have hp:1<=9 ^ d:=Nat.one_le_pow _ _ (by decide);obtain⟨k,n,ns,vs⟩:=v;unfold bn at h;simp only[Val.sz];split at h
  ·simp only[Kj,Lj,J4,J2]at h;have h1:=h.1.1;have h2:vs=[]:=Kq h.1.2;subst h2;simp only[aY];rw[Nat.pow_succ];omega
  ·simp only[Kj,Lj,KA,J4,J2]at h;have h8:=Mi h.1.1.2;have hl:=h.1.1.1.2;have hv:=h.2;have key:∀l:List Val,(∀v∈l,bn d v=true)->aY l<=l.length*(17*9 ^ d):=by
    intro l
    induction l with
    |nil=>intro _;simp[aY]
    |cons v l ih=>
     intro h;have h1:=vI d v (h v Lv);have h2:=ih fun w hw=>h w (Lq _ hw);simp only[aY,K4];rw[KU];omega
   have h3:=key vs hv;have h4:vs.length*(17*9 ^ d)<=8*(17*9 ^ d):=Kw _ (by omega);rw[Nat.pow_succ];omega
def ot{v:Val}(h:Rv v):v.sz<=200000:=Lg (vI 4 v h) (by decide)
def zX(p:List Mod):Bool:=(List.range p.length).any fun i=>(p.take i).any fun m=>m.name== (p[i]?.getD default).name
def dt(p:List Mod):Int:=if 20<p.length then 6 else if zX p=true then 5 else 0
def aW(world:List Int)(fuel:Int)(st:List (List Val)):Ms:=⟨fuel,0,world,[],[],st⟩
def qw(e:Exp)(ns:List bA)(vs:List Val):Rs Val:=
 if ns.length=vs.length/\vs.all (bn 4)=true then bh [] 100000 (-1) ns vs e (aW [] 100000 [])else .er 1 (aW [] 100000 [])
def iW:List Exp->Except Int (List Val)
 |[]=>.ok []
 | e:: es=>match qw e [] []with
  |.er c _=>.error c
  |.ok v _=>match iW es with
   |.error c=>.error c
   |.ok vs=>.ok (v:: vs)
def eI:List Mod->Except Int (List Vars)
 |[]=>.ok []
 | m:: ms=>if m.init.length=m.vars.length then(match iW m.init with
   |.error c=>.error c
   |.ok vs=>match eI ms with
    |.error c=>.error c
    |.ok r=>.ok (⟨m.name,vs⟩:: r))
  else .error 13
def fY(p:List Mod):Except Int (List Vars):=if dt p=0 then eI p else .error (dt p)
def cY(p:List Mod)(st:List Vars):Bool:=c8 (fun(m:Mod) (v:Vars)=>v.module== m.name&&(v.values.length== m.vars.length&&v.values.all (bn 4))) p st
def nk(e:Int):Out:=⟨e,default,[],[],[]⟩
def od(ns:List bA):Rs Val->Out
 |.ok v m=>⟨0,v,m.deeds,m.calls,List.zipWith Vars.mk ns m.state⟩
 |.er e m=>⟨e,default,m.deeds,m.calls,List.zipWith Vars.mk ns m.state⟩
def fZ(p:List Mod)(st:List Vars)(module fn:bA)(args:List Val)(world:List Int)(fuel:Int):Out:=
 if dt p≠0 then nk (dt p)
 else if fuel<0\/100000<fuel\/cY p st=false then nk 1
 else match jH p (fA p module) fn with
  |none=>nk 4
  | some f=>if args.length=f.params.length/\args.all (bn 4)=true then
    od (st.map (·.module)) (ct p (bh p 100000) (fA p module) f args (aW world fuel (st.map (·.values))))
   else nk 13
def eM(p:List Mod)(module fn:bA)(args:List Val)(world:List Int)(fuel:Int):Out:=
 match fY p with
 |.error e=>nk e
 |.ok st=>fZ p st module fn args world fuel
theorem pb{α β:Type}{F:α->β->Bool}:{a:List α} ->{b:List β} ->c8 F a b=true->a.length=b.length/\∀(i:Nat)(x:α)(y:β),a[i]? = some x->b[i]? = some y->F x y=true
 |[],[],_=>⟨rfl,fun i x y h=>by simp at h⟩
 |[],_:: _,h=>by simp[c8]at h
 |_:: _,[],h=>by simp[c8]at h
 |x:: a,y:: b,h=>by
  simp only[c8,Kj]at h;obtain⟨h1,h2⟩:=pb h.2;refine⟨by simp[h1],fun i u v hu hv=>?_⟩;cases i with
  |zero=>simp at hu hv;subst hu hv;exact h.1
  |succ i=>exact h2 i u v (by simpa using hu) (by simpa using hv)
def xq(p:List Mod):dt p≠16:=by
 unfold dt;split
 ·decide
 ·split<;>decide
def nC(p:List Mod)(st:List Vars)(module fn:bA)(args:List Val):
  (∃e,(e≠16/\e≠0)/\∀(world:List Int)(fuel:Int),0<=fuel->fuel<=100000->fZ p st module fn args world fuel=nk e)\/
  (∃(a:Int)(f:Fun),f∈(p[a.toNat]?.getD default).funcs/\¬a<0/\a.toNat<p.length/\args.length=f.params.length/\(∀v∈args,Rv v)/\cY p st=true/\
   ∀(world:List Int)(fuel:Int),0<=fuel->fuel<=100000->fZ p st module fn args world fuel=od (st.map (·.module)) (ct p (bh p 100000) a f args (aW world fuel (st.map (·.values))))):=by
 by_cases hn:dt p=0
 ·by_cases hb:cY p st=true
  ·cases hf:jH p (fA p module) fn with
   |none=>
    left;refine⟨4,⟨by decide,by decide⟩,fun w fu g0 g1=>?_⟩;unfold fZ;rw[if_neg (by simp[hn]),if_neg (by simp[hb];omega),hf]
   | some f=>
    obtain⟨f1,f2,f3⟩:=ga hf;by_cases ha:args.length=f.params.length/\args.all (bn 4)=true
    ·right;refine⟨fA p module,f,f3,f1,f2,ha.1,fun v hv=>(KA.1 ha.2) v hv,hb,fun w fu g0 g1=>?_⟩;unfold fZ;rw[if_neg (by simp[hn]),if_neg (by simp[hb];omega),hf];simp only;rw[Kn ha]
    ·left;refine⟨13,⟨by decide,by decide⟩,fun w fu g0 g1=>?_⟩;unfold fZ;rw[if_neg (by simp[hn]),if_neg (by simp[hb];omega),hf];simp only;rw[if_neg ha]
  ·left;refine⟨1,⟨by decide,by decide⟩,fun w fu g0 g1=>?_⟩;unfold fZ;rw[if_neg (by simp[hn]),Kn (by simp[hb])]
 ·left;refine⟨dt p,⟨xq p,hn⟩,fun w fu _ _=>?_⟩;unfold fZ;rw[Kn hn]
def lY{p:List Mod}{a:Int}{f:Fun}{l:List Val}{n:Nat}(hl:l.length=f.params.length)(hv:∀v∈l,Rv v):RQ (ct p (bh p n) a f l) Rv:=s6 (fun o ns vs e h=>iy n o ns vs e h) hl hv
def sS(ns:List bA)(r:Rs Val):(od ns r).deeds=r.st.deeds:=by cases r<;>rfl
def i9(ns:List bA)(r:Rs Val):(od ns r).calls=r.st.calls:=by cases r<;>rfl
def jb(ns:List bA)(r:Rs Val):(od ns r).state=List.zipWith Vars.mk ns r.st.state:=by cases r<;>rfl
def qb(o:Out):Prop:=Rv o.value/\(∀c∈o.calls,∀v∈c.args,Rv v)/\∀x∈o.state,∀v∈x.values,Rv v
def ix(e:Int):qb (nk e):=⟨ef 0,fun c hc=>by simp[nk]at hc,fun c hc=>by simp[nk]at hc⟩
def eU{p:List Mod}{st:List Vars}(h:cY p st=true):st.length=p.length/\(∀x∈st,∀v∈x.values,Rv v)/\∀(i:Nat)(m:Mod)(x:Vars),p[i]? = some m->st[i]? = some x->x.module=m.name/\x.values.length=m.vars.length:=by
 obtain⟨h1,h2⟩:=pb h;refine⟨h1.symm,fun x hx v hv=>?_,fun i m x hm hx=>?_⟩
 ·obtain⟨i,hi⟩:=Mo.1 hx;have hlt:i<st.length:=(Kz.1 hi).1
  have:=h2 i (p[i]'(by omega)) x (Kl _) hi
  simp only[Kj,KA]at this;exact this.2.2 v hv
 ·have:=h2 i m x hm hx
  simp only[Kj,Lj]at this;exact⟨this.1,this.2.1⟩
def jL{ns:List bA}{st:List (List Val)}{x:Vars}(h:x∈List.zipWith Vars.mk ns st):x.values∈st:=by
 obtain⟨i,hi⟩:=Mo.1 h;rw[List.getElem?_zipWith]at hi;cases h1:ns[i]? with
 |none=>rw[h1]at hi;cases hi
 | some a=>cases h2:st[i]? with
  |none=>rw[h1,h2]at hi;cases hi
  |some b=>
   rw[h1,h2]at hi;cases hi;exact K8 h2
def um(p:List Mod)(st:List Vars)(module fn:bA)(args:List Val)(world:List Int)(fuel:Int):qb (fZ p st module fn args world fuel):=by
 by_cases h0:0<=fuel/\fuel<=100000
 ·rcases nC p st module fn args with⟨e,he,h⟩|⟨a,f,hf,ha,hl,hargs,hv,hb,h⟩
  ·rw[h world fuel h0.1 h0.2];exact ix e
  ·rw[h world fuel h0.1 h0.2];obtain⟨_,b2,_⟩:=eU hb;obtain⟨q1,_,q3⟩:=lY (p:=p) (a:=a) (n:=100000) hargs hv (aW world fuel (st.map (·.values))) ⟨fun l hl v hv=>by
    simp only[aW,Ly]at hl;obtain⟨x,hx,rfl⟩:=hl;exact b2 x hx v hv,fun c hc=>by simp[aW]at hc⟩
   refine⟨?_,by rw[i9];exact q1.2,fun x hx v hv=>?_⟩
   ·cases hr:ct p (bh p 100000) a f args (aW world fuel (st.map (·.values)))with
    |ok v s=>exact q3 v s hr
    |er e s=>exact ef 0
   ·rw[jb]at hx;exact q1.1 _ (jL hx) v hv
 ·unfold fZ;split
  ·exact ix _
  ·rw[Kn (by omega)];exact ix _
def xE(p:List Mod)(module fn:bA)(args:List Val)(world:List Int)(fuel:Int):qb (eM p module fn args world fuel):=by
 unfold eM;split
 ·exact ix _
 ·exact um _ _ _ _ _ _ _
theorem iX:(l:List Exp)->(vs:List Val)->iW l= .ok vs->vs.length=l.length/\∀v∈vs,Rv v
 |[],vs,h=>by cases h;exact⟨rfl,fun v hv=>by cases hv⟩
 | e :: es,vs,h=>by
  unfold iW at h;split at h
  ·cases h
  ·rename_i v s hv;split at h
   ·cases h
   ·rename_i ws hws;cases h;obtain⟨h1,h2⟩:=iX es ws hws;refine⟨by simp[h1],fun w hw=>?_⟩;rcases KI.1 hw with rfl|hw
    ·unfold qw at hv;rw[Kn (by simp)]at hv;exact (iy 100000 (-1) [] [] e ⟨rfl,fun v hv=>by cases hv⟩ (aW [] 100000 []) ⟨fun l hl=>by simp[aW]at hl,fun l hl=>by simp[aW]at hl⟩).2.2 _ _ hv
    ·exact h2 w hw
theorem iT:(p:List Mod)->(st:List Vars)->eI p= .ok st->cY p st=true
 |[],st,h=>by cases h;rfl
 | m :: ms,st,h=>by
  unfold eI at h;split at h
  ·rename_i hl;split at h
   ·cases h
   ·rename_i vs hvs;split at h
    ·cases h
    ·rename_i r hr;cases h;obtain⟨h1,h2⟩:=iX _ _ hvs
     have:=iT ms r hr
     unfold cY at this |-;simp only[c8,this,Ml,Kj,Lj,KA];exact⟨trivial,by omega,h2⟩
  ·cases h
def nB{p:List Mod}{st:List Vars}(h:fY p= .ok st):cY p st=true:=by
 unfold fY at h;split at h
 ·exact iT p st h
 ·cases h
theorem pz:(l:List Exp)->(c:Int)->iW l= .error c->c≠0
 |[],c,h=>by cases h
 | e:: es,c,h=>by
  unfold iW at h;split at h
  ·rename_i c' s hc;cases h;unfold qw at hc;split at hc
   ·exact rW hc
   ·cases hc;decide
  ·split at h
   ·rename_i c' hc;cases h;exact pz es _ hc
   ·cases h
theorem nA:(p:List Mod)->(c:Int)->eI p= .error c->c≠0
 |[],c,h=>by cases h
 | m :: ms,c,h=>by
  unfold eI at h;split at h
  ·split at h
   ·rename_i c' hc;cases h;exact pz _ _ hc
   ·split at h
    ·rename_i c' hc;cases h;exact nA ms _ hc
    ·cases h
  ·cases h;decide
def ul{p:List Mod}{c:Int}(h:fY p= .error c):c≠0:=by
 unfold fY at h;split at h
 ·exact nA p c h
 ·cases h;assumption
def TE(k:Int){α:Type}(x:X α):Prop:=∀m e s,0<=m.fuel->x m= .er e s->mu s<=mu m+k/\0<=s.fuel
def wq{k:Int}{α:Type}{a:α}:TE k (.ok a):=fun m e s _ h=>by cases h
def zS{k:Int}{α:Type}{e:Int}(hk:0<=k):TE k (α:=α) (.er e):=fun m b s h0 h=>by cases h;exact⟨by omega,h0⟩
def wo{j k:Int}{α:Type}{x:X α}(h:TE j x)(hk:j<=k):TE k x:=fun m a s h0 e=>by
 have:=h m a s h0 e
 exact⟨by omega,this.2⟩
def dm{k:Int}{α β:Type}{x:X α}{f:α->X β}(hx:TE k x)(tx:TQ 0 x)(hf:∀a,TE k (f a)):TE k (x.bind f):=by
 intro m b s h0 h;unfold X.bind at h;cases hr:x m with
 |er e t=>rw[hr]at h;cases h;exact hx m _ _ h0 hr
 |ok a t=>
  rw[hr]at h;obtain⟨h1,h2,h3,h4⟩:=tx m a t h0 hr
  have:=hf a t b s h3 h
  exact⟨by omega,this.2⟩
def bM{k:Int}{α:Type}{c:Prop}[Decidable c]{x y:X α}(h1:TE k x)(h2:TE k y):TE k (if c then x else y):=by
 split
 ·exact h1
 ·exact h2
def BM{k:Int}(hk:0<=k){r:X Val}(h:TE k r)(t:TQ 0 r):TE k (boolX r):=dm h t fun _=>bM wq (zS hk)
theorem q5{k:Int}{r:Exp->X Val}(h:∀e,TE k (r e))(t:∀e,TQ 0 (r e)):∀l,TE k (listX r l)
 |[]=>wq
 |e:: l=>dm (h e) (t e) fun _=>dm (q5 h t l) (jx t l) fun _=>wq
def oG{p:List Mod}{r:Ev}{a:Int}{f:Fun}{l:List Val}(hr:∀o ns vs e,TE 0 (r o ns vs e)):TE 1 (ct p r a f l):=by
 intro m v s h0 h;rw[gM]at h;have hm:mu (gk p a f l m)<=mu m+1:=by
  simp only[mu,gk];split
  ·simp;omega
  ·omega
 split at h
 ·unfold X.bind at h;cases hr':r a (f.params.map (·.1)) l f.body (gk p a f l m)with
  |er e t=>
   rw[hr']at h;cases h
   have:=hr _ _ _ _ (gk p a f l m) _ _ h0 hr'
   exact⟨by omega,this.2⟩
  |ok b t=>
   rw[hr']at h;cases h
 ·cases h;exact⟨by omega,h0⟩
def BN{p:List Mod}{r:Ev}(hr:∀o ns vs e,TE 0 (r o ns vs e))(tr:∀o ns vs e,TQ 0 (r o ns vs e))(o:Int)(ns:List bA)(vs:List Val)(e:Exp):TE 0 (jh p r o ns vs e):=by
 have tick:∀y:X Val,TE 1 y->TE 0 (jI y):=fun y hy m a s h0 h=>by
  unfold jI X.get at h;by_cases hf:m.fuel<=0
  ·simp only[hf,Kt]at h;cases h;exact⟨by omega,h0⟩
  ·simp only[hf,Ks]at h;have h1:=hy { m with fuel:=m.fuel-1 } a s (by simp only;omega) h;simp only[mu]at h1 |-;exact⟨by omega,h1.2⟩
 have H:=fun e=>wo (hr o ns vs e) (show (0:Int)<=1 by omega);have T:=fun e=>tr o ns vs e;have ok1:∀(α:Type)(a:α),TE 1 (.ok a):=fun _ _=>wq;have er1:∀(α:Type) e,TE 1 (α:=α) (.er e):=fun _ _=>zS (by omega);have B:=fun e=>BM (by omega) (H e) (T e);refine tick _ ?_;refine bM (er1 _ _) (bM (ok1 _ _) (bM (bM (ok1 _ _) (er1 _ _)) (bM ?_ (bM ?_ (bM ?_ (bM ?_ (bM ?_ (bM ?_ (bM ?_ (bM ?_ (bM ?_ (bM ?_ ?_))))))))))))
 ·split
  ·exact ok1 _ _
  ·exact er1 _ _
 ·refine dm (H _) (T _) fun a=>dm (H _) (T _) fun b=>?_;unfold iN;exact bM (bM (ok1 _ _) (er1 _ _)) (bM (bM (ok1 _ _) (bM (ok1 _ _) (bM (ok1 _ _) (ok1 _ _)))) (er1 _ _))
 ·exact dm (B _) (gx (T _)) fun a=>bM (ok1 _ _) (dm (B _) (gx (T _)) fun b=>ok1 _ _)
 ·exact dm (B _) (gx (T _)) fun a=>ok1 _ _
 ·exact dm (B _) (gx (T _)) fun a=>bM (H _) (H _)
 ·exact dm (H _) (T _) fun v=>wo (hr _ _ _ _) (by omega)
 ·unfold fK;exact bM (bM (dm (q5 H T _) (jx T _) fun vs=>bM (ok1 _ _) (er1 _ _)) (er1 _ _)) (er1 _ _)
 ·refine dm (H _) (T _) fun v=>?_;split
  ·exact bM (ok1 _ _) (er1 _ _)
  ·exact er1 _ _
 ·unfold kh;simp only;split
  ·exact er1 _ _
  ·exact bM (bM (dm (q5 H T _) (jx T _) fun l=>oG hr) (er1 _ _)) (er1 _ _)
 ·unfold qf;refine dm (H _) (T _) fun v=>bM (bM (fun m a s h0 h=>?_) (er1 _ _)) (er1 _ _);cases h
 ·unfold rc;refine bM (er1 _ _) ?_;simp only;refine bM (er1 _ _) (bM (dm (H _) (T _) fun v m a s h0 h=>?_) fun m a s h0 h=>?_)
  ·cases h
  ·cases h
theorem qZ{p:List Mod}:∀(n:Nat)(o:Int)(ns:List bA)(vs:List Val)(e:Exp),TE 0 (bh p n o ns vs e)
 |0,_,_,_,_=>zS (by omega)
 |n+1,o,ns,vs,e=>BN (fun o ns vs e=>qZ n o ns vs e) (fun o ns vs e=>iA n o ns vs e) o ns vs e
end Go.Av.Ap
namespace Go.Av.Ap
def tz(B:Nat)(m:Ms):Prop:=∀c∈m.calls,c.args.length<=B
def CQ(B:Nat){α:Type}(x:X α)(Q:α->Prop):Prop:=∀m,tz B m->tz B (x m).st/\∀a s,x m= .ok a s->Q a
variable {B:Nat}
theorem vB{α:Type}{a:α}{Q:α->Prop}(h:Q a):CQ B (.ok a) Q:=fun m hm=>⟨hm,fun b s e=>by cases e;exact h⟩
theorem eo{α:Type}{e:Int}{Q:α->Prop}:CQ B (.er e) Q:=fun m hm=>⟨hm,fun b s e=>by cases e⟩
theorem c5{α β:Type}{x:X α}{f:α->X β}{Q:α->Prop}{R:β->Prop}(hx:CQ B x Q)(hf:∀a,Q a->CQ B (f a) R):CQ B (x.bind f) R:=by
 intro m hm;obtain⟨h1,h3⟩:=hx m hm;cases hr:x m with
 |er e s=>
  rw[hr]at h1;simp only[X.bind,hr];exact⟨h1,fun b s e=>by cases e⟩
 |ok a s=>
  rw[hr]at h1;obtain⟨g1,g3⟩:=hf a (h3 a s hr) s h1;simp only[X.bind,hr];exact⟨g1,g3⟩
theorem bK{α:Type}{c:Prop}[Decidable c]{x y:X α}{Q:α->Prop}(h1:c->CQ B x Q)(h2:¬c->CQ B y Q):CQ B (if c then x else y) Q:=by
 split
 ·exact h1 ‹_›
 ·exact h2 ‹_›
abbrev xM{α:Type}:α->Prop:=fun _=>True
theorem mJ{r:X Val}(h:CQ B r xM):CQ B (boolX r) xM:=c5 h fun _ _=>bK (fun _=>vB trivial) (fun _=>eo)
theorem qn{r:Exp->X Val}(h:∀e,CQ B (r e) xM):∀l,CQ B (listX r l) fun vs=>vs.length=l.length
 |[]=>vB rfl
 |e:: l=>c5 (h e) fun v _=>c5 (qn h l) fun vs hvs=>vB (by simp[hvs])
theorem rN{p:List Mod}{r:Ev}{a:Int}{f:Fun}{l:List Val}(hr:∀o ns vs e,CQ B (r o ns vs e) xM)(hl:l.length<=B):CQ B (ct p r a f l) xM:=by
 intro m hm;rw[gM];split
 ·have hb:CQ B ((r a (f.params.map (·.1)) l f.body).bind fun v=>.upd (fun m=>{ m with frames:=m.frames-1 }) (.ok v)) xM:=
   c5 (hr _ _ _ _) fun _ _ m hm=>⟨hm,fun a s e=>trivial⟩
  have hm':tz B (gk p a f l m):=by
   intro c hc;simp only[gk]at hc;split at hc
   ·rcases KG.1 hc with h|h
    ·exact hm c h
    ·simp only[Lh]at h;subst h;exact hl
   ·exact hm c hc
  exact hb _ hm'
 ·exact⟨hm,fun _ _ e=>by cases e⟩
theorem AY{p:List Mod}(hp:∀m∈p,∀f∈m.funcs,f.params.length<=B){r:Ev}(hr:∀o ns vs e,CQ B (r o ns vs e) xM)(o:Int)(ns:List bA)(vs:List Val)(e:Exp):CQ B (jh p r o ns vs e) xM:=by
 have tick:∀y:X Val,CQ B y xM->CQ B (jI y) xM:=fun y hy m hm=>by
  unfold jI X.get;by_cases h:m.fuel<=0
  ·simp only[h,Kt];exact⟨hm,fun _ _ e=>by cases e⟩
  ·simp only[h,Ks];exact hy { m with fuel:=m.fuel-1 } hm
 have H:=fun e=>hr o ns vs e;have ok1:∀(α:Type)(a:α),CQ B (.ok a) xM:=fun _ _=>vB trivial;refine tick _ ?_;refine bK (fun _=>eo) fun _=>bK (fun _=>ok1 _ _) fun _=>bK (fun _=>bK (fun _=>ok1 _ _) fun _=>eo) fun _=>bK (fun _=>?_) fun _=>
  bK (fun _=>?_) fun _=>bK (fun _=>?_) fun _=>bK (fun _=>?_) fun _=>bK (fun _=>?_) fun _=>bK (fun _=>?_) fun _=>bK (fun _=>?_) fun _=>bK (fun _=>?_) fun _=>
  bK (fun _=>?_) fun _=>bK (fun _=>?_) fun _=>?_
 ·split
  ·exact ok1 _ _
  ·exact eo
 ·refine c5 (H _) fun a ha=>c5 (H _) fun b hb=>?_;unfold iN;exact bK (fun _=>bK (fun _=>ok1 _ _) fun _=>eo) fun _=>bK (fun _=>bK (fun _=>ok1 _ _) fun _=>bK (fun _=>ok1 _ _) fun _=>bK (fun _=>ok1 _ _) fun _=>ok1 _ _) fun _=>eo
 ·exact c5 (mJ (H _)) fun a _=>bK (fun _=>ok1 _ _) fun _=>c5 (mJ (H _)) fun b _=>ok1 _ _
 ·exact c5 (mJ (H _)) fun a _=>ok1 _ _
 ·exact c5 (mJ (H _)) fun a _=>bK (fun _=>H _) fun _=>H _
 ·exact c5 (H _) fun v hv=>hr _ _ _ _
 ·unfold fK;exact bK (fun h1=>bK (fun h2=>c5 (qn H _) fun vs hvs=>bK (fun h3=>ok1 _ _) fun _=>eo) fun _=>eo) fun _=>eo
 ·refine c5 (H _) fun v hv=>?_;split
  ·exact bK (fun _=>ok1 _ _) fun _=>eo
  ·exact eo
 ·unfold kh;simp only;split
  ·exact eo
  ·rename_i f hf;obtain⟨h1,h2,h3⟩:=ga hf;refine bK (fun _=>bK (fun h4=>c5 (qn H _) fun l hl=>rN hr ?_) fun _=>eo) fun _=>eo;rw[Kl h2]at h3
   have:=hp _ (KB h2) f h3
   omega
 ·unfold qf;exact c5 (H _) fun v hv=>bK (fun _=>bK (fun _ m hm=>⟨hm,fun a s e=>trivial⟩) fun _=>eo) fun _=>eo
 ·unfold rc;refine bK (fun _=>eo) fun ho=>?_;simp only;exact bK (fun _=>eo) fun hi=>bK (fun _=>c5 (H _) fun v hv m hm=>⟨hm,fun a s e=>trivial⟩) fun _ m hm=>⟨hm,fun a s e=>trivial⟩
theorem vA{p:List Mod}(hp:∀m∈p,∀f∈m.funcs,f.params.length<=B):∀(n:Nat)(o:Int)(ns:List bA)(vs:List Val)(e:Exp),CQ B (bh p n o ns vs e) xM
 |0,_,_,_,_=>eo
 |n+1,o,ns,vs,e=>AY hp (fun o ns vs e=>vA hp n o ns vs e) o ns vs e
end Go.Av.Ap
namespace Go.Av.Ap
structure OutB (B n:Nat) (o:Out):Prop where
 deeds:o.deeds.length<=100002
 calls:o.calls.length<=100002
 args:∀c∈o.calls,c.args.length<=B
 state:o.state.length<=n
 vals:∀x∈o.state,x.values.length<=B
def jr(B n:Nat)(e:Int):OutB B n (nk e):=⟨LF _,LF _,fun c hc=>(by cases hc),LF _,fun c hc=>(by cases hc)⟩
def yX{B:Nat}(p:List Mod)(st:List Vars)(module fn:bA)(args:List Val)(world:List Int)(fuel:Int)(hp:∀m∈p,m.vars.length<=B/\∀f∈m.funcs,f.params.length<=B):OutB B p.length (fZ p st module fn args world fuel):=by
 by_cases h0:0<=fuel/\fuel<=100000
 ·rcases nC p st module fn args with⟨e,he,h⟩|⟨a,f,hf,ha,hl,hargs,hv,hb,h⟩
  ·rw[h world fuel h0.1 h0.2];exact jr _ _ e
  ·rw [h world fuel h0.1 h0.2];obtain⟨b1,b2,b3⟩:=eU hb;have hfp:f.params.length<=B:=by
    rw[Kl hl]at hf;exact (hp _ (KB hl)).2 f hf
   obtain⟨_,q2,_⟩:=lY (p:=p) (a:=a) (n:=100000) hargs hv (aW world fuel (st.map (·.values))) ⟨fun l hl v hv=>by
    simp only[aW,Ly]at hl;obtain⟨x,hx,rfl⟩:=hl;exact b2 x hx v hv,fun c hc=>by simp[aW]at hc⟩
   have hmu:mu (ct p (bh p 100000) a f args (aW world fuel (st.map (·.values)))).st<=fuel+1/\0<=fuel:=by
    refine⟨?_,h0.1⟩;have e0:mu (aW world fuel (st.map (·.values)))=fuel:=by simp[mu,aW]
    cases hr:ct p (bh p 100000) a f args (aW world fuel (st.map (·.values)))with
    |ok v s=>
     have:=(oI (fun o ns vs e=>iA 100000 o ns vs e) _ v s h0.1 hr).1
     rw[e0]at this;exact this
    |er e s=>
     have:=(oG (fun o ns vs e=>qZ 100000 o ns vs e) _ e s h0.1 hr).1
     rw[e0]at this;exact this
   have hfu:0<=(ct p (bh p 100000) a f args (aW world fuel (st.map (·.values)))).st.fuel:=by
    cases hr:ct p (bh p 100000) a f args (aW world fuel (st.map (·.values)))with
    |ok v s=>exact (oI (fun o ns vs e=>iA 100000 o ns vs e) _ v s h0.1 hr).2.2.1
    |er e s=>exact (oG (fun o ns vs e=>qZ 100000 o ns vs e) _ e s h0.1 hr).2
   have hc:=(rN (p:=p) (B:=B) (a:=a) (f:=f) (l:=args) (vA (p:=p) (fun m hm=>(hp m hm).2) 100000) (by omega) (aW world fuel (st.map (·.values))) (fun c hc=>by simp[aW]at hc)).1;generalize ct p (bh p 100000) a f args (aW world fuel (st.map (·.values)))=r at *;simp only[mu]at hmu;refine⟨by rw[sS];omega,by rw[i9];omega,by rw[i9];exact hc,?_,fun x hx=>?_⟩
   ·rw[jb,List.length_zipWith];simp;omega
   ·rw [jb]at hx
    have:=jL hx
    have hs:gg r.st=p.map (fun m=>m.vars.length):=by
     rw[q2];refine LO fun i=>?_;simp only[gg,aW,KX,Option.map_map];cases hi:st[i]? with
     | none=>
      have:p[i]? = none:=by
       rw[List.getElem?_eq_none_iff]at hi |-;omega
      rw[this];rfl
     |some x=>
      have hlt:=(Kz.1 hi).1;have hpi:p[i]? = some (p[i]'(by omega)):=Kl _;rw[hpi]
      have:=(b3 i _ x hpi hi).2
      simp[this]
    have h1:x.values.length∈gg r.st:=Ly.2 ⟨_,this,rfl⟩;rw[hs]at h1;obtain⟨m,hm,he⟩:=Ly.1 h1
    have:=(hp m hm).1
    omega
 ·unfold fZ;split
  ·exact jr _ _ _
  ·rw[Kn (by omega)];exact jr _ _ _
def wg{B:Nat}(p:List Mod)(module fn:bA)(args:List Val)(world:List Int)(fuel:Int)(hp:∀m∈p,m.vars.length<=B/\∀f∈m.funcs,f.params.length<=B):OutB B p.length (eM p module fn args world fuel):=by
 unfold eM;split
 ·exact jr _ _ _
 ·exact yX _ _ _ _ _ _ _ hp
end Go.Av.Ap
namespace Go.Av.Ap
open Go Go.Av
mutual
def E0:Exp->List Exp
 |.mk o n s m ns es=>.mk o n s m ns es:: vY es
def vY:List Exp->List Exp
 |[]=>[]
 |e:: es=>E0 e++vY es
end
end Go.Av.Ap
namespace Go.Av
open Go
section
variable {F:Fence} {n:Nat} {P:Program} {w w':World} {ops:Array Oper} {rest:List Oper} {o:Oper} {a:Act} {Q:Exit->Act->World->Prop} {v:Value}
end
end Go.Av
namespace Go.Av.Ap
open Go Go.Av
def EI{T:TT}{t:Nat}{ti:TI}(ht:T t=some ti)(ha:ti.agg=false){h:Hp}{l k:Nat}{cs:List AV}{v:AV}(h0:h[l]? = some cs)(h1:cs[k]? = some v):a7 T t (.hp l k) h= .ok v h:=by
 simp[a7,ht,h0,ha,h1]
def BI{T:TT}{t:Nat}{ti:TI}(ht:T t=some ti){h:Hp}{l k:Nat}{cs:List AV}{v:AV}(h0:h[l]? = some cs)(hv:bv ti.size v=true)(hle:k+ti.size<=cs.length)(hp:0<ti.size):
  bH T t (.hp l k) v h= .ok (.tup []) (h.set l (setCells cs k (aa v))):=by
 simp[bH,ht,h0,hv,hle,hp]
def G8{T:TT}{t e:Nat}{ti ei:TI}(ht:T t=some ti)(hk:ti.kind= .slice e)(he:T e=some ei){x:AV}(hx:bv ei.size x=true)(hb:0<ei.bytes)(hs:0<ei.size)(hc:ei.bytes<=140737488355328)(h:Hp):
  appH T t false .hn (.sl [x]) h= .ok (.hs h.length 0 1 ei.size ei.agg) (h++[aa x]):=by
 have:cn ei.size [x]=true:=by simp[cn,hx]
 simp[appH,ht,hk,he,fq,this,hb,hs,hG,hc]
def G9{T:TT}{t e:Nat}{ti ei:TI}(ht:T t=some ti)(hk:ti.kind= .slice e)(he:T e=some ei){x:AV}(hx:bv ei.size x=true)(hb:0<ei.bytes)(hs:0<ei.size){h:Hp}{q n:Nat}{cs:List AV}(h0:h[q]? = some cs)(hok:cs.all aI=true)(hl:cs.length=n*ei.size)(hn:0<n)(hc:(n+1)*ei.bytes<=140737488355328):appH T t false (.hs q 0 n ei.size ei.agg) (.sl [x]) h= .ok (.hs h.length 0 (n+1) ei.size ei.agg) ((h.set q [])++[cs++aa x]):=by
 have h1:cn ei.size [x]=true:=by simp[cn,hx]
 have h2:List.all cs aI=true:=hok;have h3:0<n*ei.size:=LW hn hs;have h4:cs.take (n*ei.size)=cs:=by rw[<- hl];exact LR
 simp only[appH,ht,hk,he,fq,h1,hb,hs,hG,h0,h2,hl,Ll,Lz,Kh,Lb,La,List.isEmpty_cons,Km,LC,List.flatMap_nil,Lk,h3,h4,Kk];rw[MA hc];simp
end Go.Av.Ap
namespace Go.Av
def wL{p:Pg}(hO:cL p){fake:FuncId->List AV->M AV}(hf:∀f args,rf (fake f args) (ai p f args)){n:Nat}{f:FuncId}{args:List AV}{h:Hp}{r:R AV}(hr:fw p fake (cm n) f args h=r)(hne:r≠.fail):ai p f args h=r:=by
 have a:=jm (p:=p) hO (call:=ai p) (calls:=fun m f=>if m=0 then fake f else ai p f) (fun f args x=>by
  refine⟨fun _=>⟨1,fun m hm=>?_⟩,fun m hne=>?_⟩
  ·(try dsimp only)
   rw[if_neg (by omega)]
  ·(try dsimp only at hne |-)
   by_cases h0:m=0
   ·rw[Kn h0]at hne |-;exact hf f args x hne
   ·rw[if_neg h0]) (iR n) (iR n) (fun _=>iR n) f args h
 have b:=jm (p:=p) hO (call:=ai p) (calls:=fun _=>ai p) (fun f=>bz.const _) mb uj (fun n=>iR n) f args h;have a1:=a.2 0
 (try dsimp only at a1)
 have e1:=a1 (by simp only[Kt];rw[hr];exact hne);simp only[Kt]at e1;have b1:=b.2 n
 (try dsimp only at b1)
 have e2:=b1 (by rw[<- e1,hr];exact hne);rw[kg hO,<- e2,<- e1,hr]
mutual
def s9:AV->AV->Bool
 |.bool a,b=>match b with|.bool c=>a== c|_=>false
 |.int k n,b=>match b with|.int l m=>decide (k=l)&&decide (n=m)|_=>false
 |.str s,b=>match b with|.str t=>decide (s=t)|_=>false
 |.agg l,b=>match b with|.agg m=>qR l m|_=>false
 |.sl l,b=>match b with|.sl m=>qR l m|_=>false
 |.any,_=>false|.nilp,_=>false|.nilf,_=>false|.nili,_=>false|.tup _,_=>false|.ip _,_=>false|.hp _ _,_=>false|.hs _ _ _ _ _,_=>false
 |.hn,_=>false|.fn _ _ _,_=>false|.iface _ _,_=>false|.mp _,_=>false|.nilm,_=>false|.nilb _,_=>false|.byt _ _,_=>false|.it _,_=>false
def qR:List AV->List AV->Bool
 |[],m=>match m with|[]=>true|_:: _=>false
 |a:: l,m=>match m with|[]=>false|b:: m=>s9 a b&&qR l m
end
mutual
theorem BC:∀(a b:AV),s9 a b=true->a=b
 |.bool a,b,h=>by cases b<;>simp_all[s9]
 |.int k n,b,h=>by cases b<;>simp_all[s9]
 |.str s,b,h=>by cases b<;>simp_all[s9]
 |.agg l,b,h=>by
  cases b<;>simp only[s9,Ki]at h;rw[mR _ _ h]
 |.sl l,b,h=>by
  cases b<;>simp only[s9,Ki]at h;rw[mR _ _ h]
 |.any,_,h|.nilp,_,h|.nilf,_,h|.nili,_,h|.tup _,_,h|.ip _,_,h|.hp _ _,_,h|.hs _ _ _ _ _,_,h|.hn,_,h|.fn _ _ _,_,h|.iface _ _,_,h|.mp _,_,h|.nilm,_,h|.nilb _,_,h|.byt _ _,_,h|.it _,_,h=>by simp[s9]at h
theorem mR:∀(l m:List AV),qR l m=true->l=m
 |[],m,h=>by cases m<;>simp_all[qR]
 | a:: l,m,h=>by
  cases m with
  |nil=>simp[qR]at h
  |cons b m=>
   simp only[qR,Kj]at h;rw[BC _ _ h.1,mR _ _ h.2]
end
noncomputable def zR(p:Pg)(g:FuncId)(n:Nat):List (List AV×AV)->FuncId->List AV->M AV
 |[],f,args=>bif Nat.beq f g then M.fail else b9 p n f args
 |(a,r):: t,f,args=>bif Nat.beq f g&&qR (de ar args) a then M.pure r else zR p g n t f args
theorem wn{p:Pg}(hO:cL p)(g:FuncId){B:List AV->M AV}(hB:∀args,ai p g args=aH (B (de ar args)))(n:Nat):∀(t:List (List AV×AV)),(∀x∈t,de ar x.1=x.1/\ai p g x.1=M.pure x.2)->∀f args,rf (zR p g n t f args) (ai p f args)
 |[],_,f,args=>by
  unfold zR;cases Nat.beq f g with
  |true=>exact fun x hne=>absurd rfl hne
  |false=>exact fun x hne=>(gK hO f args x).2 n hne
 | (a,r):: t,ht,f,args=>by
  unfold zR;cases hb:Nat.beq f g&&qR (de ar args) a with
  | true=>
   simp only[Kj]at hb;have h1:f=g:=Ko hb.1;have h2:=mR _ _ hb.2;have h3:=ht (a,r) (by simp);have e:ai p f args=M.pure r:=by
    rw[<- h3.2,h1,hB args,hB a,h2,h3.1]
   intro x _;exact (MR e x).symm
  |false=>exact wn hO g hB n t (fun x hx=>ht x (by simp[hx])) f args
end Go.Av
