/- The abstract evaluator and plain laws, part 4. Condition: the table of types is the program's. -/
import Derived.Test.YtihmmkncokjbaaaGreatDoorLc
set_option linter.defProp false
set_option linter.unusedSimpArgs false
set_option linter.unusedVariables false
namespace Go.Av.Ap
open Go Go.Av
def lr(t:Ty)(s:aR):Option Val:=match ck 4 s with
 |some x=>if x.2=[]/\fc t x.1=true then some x.1 else none
 |none=>none
def Ck{t:Ty}{v:Val}(h:fc t v=true):bc 4 v=true:=by
 simp only[fc,PO]at h;exact h.2.1
theorem tJ:∀(d:Nat)(v:Val),bc d v=true->bc (d+1) v=true
 |0,v,h=>by cases h
 | d+1,v,h=>by
  unfold bc at h|-;split at h
  ·rename_i hk;rw[PS hk];exact h
  ·rename_i hk;rw[if_neg hk];simp only[PO,P7]at h|-;exact⟨h.1,fun x hx=>tJ d x (h.2 x hx)⟩
theorem pd{α β γ:Type}{f g:α->β->γ}:∀ {l:List α} {m:List β},(∀a,∀b∈m,f a b=g a b)->List.zipWith f l m=List.zipWith g l m
 |[],_,_=>rfl
 |_:: _,[],_=>rfl
 |a:: l,b:: m,h=>by
  rw[So,So,h a b QS,pd fun x y hy=>h x y (QN _ hy)]
theorem uu:∀(d:Nat)(v:Val),bc d v=true->eL (d+1) v=eL d v
 |0,v,h=>by cases h
 | d+1,v,h=>by
  unfold bc at h;rw[eL,eL];split at h
  ·rename_i hk;simp only[QF,Qk]at hk;rcases hk with h0|h1
   ·rw[PS h0,PS h0]
   ·have h0:¬v.kind=0:=by rw[h1];decide
    simp only[if_neg h0,PS h1]
  ·simp only[PO,P7]at h;have e:List.zipWith (fun n x=>n++61:: eL (d+1) x) v.names v.values=List.zipWith (fun n x=>n++61:: eL d x) v.names v.values:=pd fun a b hb=>by rw[uu d b (h.2 b hb)]
   rw[e]
def tH{v:Val}(h:bc 3 v=true):bc 4 v=true:=tJ 3 v h
def An{v:Val}(h:bc 3 v=true):eL 3 v=cO v:=by
 unfold cO;rw[PS (tH h),uu 3 v h]
def yt{v:Val}(h:bc 4 v=true)(h0:v.kind≠0)(h1:v.kind≠1):cO v=123:: (b6 [44] (List.zipWith (fun n x=>n++61:: cO x) v.names v.values)++[125])/\v.names.length=v.values.length/\v.names.length<=8/\∀x∈v.values,bc 4 x=true:=by
 have hf:=h;unfold bc at h;rw[if_neg (by simp[h0,h1])]at h;simp only[PO,P7,Qk,PW]at h;refine⟨?_,h.1.1.1.2,h.1.1.2,fun x hx=>tH (h.2 x hx)⟩;unfold cO;rw[PS hf,eL,if_neg h0,if_neg h1];have e:List.zipWith (fun n x=>n++61:: eL 3 x) v.names v.values=List.zipWith (fun n x=>n++61:: if bc 4 x=true then eL 4 x else[]) v.names v.values:=pd fun a b hb=>by
  have:=An (h.2 b hb)
  unfold cO at this;rw[this]
 rw[e]
theorem xu:∀l:List aR,(b6 [44] l).length<=(l.map fun t=>t.length+1).sum
 |[]=>by simp[b6]
 |[a]=>by simp[b6]
 |a:: b:: l=>by
  have:=xu (b:: l)
  simp only[b6,P0,QO,List.sum_cons,P4,Qr]at this |-;omega
theorem nS:∀ {l:List aR} {t:aR},t∈l->t.length<=(b6 [44] l).length
 |[a],t,h=>by rw[Qt.1 h];exact P5 _
 | a:: b:: l,t,h=>by
  rw[b6];simp only[P0];rcases Qm.1 h with rfl|h
  ·omega
  ·have:=nS h
   omega
theorem BI{d:Nat}:∀(ns:List aR)(vs:List Val),(∀s∈ns,s.length<=60)->(∀x∈vs,(eL d x).length<=100*x.sz)->((List.zipWith (fun n x=>n++61:: eL d x) ns vs).map fun t=>t.length+1).sum<=62*ns.length+100*br vs
 |[],_,_,_=>by simp
 |_:: _,[],_,_=>by simp
 |n:: ns,v:: vs,hn,hv=>by
  have h1:=hn n QS;have h2:=hv v QS;have h3:=BI ns vs (fun s hs=>hn s (QN _ hs)) (fun x hx=>hv x (QN _ hx));simp only[So,QO,List.sum_cons,P0,P4,br]at h3 |-;omega
theorem yr:∀(d:Nat)(v:Val),Dh v->(eL d v).length<=100*v.sz
 |0,v,_=>by simp[eL]
 | d+1,v,h=>by
  have hs:v.sz=1+v.names.length+br v.values:=by cases v;rfl
  obtain⟨h1,h2⟩:=(Bf v).1 h;rw[eL];split
  ·have:=Cn v.n
   omega
  ·split
   ·split<;>simp[jZ,gQ]<;>omega
   ·have c:=QQ (xu _) (BI (d:=d) v.names v.values h1 fun x hx=>yr d x (h2 x hx));generalize b6 [44] (List.zipWith (fun n x=>n++61:: eL d x) v.names v.values)=J at c |-;simp only[P4,P0,Qr];omega
def C8{v:Val}(h:Dh v):(cO v).length<=100*v.sz:=by
 unfold cO;split
 ·exact yr 4 v h
 ·simp
theorem qc:∀(l:List Val)(v:Val),br (l++[v])=br l+v.sz
 |[],v=>by simp[br]
 |x:: l,v=>by simp only[QC,br,qc l v];omega
def rZ{s n r:aR}(h:gZ s=some (n,r)):r.length+2<=s.length:=by
 obtain⟨h1,h2⟩:=lV h
 have:=xS h2
 rw[h1,P0,P4];cases n with
 |nil=>exact absurd rfl this
 |cons x n=>simp only[P4];omega
def xk{b:Bool}{s n r:aR}(h:gG b s=some (n,r)):r.length+2<=s.length:=by
 unfold gG at h;split at h
 ·exact rZ h
 ·split at h
  ·have:=rZ h
   rw[Sq]at this;omega
  ·cases h
theorem pC{d:Nat}(ih:∀s v r,ck d s=some (v,r)->v.sz+2*r.length<=2*s.length+1):∀(f:Nat)(ns:List aR)(vs:List Val)(s:aR)(v:Val)(r:aR),eB (ck d) f ns vs s=some (v,r)->v.sz+2*r.length<=1+ns.length+br vs+2*s.length
 |0,_,_,_,_,_,h=>by cases h
 | f + 1,ns,vs,s,v,r,h=>by
  rw[eB]at h;split at h
  ·cases h;have e:(Val.mk 2 0 ns vs).sz=1+ns.length+br vs:=rfl;rw[e,Sq];omega
  ·cases hx:gG ns.isEmpty s with
   |none=>rw[hx]at h;cases h
   | some p=>
    obtain⟨n,r1⟩:=p;rw[hx]at h;simp only at h;cases hv:ck d r1 with
    |none=>rw[hv]at h;cases h
    |some q=>
     obtain⟨w,r2⟩:=q;rw[hv]at h;simp only at h;have a:=xk hx;have b:=ih _ _ _ hv;have c:=pC ih f _ _ _ _ _ h;rw[qc,P0,Qs]at c;omega
theorem jR:∀(d:Nat)(s:aR)(v:Val)(r:aR),ck d s=some (v,r)->v.sz+2*r.length<=2*s.length+1
 |0,_,_,_,h=>by cases h
 | d + 1,s,v,r,h=>by
  rw[ck]at h;split at h
  ·rename_i hh;have a:=pC (jR d) _ _ _ _ _ _ h;have b:=PR List.length (fo hh);simp only[Qr,P4,br]at a b;omega
  ·cases hx:cH (s.takeWhile dn)with
   |none=>rw[hx]at h;cases h
   | some w=>
    rw[hx]at h;cases h;have hl:=PR List.length (sK dn s);rw[P0]at hl;have hw:v.sz=1:=by
     unfold cH at hx;split at hx
     ·cases hx;rfl
     ·split at hx
      ·cases hx;rfl
      ·split at hx
       ·split at hx
        ·cases hx;rfl
        ·cases hx
       ·cases hx
    rw[hw];omega
mutual
def NB(B:Nat):Val->Prop
 |.mk _ _ ns vs=>(∀s∈ns,s.length<=B)/\Mj B vs
def Mj(B:Nat):List Val->Prop
 |[]=>True
 |v:: l=>NB B v/\Mj B l
end
theorem Bg(B:Nat):∀l:List Val,Mj B l↔∀v∈l,NB B v
 |[]=>by simp[Mj]
 |v:: l=>by rw[Mj,Bg B l];simp
def Gn(B:Nat)(v:Val):NB B v↔(∀s∈v.names,s.length<=B)/\∀x∈v.values,NB B x:=by
 cases v;rw[NB,Bg];rfl
def r7{s n r:aR}(h:gZ s=some (n,r)):n.length<=s.length:=by
 obtain⟨h1,_⟩:=lV h;rw[h1,P0];omega
def zy{b:Bool}{s n r:aR}(h:gG b s=some (n,r)):n.length<=s.length:=by
 unfold gG at h;split at h
 ·exact r7 h
 ·split at h
  ·have:=r7 h
   rw[Sq]at this;omega
  ·cases h
def vI{s:aR}{v:Val}(h:cH s=some v):v.names=[]/\v.values=[]/\-9223372036854775808<=v.n/\v.n<=9223372036854775807:=by
 unfold cH at h;split at h
 ·cases h;exact⟨rfl,rfl,by decide,by decide⟩
 ·split at h
  ·cases h;exact⟨rfl,rfl,by decide,by decide⟩
  ·split at h
   ·rename_i n hn;split at h
    ·cases h
     have:=Lib.atoiAll_bounds hn
     exact⟨rfl,rfl,this.1,this.2⟩
    ·cases h
   ·cases h
def yG(B:Nat)(v:Val):Prop:=NB B v/\qI v
def FI{B:Nat}{k n:Int}{ns:List aR}{vs:List Val}(h0:-9223372036854775808<=n/\n<=9223372036854775807)(h1:∀s∈ns,s.length<=B)(h2:∀x∈vs,yG B x):yG B (.mk k n ns vs):=
 ⟨(Gn B _).2 ⟨h1,fun x hx=>(h2 x hx).1⟩,(lT _).2 ⟨h0,fun x hx=>(h2 x hx).2⟩⟩
theorem pB{B d:Nat}(ih:∀s v r,ck d s=some (v,r)->s.length<=B->yG B v):∀(f:Nat)(ns:List aR)(vs:List Val)(s:aR)(v:Val)(r:aR),eB (ck d) f ns vs s=some (v,r)->s.length<=B->(∀s∈ns,s.length<=B)->(∀x∈vs,yG B x)->yG B v
 |0,_,_,_,_,_,h=>by cases h
 | f + 1,ns,vs,s,v,r,h=>fun hB h1 h2=>by
  rw[eB]at h;split at h
  ·cases h;exact FI ⟨by decide,by decide⟩ h1 h2
  ·cases hx:gG ns.isEmpty s with
   |none=>rw[hx]at h;cases h
   | some p=>
    obtain⟨n,r1⟩:=p;rw[hx]at h;simp only at h;cases hv:ck d r1 with
    |none=>rw[hv]at h;cases h
    | some q=>
     obtain⟨w,r2⟩:=q;rw[hv]at h;simp only at h;have a:=xk hx;have b:=zy hx;have c:=jR d r1 w r2 hv;have e:=(fU d r1 w r2 hv).1;have el:r2.length<=r1.length:=by rw[<- e,P0];omega
     exact pB ih f _ _ _ _ _ h (by omega) (fun t ht=>by
      rcases Qp.1 ht with ht|ht
      ·exact h1 t ht
      ·rw[Qt.1 ht];omega) (fun x hx'=>by
      rcases Qp.1 hx' with hx'|hx'
      ·exact h2 x hx'
      ·rw[Qt.1 hx'];exact ih r1 w r2 hv (by omega))
theorem sL{B:Nat}:∀(d:Nat)(s:aR)(v:Val)(r:aR),ck d s=some (v,r)->s.length<=B->yG B v
 |0,_,_,_,h=>by cases h
 | d+1,s,v,r,h=>fun hB=>by
  rw[ck]at h;split at h
  ·exact pB (sL d) _ _ _ _ _ _ h (by rw[Sq];omega) (fun t ht=>by cases ht) (fun x hx=>by cases hx)
  ·cases hx:cH (s.takeWhile dn)with
   |none=>rw[hx]at h;cases h
   |some w=>
    rw[hx]at h;cases h;obtain⟨a,b,c,e⟩:=vI hx;refine⟨(Gn B _).2 ⟨fun t ht=>?_,fun x hx=>?_⟩,(lT _).2 ⟨⟨c,e⟩,fun x hx=>?_⟩⟩
    ·rw[a]at ht;cases ht
    ·rw[b]at hx;cases hx
    ·rw[b]at hx;cases hx
def CS{B:Nat}{t:Ty}{s:aR}{w:Val}(h:lr t s=some w)(hB:s.length<=B):yG B w/\w.sz<=2*s.length+1:=by
 unfold lr at h;cases hv:ck 4 s with
 |none=>rw[hv]at h;cases h
 | some x=>
  obtain⟨v,r⟩:=x;rw[hv]at h;simp only at h;split at h
  ·cases h;exact⟨sL 4 s _ r hv hB,by have:=jR 4 s _ r hv;omega⟩
  ·cases h
theorem qd{f:cE->Val}{b:Nat}:∀l:List cE,(∀x∈l,(f x).sz<=b)->br (l.map f)<=l.length*b
 |[],_=>by simp[br]
 |x:: l,h=>by
  have h1:=h x QS;have h2:=qd l fun y hy=>h y (QN _ hy);simp only[QO,br,P4,Nat.succ_mul];omega
theorem yB:∀(d:Nat)(t:Ty),cj d t=true->(fK d t).sz<=20 ^ d
 |0,t,h=>by cases h
 |d+1,t,h=>by
  rw[dQ]at h;simp only[PO,PW,P7]at h;have hk:t.fields.length<=8:=by omega
  have a:=qd (f:=fun f=>fK d f.2) (b:=20 ^ d) t.fields fun x hx=>yB d x.2 (h.2.1 x hx).2;have e:(fK (d+1) t).sz=1+t.fields.length+br (t.fields.map fun f=>fK d f.2):=by rw[fK];simp only[Val.sz,Rp]
  have b:t.fields.length*20 ^ d<=8*20 ^ d:=Qi _ hk;have c:1<=20 ^ d:=Nat.pos_of_ne_zero (by simp);rw[e,RL];omega
def nv(b:aR):aR->Bool
 |[]=>b.isEmpty
 |x:: l=>b.isPrefixOf (x:: l)||nv b l
theorem mN(b:aR):(a:aR)->Lib.contains a b=nv b a
 |[]=>by
  cases b<;>rfl
 | x:: l=>by
  have ih:=mN b l;unfold Lib.contains at ih |-;unfold Lib.index nv;rw[<- ih];cases h:b.isPrefixOf (x:: l)with
  |true=>simp
  | false=>
   have hg:=Lib.index_ge l b;by_cases h1:Lib.index l b= -1
   ·simp[h1]
   ·have h2:(Lib.index l b== -1)=false:=Qj.2 h1;have h3:decide (0<=Lib.index l b)=true:=PT (by omega);have h4:decide (0<=Lib.index l b+1)=true:=PT (by omega);simp only[PM,PP,h2,SE,h3,h4]
def jS:aR->Option aR
 |[]=>none
 |x:: r=>if x=32 then some []else(jS r).map (x:: ·)
def oI:aR->List aR
 |[]=>[]
 | x:: r=>if x=32 then(match jS r with
   |some w=>w:: oI r
   |none=>oI r)else oI r
theorem tm:(s t:aR)->(∀x∈s,x≠32)->(s++[32]).isPrefixOf t=(jS t== some s)
 |[],[],_=>rfl
 | [],x:: r,_=>by
  simp only[Qv,List.isPrefixOf,Rx,jS];by_cases h:x=32
  ·subst h;simp
  ·have:((32:UInt8)== x)=false:=Qj.2 fun e=>h e.symm;rw[this,if_neg h];cases jS r<;>simp
 |a:: s,[],_=>rfl
 | a:: s,x:: r,h=>by
  have ih:=tm s r fun y hy=>h y (by simp[hy]);have ha:=h a (by simp);simp only[QC,List.isPrefixOf,ih,jS];by_cases hx:x=32
  ·subst hx;have:(a== (32:UInt8))=false:=Qj.2 ha;rw[this,PS rfl];simp
  ·rw[if_neg hx];cases hb:jS r with
   |none=>simp
   |some w=>
    rw[QG];simp only[PO,Qk,PN,Q3,SS];exact⟨fun⟨e1,e2⟩=>⟨e1.symm,e2⟩,fun⟨e1,e2⟩=>⟨e1.symm,e2⟩⟩
theorem p8(s:aR)(h:∀x∈s,x≠32):(l:aR)->nv ([32]++s++[32]) l=(oI l).contains s
 |[]=>rfl
 | x:: r=>by
  have ih:=p8 s h r;unfold nv oI;rw[ih];have e:([32]++s++[32]:aR).isPrefixOf (x:: r)=((32:UInt8)== x&&(s++[32]).isPrefixOf r):=rfl;rw[e,tm s r h];by_cases hx:x=32
  ·subst hx;rw[PS rfl];cases hb:jS r with
   |none=>simp
   |some w=>
    simp only[QL,QJ,SC];congr 1;rw[QG,Qk,Qk,PN];exact eq_comm
  ·have:((32:UInt8)== x)=false:=Qj.2 fun e=>hx e.symm;rw[if_neg hx,this];simp
def jq:List aR:=[[97,110,100],[98,97,99,107],[98,111,111,108],[99,108,111,99,107],[101,108,115,101],[102,97,108,115,101],[102,105,108,101,115],[102,110],[102,111,114,119,97,114,100],[103,101,116],[105,102],[105,110],[105,110,116],[108,101,116],[109,111,100,117,108,101],[109,111,118,101],[110,101,116],[110,111,116],[111,114],[112,117,98],[115,101,99,114,101,116,115],[115,101,116],[116,104,101,110],[116,114,117,101],[117,115,101],[118,97,114]]
def qf:oI kH=jq:=by decide +kernel
theorem sI{α:Type}(p:α->Bool):(l:List α)->((l.takeWhile p).length== l.length)=l.all p
 |[]=>rfl
 |x:: l=>by
  cases h:p x with
  |true=>simp[h,<- sI p l]
  |false=>simp[h]
theorem G7(s:aR):jd s=(!(s== [])&&decide (s.length<=20)&&gm (s.headD 0)&&(s.drop 1).all jw):=by
 unfold jd;rw[sI];cases s with
 |nil=>rfl
 |cons x s=>
  simp only[List.headD_cons,QH,Qf,Qe];have e:((x:: s:aR)== [])=false:=rfl;rw[e];have h:jw x=(gm x||lK x):=rfl;cases hl:gm x<;>simp[h,hl]
def De{s:aR}(h:jd s=true):∀x∈s,x≠32:=by
 unfold jd at h;rw[sI]at h;simp only[PO,P7]at h;rintro x hx rfl
 have:=h.2 _ hx
 revert this;decide
def Cw(s:aR):eR s=(jd s&&!(jq.contains s)):=by
 unfold eR;cases h:jd s with
 |false=>rfl
 |true=>rw[mN,p8 s (De h),qf]
end Go.Av.Ap
namespace Go.Av.Ap
def bn{α β:Type}{m:M α}{f:α->M β}{h h':Hp}{a:α}(e:m h= .ok a h'):af m f h=f a h':=by simp only[af,e]
def AJ{α β:Type}{m:M α}{f:α->M β}{h h':Hp}{v:AV}(e:m h= .pan v h'):af m f h= .pan v h':=by simp only[af,e]
def bR(l:List Val):List AV:=l.flatMap fun v=>aa v.av
def gY(l:List Val):(bR l).length=l.length*4:=by
 induction l with
 |nil=>rfl
 |cons v l ih=>simp only[bR,Rn,P0]at ih |-;rw[ih];simp;omega
def lk{l:List Val}{k:Nat}(h:k<l.length):((bR l).drop (k*4)).take 4=aa (l[k]).av:=by
 induction l generalizing k with
 |nil=>simp at h
 | cons v l ih=>
  cases k with
  |zero=>simp[bR]
  |succ k=>
   have:=ih (k:=k) (by simpa using h)
   simp only[bR,Rn]at this |-;have e:(k+1)*4=(aa v.av).length+k*4:=by simp;omega
   rw[e,List.drop_append,List.getElem_cons_succ];simp only[Sm];rw[List.drop_of_length_le (by omega),Qv];exact this
def ov{l:List Val}{k:Nat}(h:k<l.length)(v:Val):setCells (bR l) (k*4) (aa v.av)=bR (l.set k v):=by
 induction l generalizing k with
 |nil=>simp at h
 | cons w l ih=>
  cases k with
  |zero=>
   simp only[setCells,bR,Rn,RJ,R6,Qv,List.set_cons_zero];congr 1;have:0+(aa v.av).length=(aa w.av).length:=by simp
   rw[this,List.drop_left]
  |succ k=>
   have:=ih (k:=k) (by simpa using h)
   simp only[setCells,bR,Rn,List.set_cons_succ]at this |-;have e:(k+1)*4=(aa w.av).length+k*4:=by simp;omega
   have e2:(aa w.av).length+k*4+(aa v.av).length-(aa w.av).length=k*4+(aa v.av).length:=by omega
   have e3:(aa w.av).length+k*4-(aa w.av).length=k*4:=by omega
   rw[e,R9,List.drop_append,e2,e3,Q6 (by omega),List.drop_of_length_le (by omega)];simp only[Qv,QP];congr 1;rw[<- QP];exact this
def ig(l:List Deed):List AV:=l.flatMap fun d=>[.int .i64 d.effect,.int .i64 d.arg,.int .i64 d.answer]
def uA(tag:Nat->Nat)(k:Nat)(h:Hp)(l:List Val)(v:AV):Prop:=v=vals l\/∃r,v= .hs r 0 l.length 4 true/\tag r=k/\h[r]? = some (bR l)
def gn(tag:Nat->Nat)(h:Hp):List Call->List AV->Prop
 |[],cs=>cs=[]
 |c:: l,cs=>∃av rest,cs= .str c.module:: .str c.func:: av:: rest/\uA tag 4 h c.args av/\gn tag h l rest
def dq(tag:Nat->Nat)(h:Hp):Nat->List aR->List (List Val)->List AV->Prop
 |_,[],[],cs=>cs=[]
 |i,n:: ns,l:: st,cs=>∃av rest,cs= .str n:: av:: rest/\((l=[]/\av= .sl [])\/∃r,av= .hs r 0 l.length 4 true/\tag r=6+i/\h[r]? = some (bR l))/\dq tag h (i+1) ns st rest
 |_,_,_,_=>False
def Hb(tag:Nat->Nat)(k sz n:Nat)(cells:List AV->Prop)(v:AV)(h:Hp):Prop:=(n=0/\v= .hn)\/∃q cs,v= .hs q 0 n sz true/\0<n/\tag q=k/\h[q]? = some cs/\cs.length=n*sz/\cells cs
structure SNm where
 names:List aR
 sv:AV
 cells:List AV
 told:Bool
structure RepT (row:Ms->AV->AV->AV->List AV) (nm:SNm) (tag:Nat->Nat) (dv cv sv:AV) (m:Ms) (h:Hp):Prop where
 r0:h[0]? = some (row m dv cv sv)
 t0:tag 0=0
 ds:Hb tag 2 3 m.deeds.length (fun cs=>cs=ig m.deeds) dv h
 cs:Hb tag 3 3 m.calls.length (fun cs=>gn tag h m.calls cs) cv h
 st:Hb tag 5 2 m.state.length (fun cs=>cs=nm.cells/\dq tag h 0 nm.names m.state cs) sv h
 sve:sv=nm.sv
 wok:nm.told=true->m.world=[]
def ON(row:Ms->AV->AV->AV->List AV)(nm:SNm)(m:Ms)(h:Hp):Prop:=∃tag dv cv sv,RepT row nm tag dv cv sv m h
def Kp(tag tag':Nat->Nat)(ks:Nat->Prop)(h h':Hp):Prop:=∀r cs,h[r]? = some cs->¬ks (tag r)->h'[r]? = some cs/\tag' r=tag r
def uA.keep{tag tag':Nat->Nat}{ks:Nat->Prop}{h h':Hp}(K:Kp tag tag' ks h h'){k:Nat}(hk:¬ks k){l:List Val}{v:AV}(H:uA tag k h l v):uA tag' k h' l v:=by
 rcases H with H|⟨r,h1,h2,h3⟩
 ·exact .inl H
 ·have:=K r _ h3 (by rw[h2];exact hk)
  exact .inr ⟨r,h1,this.2.trans h2,this.1⟩
theorem gn.keep{tag tag':Nat->Nat}{ks:Nat->Prop}{h h':Hp}(K:Kp tag tag' ks h h')(hk:¬ks 4):{l:List Call} ->{cs:List AV} ->gn tag h l cs->gn tag' h' l cs
 |[],_,H=>H
 |_:: _,_,⟨av,rest,h1,h2,h3⟩=>⟨av,rest,h1,h2.keep K hk,h3.keep K hk⟩
theorem dq.keep{tag tag':Nat->Nat}{ks:Nat->Prop}{h h':Hp}(K:Kp tag tag' ks h h')(hk:∀i,¬ks (6+i)):{i:Nat} ->{nm:List aR} ->{st:List (List Val)} ->{cs:List AV} ->dq tag h i nm st cs->dq tag' h' i nm st cs
 |_,[],[],_,H=>H
 | i,_:: _,_:: _,_,⟨av,rest,h1,h2,h3⟩=>⟨av,rest,h1,by
   rcases h2 with h2|⟨r,g1,g2,g3⟩
   ·exact .inl h2
   ·have:=K r _ g3 (by rw[g2];exact hk i)
    exact .inr ⟨r,g1,this.2.trans g2,this.1⟩,dq.keep K hk h3⟩
 |_,[],_:: _,_,H=>H.elim
 |_,_:: _,[],_,H=>H.elim
def Hb.keep{tag tag':Nat->Nat}{ks:Nat->Prop}{h h':Hp}(K:Kp tag tag' ks h h'){k sz n:Nat}{c c':List AV->Prop}{v:AV}(hk:¬ks k)(hc:∀cs,c cs->c' cs)(H:Hb tag k sz n c v h):Hb tag' k sz n c' v h':=by
 rcases H with H|⟨q,cs,h1,h2,h3,h4,h5,h6⟩
 ·exact .inl H
 ·have:=K q _ h4 (by rw[h3];exact hk)
  exact .inr ⟨q,cs,h1,h2,this.2.trans h3,this.1,h5,hc _ h6⟩
def RepT.set0{row:Ms->AV->AV->AV->List AV}{nm:SNm}{tag:Nat->Nat}{dv cv sv:AV}{m m':Ms}{h:Hp}(R:RepT row nm tag dv cv sv m h)(h1:m'.deeds=m.deeds)(h2:m'.calls=m.calls)(h3:m'.state=m.state)(h4:m.world=[]->m'.world=[]):
  RepT row nm tag dv cv sv m' (h.set 0 (row m' dv cv sv)):=by
 have hlt:0<h.length:=(QB.1 R.r0).1;have K:Kp tag tag (fun k=>k=0) h (h.set 0 (row m' dv cv sv)):=fun r cs hr hk=>by
  have:r≠0:=fun e=>hk (by rw[e];exact R.t0);exact⟨by rw[RG (SB this)];exact hr,rfl⟩
 refine⟨by rw[Rr hlt],R.t0,?_,?_,?_,R.sve,fun t=>h4 (R.wok t)⟩
 ·rw[h1];exact R.ds.keep K (by decide) fun _ h=>h
 ·rw[h2];exact R.cs.keep K (by decide) fun _ h=>h.keep K (by decide)
 ·rw[h3];exact R.st.keep K (by decide) fun _ h=>⟨h.1,h.2.keep K (by omega)⟩
def RepT.more{row:Ms->AV->AV->AV->List AV}{nm:SNm}{tag:Nat->Nat}{dv cv sv:AV}{m:Ms}{h:Hp}(R:RepT row nm tag dv cv sv m h)(x:List AV)(k:Nat):
  RepT row nm (fun i=>if i=h.length then k else tag i) dv cv sv m (h++[x])/\Kp tag (fun i=>if i=h.length then k else tag i) (fun _=>False) h (h++[x]):=by
 have K:Kp tag (fun i=>if i=h.length then k else tag i) (fun _=>False) h (h++[x]):=fun r cs hr _=>by
  have hlt:r<h.length:=(QB.1 hr).1;exact⟨by rw[Ql hlt];exact hr,by simp only;rw[if_neg (by omega)]⟩
 exact⟨⟨(K 0 _ R.r0 id).1,(K 0 _ R.r0 id).2.trans R.t0,R.ds.keep K id fun _ h=>h,R.cs.keep K id fun _ h=>h.keep K id,R.st.keep K id fun _ h=>⟨h.1,h.2.keep K (fun _=>id)⟩,R.sve,R.wok⟩,K⟩
def Pt{tag:Nat->Nat}{h:Hp}{q:Nat}{k:Nat}(hq:tag q=k)(x:List AV):Kp tag tag (fun j=>j=k) h (h.set q x):=fun r cs hr hk=>by
 have:r≠q:=fun e=>hk (by rw[e];exact hq);exact⟨by rw[RG (SB this)];exact hr,rfl⟩
def ca{T:TT}{t:Nat}{ti:TI}(ht:T t=some ti)(ha:ti.agg=false){h:Hp}{l k:Nat}{cs:List AV}{v:AV}(h0:h[l]? = some cs)(h1:cs[k]? = some v):bi T t (.hp l k) h= .ok v h:=by
 simp[bi,ht,h0,ha,h1]
def oT{T:TT}{t:Nat}{ti:TI}(ht:T t=some ti)(ha:ti.agg=true){h:Hp}{l k:Nat}{cs:List AV}(h0:h[l]? = some cs)(hle:k+ti.size<=cs.length):bi T t (.hp l k) h= .ok (.agg ((cs.drop k).take ti.size)) h:=by
 simp[bi,ht,h0,ha,hle]
def dT{T:TT}{t:Nat}{ti:TI}(ht:T t=some ti){h:Hp}{l k:Nat}{cs:List AV}{v:AV}(h0:h[l]? = some cs)(hv:cz ti.size v=true)(hle:k+ti.size<=cs.length)(hp:0<ti.size):
  cq T t (.hp l k) v h= .ok (.tup []) (h.set l (setCells cs k (aa v))):=by
 simp[cq,ht,h0,hv,hle,hp]
def E2{T:TT}{t e:Nat}{ti ei:TI}(ht:T t=some ti)(hk:ti.kind= .slice e)(he:T e=some ei){x:AV}(hx:cz ei.size x=true)(hb:0<ei.bytes)(hs:0<ei.size)(hc:ei.bytes<=140737488355328)(h:Hp):
  appH T t false .hn (.sl [x]) h= .ok (.hs h.length 0 1 ei.size ei.agg) (h++[aa x]):=by
 have:eD ei.size [x]=true:=by simp[eD,hx]
 simp[appH,ht,hk,he,jW,this,hb,hs,mf,hc]
def E3{T:TT}{t e:Nat}{ti ei:TI}(ht:T t=some ti)(hk:ti.kind= .slice e)(he:T e=some ei){x:AV}(hx:cz ei.size x=true)(hb:0<ei.bytes)(hs:0<ei.size){h:Hp}{q n:Nat}{cs:List AV}(h0:h[q]? = some cs)(hok:cs.all bM=true)(hl:cs.length=n*ei.size)(hn:0<n)(hc:(n+1)*ei.bytes<=140737488355328):appH T t false (.hs q 0 n ei.size ei.agg) (.sl [x]) h= .ok (.hs h.length 0 (n+1) ei.size ei.agg) ((h.set q [])++[cs++aa x]):=by
 have h1:eD ei.size [x]=true:=by simp[eD,hx]
 have h2:List.all cs bM=true:=hok;simp only[appH,ht,hk,he,jW,h1,hb,hs,mf,h0,h2,hl,hn,QA,Ry,PV,QL,Qs,List.isEmpty_cons,P3,Rn,List.flatMap_nil,Qq];have h5:cs.take (n*ei.size)=cs:=Q6 (by omega);have h6:0<n*ei.size:=Se hn hs;rw[PT hc,h5];simp[h6]
theorem wE{T:TT}{t e:Nat}{ti ei:TI}(ht:T t=some ti)(hk:ti.kind= .slice e)(he:T e=some ei)(h4:ei.size=4)(hag:ei.agg=true)(hb:0<ei.bytes)(call:FuncId->List AV->M AV)(l:List Val)(hc:l.length*ei.bytes<=140737488355328)(h:Hp):
  gP T t call [vals l] h=if l=[]then .ok (vals []) h else .ok (.hs h.length 0 l.length 4 true) (h++[bR l]):=by
 have h1:eD 4 (dP l)=true:=CH l;have hlen:(dP l).length=l.length:=by simp[fh]
 have hfl:(dP l).flatMap aa=bR l:=by simp[fh,bR,List.flatMap_map]
 cases l with
 |nil=>simp[gP,appH,ht,hk,he,jW,hb,h4,mf,vals,dP,eD]
 |cons v l=>
  have hne:(dP (v:: l)).isEmpty=false:=rfl;unfold gP vals appH;simp only[ht,hk,he,jW,h4,h1,hb,mf,QA,Ry,Rx,PV,hne,P3,hlen,hfl,hag];rw[PT hc];simp
theorem gn.ok{tag:Nat->Nat}{h:Hp}:{l:List Call} ->{cs:List AV} ->gn tag h l cs->cs.all bM=true/\cs.length=l.length*3
 |[],cs,H=>by cases H;exact⟨rfl,rfl⟩
 | c:: l,_,⟨av,rest,h1,h2,h3⟩=>by
  subst h1;obtain⟨g1,g2⟩:=h3.ok;have:bM av=true:=by
   rcases h2 with rfl|⟨r,rfl,_⟩<;>rfl
  refine⟨?_,by simp[g2];omega⟩;rw[QH,QH,QH,this,g1];rfl
theorem gn.snoc{tag:Nat->Nat}{h:Hp}{c:Call}{av:AV}(ha:uA tag 4 h c.args av):{l:List Call} ->{cs:List AV} ->gn tag h l cs->gn tag h (l++[c]) (cs++[.str c.module,.str c.func,av])
 |[],cs,H=>by cases H;exact⟨av,[],rfl,ha,rfl⟩
 |d:: l,_,⟨av',rest,h1,h2,h3⟩=>⟨av',rest++[.str c.module,.str c.func,av],by rw[h1];rfl,h2,gn.snoc ha h3⟩
def nC(l:List Deed):(ig l).all bM=true:=by simp[ig,bM]
theorem dq.at{tag:Nat->Nat}{h:Hp}:{i:Nat} ->{nm:List aR} ->{st:List (List Val)} ->{cs:List AV} ->dq tag h i nm st cs->∀(j:Nat)(l:List Val),st[j]? = some l->
  ∃av,cs[j*2+1]? = some av/\((l=[]/\av= .sl [])\/∃r,av= .hs r 0 l.length 4 true/\tag r=6+(i+j)/\h[r]? = some (bR l))
 |_,[],[],_,_,j,l,hj=>by simp at hj
 | i,_:: _,_:: _,_,⟨av,rest,h1,h2,h3⟩,j,l,hj=>by
  subst h1;cases j with
  |zero=>simp at hj;subst hj;exact⟨av,rfl,h2⟩
  |succ j=>
   obtain⟨av',g1,g2⟩:=h3.at j l (by simpa using hj);refine⟨av',?_,?_⟩
   ·rw[show (j+1)*2+1=j*2+1+2 by omega];simpa using g1
   ·rw[show i+(j+1)=i+1+j by omega];exact g2
 |_,[],_:: _,_,H,_,_,_=>H.elim
 |_,_:: _,[],_,H,_,_,_=>H.elim
theorem dq.len{tag:Nat->Nat}{h:Hp}:{i:Nat} ->{nm:List aR} ->{st:List (List Val)} ->{cs:List AV} ->dq tag h i nm st cs->nm.length=st.length
 |_,[],[],_,_=>rfl
 |_,_:: _,_:: _,_,⟨_,_,_,_,h3⟩=>by simp[h3.len]
 |_,[],_:: _,_,H=>H.elim
 |_,_:: _,[],_,H=>H.elim
theorem dq.set{tag:Nat->Nat}{h:Hp}{r k:Nat}{v:Val}:{i:Nat} ->{nm:List aR} ->{st:List (List Val)} ->{cs:List AV} ->dq tag h i nm st cs->∀(j:Nat)(l:List Val),st[j]? = some l->tag r=6+(i+j)->h[r]? = some (bR l)->cs[j*2+1]? = some (.hs r 0 l.length 4 true)->
  k<l.length->dq tag (h.set r (bR (l.set k v))) i nm (setSt st j k v) cs
 |_,[],[],_,_,j,l,hj,_,_,_,_=>by simp at hj
 | i, n:: ns,l0:: st,_,⟨av,rest,h1,h2,h3⟩,j,l,hj,ht,hr,hc,hk=>by
  subst h1;have hlt:r<h.length:=(QB.1 hr).1;cases j with
  | zero=>
   simp only[PU,PN]at hj;subst hj;simp only[RJ,Qb,PZ,PU,PN]at hc;have e:setSt (l0:: st) 0 k v=l0.set k v:: st:=by simp[setSt]
   rw[e];refine⟨av,rest,rfl,.inr ⟨r,by rw[hc,RX],ht,Rr hlt⟩,?_⟩;have K:Kp tag tag (fun t=>t=6+i) h (h.set r (bR (l0.set k v))):=Pt (by rw[ht];rfl) _;have key:∀ {i':Nat} {nm':List aR} {st':List (List Val)} {cs':List AV},i<i'->dq tag h i' nm' st' cs'->dq tag (h.set r (bR (l0.set k v))) i' nm' st' cs':=by
    intro i' nm' st'
    induction st' generalizing i' nm' with
    |nil=>intro cs' hi H;cases nm' with
     |nil=>exact H
     |cons _ _=>exact H.elim
    | cons a st' ih=>intro cs' hi H;cases nm' with
     |nil=>exact H.elim
     | cons b nm'=>
      obtain⟨av2,rest2,k1,k2,k3⟩:=H;refine⟨av2,rest2,k1,?_,ih (by omega) k3⟩;rcases k2 with k2|⟨r2,g1,g2,g3⟩
      ·exact .inl k2
      ·have:=K r2 _ g3 (by rw[g2];omega)
       exact .inr ⟨r2,g1,g2,this.1⟩
   exact key (SO i) h3
  | succ j=>
   have e:setSt (l0:: st) (j+1) k v=l0:: setSt st j k v:=by simp[setSt]
   rw[e];have hc':rest[j*2+1]? = some (.hs r 0 l.length 4 true):=by
    rw[show (j+1)*2+1=j*2+1+2 by omega]at hc;simpa using hc
   refine⟨av,rest,rfl,?_,h3.set j l (by simpa using hj) (by rw[ht];omega) hr hc' hk⟩;rcases h2 with h2|⟨r2,g1,g2,g3⟩
   ·exact .inl h2
   ·have:r2≠r:=fun e=>by rw[e,ht]at g2;omega
    exact .inr ⟨r2,g1,g2,by rw[RG (SB this)];exact g3⟩
 |_,[],_:: _,_,H,_,_,_,_,_,_,_=>H.elim
 |_,_:: _,[],_,H,_,_,_,_,_,_,_=>H.elim
def Kp.trans{a b c:Nat->Nat}{ks js:Nat->Prop}{h h1 h2:Hp}(K:Kp a b ks h h1)(J:Kp b c js h1 h2):Kp a c (fun k=>ks k\/js k) h h2:=fun r cs hr hk=>by
 obtain⟨k1,k2⟩:=K r cs hr fun h=>hk (.inl h);obtain⟨j1,j2⟩:=J r cs k1 fun h=>hk (.inr (by rwa [k2]at h));exact⟨j1,j2.trans k2⟩
def Kp.new(tag:Nat->Nat)(h:Hp)(x:List AV)(k:Nat):Kp tag (fun i=>if i=h.length then k else tag i) (fun _=>False) h (h++[x]):=fun r cs hr _=>by
 have hlt:r<h.length:=(QB.1 hr).1;exact⟨by rw[Ql hlt];exact hr,by simp only;rw[if_neg (by omega)]⟩
def Kp.mono{a b:Nat->Nat}{ks js:Nat->Prop}{h h1:Hp}(K:Kp a b ks h h1)(hj:∀k,ks k->js k):Kp a b js h h1:=fun r cs hr hk=>K r cs hr fun h=>hk (hj _ h)
def og{T:TT}{t e:Nat}{ti ei:TI}(ht:T t=some ti)(hk:ti.kind= .slice e)(he:T e=some ei){sz:Nat}(h3:ei.size=sz)(hsz:0<sz)(hag:ei.agg=true)(hb:0<ei.bytes){tag:Nat->Nat}{k n:Nat}{P:List AV->Prop}{v x:AV}{h:Hp}(H:Hb tag k sz n P v h)(hP0:n=0->P [])(hok:∀cs,P cs->cs.all bM=true)(hx:cz sz x=true)(hc:(n+1)*ei.bytes<=140737488355328):
  ∃h1 v' tag',appH T t false v (.sl [x]) h= .ok v' h1/\Kp tag tag' (fun j=>j=k) h h1/\Hb tag' k sz (n+1) (fun cs'=>∃cs,P cs/\cs'=cs++aa x) v' h1/\bM v'=true:=by
 have hxl:(aa x).length=sz:=by
  unfold cz at hx;simp only[PO,Qk]at hx;have h1:=hx.1;cases x<;>simp only[dk,PN,reduceCtorEq]at h1<;>simp only[aa,Qs]<;>exact h1
 have hx':cz ei.size x=true:=by rw[h3];exact hx
 rcases H with⟨hn,rfl⟩|⟨q,cs,rfl,hn,hq,hcs,hl,hp⟩
 ·subst hn;refine⟨_,_,_,E2 ht hk he hx' hb (by omega) (by omega) h,(Kp.new tag h (aa x) k).mono fun _ h=>h.elim,.inr ⟨h.length,aa x,by rw[h3,hag],by omega,by simp,by simp,by simpa using hxl,[],hP0 rfl,rfl⟩,rfl⟩
 ·have e1:=E3 ht hk he hx' hb (by omega) hcs (hok cs hp) (by rw[h3];exact hl) hn hc;rw[h3,hag]at e1;have K1:Kp tag tag (fun j=>j=k) h (h.set q []):=Pt hq [];have K2:=Kp.new tag (h.set q []) (cs++aa x) k;refine⟨_,_,_,e1,(K1.trans K2).mono fun j h=>h.elim id False.elim,.inr ⟨h.length,cs++aa x,rfl,by omega,by simp,?_,by rw[P0,hl,hxl,QI,Nat.one_mul],cs,hp,rfl⟩,rfl⟩;have:(h.set q []).length=h.length:=by simp
  rw[<- this];simp
def RepT.pushDeed{row:Ms->AV->AV->AV->List AV}{nm:SNm}{tag tag':Nat->Nat}{dv dv' cv sv:AV}{m m':Ms}{h h1:Hp}{d:Deed}(R:RepT row nm tag dv cv sv m h)(K:Kp tag tag' (fun j=>j=2) h h1)(H:Hb tag' 2 3 (m.deeds.length+1) (fun cs'=>∃cs,cs=ig m.deeds/\cs'=cs++aa d.av) dv' h1)(hd:m'.deeds=m.deeds++[d])(hc:m'.calls=m.calls)(hs:m'.state=m.state)(h4:m.world=[]->m'.world=[]):RepT row nm tag' dv' cv sv m' (h1.set 0 (row m' dv' cv sv)):=by
 obtain⟨k1,k2⟩:=K 0 _ R.r0 (by rw[R.t0];decide);have hlt:0<h1.length:=(QB.1 k1).1;have t0:=k2.trans R.t0;have K0:Kp tag' tag' (fun j=>j=0) h1 (h1.set 0 (row m' dv' cv sv)):=Pt t0 _;refine⟨Rr hlt,t0,?_,?_,?_,R.sve,fun t=>h4 (R.wok t)⟩
 ·rw[hd,P0];refine H.keep K0 (by decide) ?_;rintro cs' ⟨cs,rfl,rfl⟩;show ig m.deeds++[AV.int .i64 d.effect,.int .i64 d.arg,.int .i64 d.answer]=_;simp[ig]
 ·rw[hc];exact (R.cs.keep K (c':=gn tag' h1 m.calls) (by decide) fun _ h=>h.keep K (by decide)).keep K0 (by decide) fun _ h=>h.keep K0 (by decide)
 ·rw[hs];exact (R.st.keep K (c':=fun cs=>cs=nm.cells/\dq tag' h1 0 nm.names m.state cs) (by decide) fun _ h=>⟨h.1,h.2.keep K (by omega)⟩).keep K0 (by decide) fun _ h=>⟨h.1,h.2.keep K0 (by omega)⟩
def RepT.pushCall{row:Ms->AV->AV->AV->List AV}{nm:SNm}{tag tag':Nat->Nat}{dv cv cv' sv:AV}{m m':Ms}{h h1:Hp}{c:Call}{av:AV}(R:RepT row nm tag dv cv sv m h)(K:Kp tag tag' (fun j=>j=3) h h1)(ha:uA tag 4 h c.args av)(H:Hb tag' 3 3 (m.calls.length+1) (fun cs'=>∃cs,gn tag h m.calls cs/\cs'=cs++[.str c.module,.str c.func,av]) cv' h1)(hd:m'.deeds=m.deeds)(hc:m'.calls=m.calls++[c])(hs:m'.state=m.state)(h4:m.world=[]->m'.world=[]):RepT row nm tag' dv cv' sv m' (h1.set 0 (row m' dv cv' sv)):=by
 obtain⟨k1,k2⟩:=K 0 _ R.r0 (by rw[R.t0];decide);have hlt:0<h1.length:=(QB.1 k1).1;have t0:=k2.trans R.t0;have K0:Kp tag' tag' (fun j=>j=0) h1 (h1.set 0 (row m' dv cv' sv)):=Pt t0 _;refine⟨Rr hlt,t0,?_,?_,?_,R.sve,fun t=>h4 (R.wok t)⟩
 ·rw[hd];exact (R.ds.keep K (c':=fun cs=>cs=ig m.deeds) (by decide) fun _ h=>h).keep K0 (by decide) fun _ h=>h
 ·rw[hc,P0];refine H.keep K0 (by decide) ?_;rintro cs' ⟨cs,hcs,rfl⟩;exact ((hcs.keep K (by decide)).snoc (ha.keep K (by decide))).keep K0 (by decide)
 ·rw[hs];exact (R.st.keep K (c':=fun cs=>cs=nm.cells/\dq tag' h1 0 nm.names m.state cs) (by decide) fun _ h=>⟨h.1,h.2.keep K (by omega)⟩).keep K0 (by decide) fun _ h=>⟨h.1,h.2.keep K0 (by omega)⟩
def RepT.var{row:Ms->AV->AV->AV->List AV}{nm:SNm}{tag:Nat->Nat}{dv cv sv:AV}{m:Ms}{h:Hp}(R:RepT row nm tag dv cv sv m h)(hrow:∀st,row { m with state:=st } dv cv sv=row m dv cv sv){i:Nat}{l:List Val}(hl:m.state[i]? = some l)(hne:l≠[]):
  ∃q r,nm.sv= .hs q 0 m.state.length 2 true/\h[q]? = some nm.cells/\nm.cells[i*2+1]? = some (.hs r 0 l.length 4 true)/\nm.cells.length=m.state.length*2/\h[r]? = some (bR l)/\
   ∀(k:Nat)(v:Val),k<l.length->RepT row nm tag dv cv sv { m with state:=setSt m.state i k v } (h.set r (bR (l.set k v))):=by
 have hi:i<m.state.length:=(QB.1 hl).1;rcases R.st with⟨h0,_⟩|⟨q,cs,h1,h2,h3,h4,h5,rfl,h6⟩
 ·omega
 ·obtain⟨av,g1,g2⟩:=h6.at i l hl;rcases g2 with⟨g2,_⟩|⟨r,rfl,g3,g4⟩
  ·exact absurd g2 hne
  ·rw[Qb]at g3;refine⟨q,r,by rw[<- R.sve,h1],h4,g1,h5,g4,fun k v hk=>?_⟩;have K:Kp tag tag (fun j=>j=6+i) h (h.set r (bR (l.set k v))):=Pt g3 _;refine⟨?_,R.t0,?_,?_,?_,R.sve,R.wok⟩
   ·rw[hrow];exact (K 0 _ R.r0 (by rw[R.t0];omega)).1
   ·exact R.ds.keep K (by omega) fun _ h=>h
   ·exact R.cs.keep K (by omega) fun _ h=>h.keep K (by omega)
   ·right;have hq:r≠q:=fun e=>by rw[e,h3]at g3;omega
    refine⟨q,nm.cells,by rw[h1];simp[setSt],by simpa [setSt]using h2,h3,by rw[RG hq];exact h4,by simpa [setSt]using h5,rfl,?_⟩;exact h6.set i l hl (by rw[Qb];exact g3) g4 g1 hk
theorem dq.snoc{tag:Nat->Nat}{h:Hp}{n:aR}{l:List Val}{av:AV}:{i:Nat} ->{nm:List aR} ->{st:List (List Val)} ->{cs:List AV} ->dq tag h i nm st cs->
  ((l=[]/\av= .sl [])\/∃r,av= .hs r 0 l.length 4 true/\tag r=6+(i+st.length)/\h[r]? = some (bR l))->dq tag h i (nm++[n]) (st++[l]) (cs++[.str n,av])
 |i,[],[],cs,H,ha=>by
  have H':cs=[]:=H;subst H';exact⟨av,[],rfl,ha,rfl⟩
 |i,_:: _,l0:: st,_,⟨av',rest,h1,h2,h3⟩,ha=>by
  refine⟨av',rest++[.str n,av],by rw[h1];rfl,h2,h3.snoc ?_⟩;rcases ha with ha|⟨r,g1,g2,g3⟩
  ·exact .inl ha
  ·exact .inr ⟨r,g1,by rw[g2];simp;omega,g3⟩
 |_,[],_:: _,_,H,_=>H.elim
 |_,_:: _,[],_,H,_=>H.elim
theorem dq.ok{tag:Nat->Nat}{h:Hp}:{i:Nat} ->{nm:List aR} ->{st:List (List Val)} ->{cs:List AV} ->dq tag h i nm st cs->cs.all bM=true
 |_,[],[],cs,H=>by
  have H':cs=[]:=H;subst H';rfl
 | _,_:: _,_:: _,_,⟨av,rest,h1,h2,h3⟩=>by
  subst h1;have:bM av=true:=by
   rcases h2 with⟨_,rfl⟩|⟨r,rfl,_⟩<;>rfl
  rw[QH,QH,this,h3.ok];rfl
 |_,[],_:: _,_,H=>H.elim
 |_,_:: _,[],_,H=>H.elim
theorem gn.at{tag:Nat->Nat}{h:Hp}:{l:List Call} ->{cs:List AV} ->gn tag h l cs->∀(i:Nat)(c:Call),l[i]? = some c->∃av,(cs.drop (i*3)).take 3=[.str c.module,.str c.func,av]/\uA tag 4 h c.args av
 |[],_,_,i,c,hc=>by simp at hc
 | d:: l,_,⟨av,rest,h1,h2,h3⟩,i,c,hc=>by
  subst h1;cases i with
  |zero=>simp at hc;subst hc;exact⟨av,by simp,h2⟩
  |succ i=>
   obtain⟨av',g1,g2⟩:=h3.at i c (by simpa using hc);refine⟨av',?_,g2⟩;rw[show (i+1)*3=i*3+3 by omega];simpa using g1
def fe{v:AV}(h:bM v=true):cz 1 v=true/\aa v=[v]/\dk v=some 1:=by
 cases v with
 |any=>cases h
 |agg _=>cases h
 |tup _=>cases h
 |nilb _=>cases h
 |byt _ _=>cases h
 |it _=>cases h
 |_=>exact⟨rfl,rfl,rfl⟩
def mu(m:Ms):Int:=m.deeds.length+m.calls.length+m.fuel
def TQ(k:Int){α:Type}(x:X α):Prop:=∀m a s,0<=m.fuel->x m= .ok a s->mu s<=mu m+k/\s.fuel<=m.fuel/\0<=s.fuel/\s.frames=m.frames
def BF{k:Int}{α:Type}{a:α}(hk:0<=k):TQ k (.ok a):=fun m b s h0 h=>by cases h;exact⟨by omega,Re _,h0,rfl⟩
def GY{k:Int}{α:Type}{e:Int}:TQ k (α:=α) (.er e):=fun m b s _ h=>by cases h
def IG{j k:Int}{α β:Type}{x:X α}{f:α->X β}(hx:TQ j x)(hf:∀a,TQ k (f a)):TQ (j+k) (x.bind f):=by
 intro m b s h0 h;unfold X.bind at h;cases hr:x m with
 |er e t=>rw[hr]at h;cases h
 |ok a t=>
  rw[hr]at h;obtain⟨h1,h2,h3,h4⟩:=hx m a t h0 hr;obtain⟨g1,g2,g3,g4⟩:=hf a t b s h3 h;exact⟨by omega,by omega,g3,g4.trans h4⟩
def ec{k:Int}{α β:Type}{x:X α}{f:α->X β}(hx:TQ 0 x)(hf:∀a,TQ k (f a)):TQ k (x.bind f):=by
 have:=IG hx hf
 rwa [Int.zero_add]at this
def BD{j k:Int}{α:Type}{x:X α}(h:TQ j x)(hk:j<=k):TQ k x:=fun m a s h0 e=>by
 obtain⟨h1,h2⟩:=h m a s h0 e;exact⟨by omega,h2⟩
def cR{k:Int}{α:Type}{c:Prop}[Decidable c]{x y:X α}(h1:TQ k x)(h2:TQ k y):TQ k (if c then x else y):=by
 split
 ·exact h1
 ·exact h2
def qF{r:X Val}(h:TQ 0 r):TQ 0 (boolX r):=ec h fun _=>cR (BF (Re _)) GY
theorem vR{r:Exp->X Val}(h:∀e,TQ 0 (r e)):∀l,TQ 0 (listX r l)
 |[]=>BF (Re _)
 |e:: l=>ec (h e) fun _=>ec (vR h l) fun _=>BF (Re _)
def ku(p:List Mod)(r:Ev)(a:Int)(f:Fun)(l:List Val)(m:Ms):fX p r a f l m=if m.frames<60 then((r a (f.params.map (·.1)) l f.body).bind fun v=>.upd (fun m=>{ m with frames:=m.frames-1 }) (.ok v)) (jh p a f l m)else .er 6 m:=by
 unfold fX X.get;by_cases h:m.frames<60
 ·simp only[h,PQ];rfl
 ·simp only[h,PP];rfl
def GX{p:List Mod}{r:Ev}{a:Int}{f:Fun}{l:List Val}(hr:∀o ns vs e,TQ 0 (r o ns vs e)):TQ 1 (fX p r a f l):=by
 intro m v s h0 h;rw[ku]at h;split at h
 ·unfold X.bind at h;cases hr':r a (f.params.map (·.1)) l f.body (jh p a f l m)with
  |er e t=>rw[hr']at h;cases h
  | ok b t=>
   rw[hr']at h;cases h;obtain⟨h1,h2,h3,h4⟩:=hr _ _ _ _ (jh p a f l m) v t h0 hr';have hm:mu (jh p a f l m)<=mu m+1:=by
    simp only[mu,jh];split
    ·simp;omega
    ·omega
   have h4':t.frames=m.frames+1:=h4;have h2':t.fuel<=m.fuel:=h2;simp only[mu]at h1 hm |-;exact⟨by omega,h2',h3,by omega⟩
 ·cases h
def II{p:List Mod}{r:Ev}(hr:∀o ns vs e,TQ 0 (r o ns vs e))(o:Int)(ns:List aR)(vs:List Val)(e:Exp):TQ 0 (kJ p r o ns vs e):=by
 have tick:∀y:X Val,TQ 1 y->TQ 0 (uv y):=fun y hy m a s h0 h=>by
  unfold uv X.get at h;by_cases hf:m.fuel<=0
  ·simp only[hf,PQ]at h;cases h
  ·simp only[hf,PP]at h;obtain⟨h1,h2,h3,h4⟩:=hy { m with fuel:=m.fuel-1 } a s (by simp only;omega) h;simp only[mu]at h1 h2 |-;exact⟨by omega,by omega,h3,h4⟩
 have H:=fun e=>hr o ns vs e;have ok1:∀(α:Type)(a:α),TQ 1 (.ok a):=fun _ _=>BF (by omega);have er1:∀(α:Type) e,TQ 1 (α:=α) (.er e):=fun _ _=>GY;have H1:=fun e=>BD (H e) (show (0:Int)<=1 by omega);refine tick _ ?_;refine cR (er1 _ _) (cR (ok1 _ _) (cR (cR (ok1 _ _) (er1 _ _)) (cR ?_ (cR ?_ (cR ?_ (cR ?_ (cR ?_ (cR ?_ (cR ?_ (cR ?_ (cR ?_ (cR ?_ ?_))))))))))))
 ·split
  ·exact ok1 _ _
  ·exact er1 _ _
 ·refine ec (H _) fun a=>ec (H _) fun b=>?_;unfold km;exact cR (cR (ok1 _ _) (er1 _ _)) (cR (cR (ok1 _ _) (cR (ok1 _ _) (cR (ok1 _ _) (ok1 _ _)))) (er1 _ _))
 ·exact ec (qF (H _)) fun a=>cR (ok1 _ _) (ec (qF (H _)) fun b=>ok1 _ _)
 ·exact ec (qF (H _)) fun a=>ok1 _ _
 ·exact ec (qF (H _)) fun a=>cR (H1 _) (H1 _)
 ·exact ec (H _) fun v=>BD (hr _ _ _ _) (by omega)
 ·unfold iC;exact cR (cR (ec (vR H _) fun vs=>cR (ok1 _ _) (er1 _ _)) (er1 _ _)) (er1 _ _)
 ·refine ec (H _) fun v=>?_;split
  ·exact cR (ok1 _ _) (er1 _ _)
  ·exact er1 _ _
 ·unfold mL;simp only;split
  ·exact er1 _ _
  ·exact cR (cR (ec (vR H _) fun l=>GX hr) (er1 _ _)) (er1 _ _)
 ·unfold sQ;refine ec (H _) fun v=>cR (cR (fun m a s h0 h=>?_) (er1 _ _)) (er1 _ _);cases h;simp only[mu];exact⟨by simp;omega,Re _,h0,trivial⟩
 ·unfold s7;refine cR (er1 _ _) ?_;simp only;refine cR (er1 _ _) (cR (ec (H _) fun v m a s h0 h=>?_) fun m a s h0 h=>?_)
  ·cases h;exact⟨by simp only[mu];omega,Re _,h0,rfl⟩
  ·cases h;exact⟨by omega,Re _,h0,rfl⟩
theorem mE{p:List Mod}:∀(n:Nat)(o:Int)(ns:List aR)(vs:List Val)(e:Exp),TQ 0 (bo p n o ns vs e)
 |0,_,_,_,_=>GY
 |n+1,o,ns,vs,e=>II (fun o ns vs e=>mE n o ns vs e) o ns vs e
structure GoodM (p:List Mod) (m:Ms):Prop where
 right:uD m
 bud:mu m<=1000000
 fr:0<=m.frames/\m.frames<=60
 fuel:0<=m.fuel
 shape:∀(i:Nat)(x:Mod),p[i]? = some x->∃l,m.state[i]? = some l/\l.length=x.vars.length
def GoodM.eval{p:List Mod}{n:Nat}{o:Int}{ns:List aR}{vs:List Val}{e:Exp}{m s:Ms}{v:Val}(G:GoodM p m)(hs:kN ns vs)(h:bo p n o ns vs e m= .ok v s):GoodM p s/\Rv v/\s.fuel<=m.fuel:=by
 obtain⟨h1,h2,h3,h4⟩:=mE n o ns vs e m v s G.fuel h;obtain⟨g1,g2,g3⟩:=li (p:=p) n o ns vs e hs m G.right;rw[h]at g1 g2;refine⟨⟨g1,by have:=G.bud;omega,by rw[h4];exact G.fr,h3,fun i x hx=>?_⟩,g3 v s h,h2⟩;obtain⟨l,k1,k2⟩:=G.shape i x hx;have:(me s)[i]? = (me m)[i]?:=by rw[show me s=me m from g2]
 simp only[me,Q8,k1,Q3]at this;cases hi:s.state[i]? with
 |none=>rw[hi]at this;cases this
 |some l'=>
  rw[hi]at this;simp only[Q3,PN]at this;exact⟨l',rfl,by omega⟩
def GoodM.bool{p:List Mod}{n:Nat}{o:Int}{ns:List aR}{vs:List Val}{e:Exp}{m s:Ms}{b:Bool}(G:GoodM p m)(hs:kN ns vs)(h:boolX (bo p n o ns vs e) m= .ok b s):GoodM p s/\s.fuel<=m.fuel:=by
 unfold boolX X.bind at h;cases hr:bo p n o ns vs e m with
 |er c t=>rw[hr]at h;cases h
 | ok v t=>
  rw[hr]at h;simp only at h;split at h
  ·cases h;exact⟨(G.eval hs hr).1,(G.eval hs hr).2.2⟩
  ·cases h
def sr{v:Val}(h:Rv v):v.names.length<=8:=by
 unfold Rv bc at h;split at h
 ·simp only[PO,Qk]at h;omega
 ·simp only[PO,PW]at h;exact h.1.1.2
theorem AY:∀(d:Nat)(v:Val),bc d v=true->v.sz<=17*9 ^ d
 |0,v,h=>by simp[bc]at h
 | d + 1,v,h=>by
  have hp:1<=9 ^ d:=Nat.one_le_pow _ _ (by decide);obtain⟨k,n,ns,vs⟩:=v;unfold bc at h;simp only[Val.sz];split at h
  ·simp only[PO,Qk,Pp,Po]at h;have h1:=h.1.1;have h2:vs=[]:=P6 h.1.2;subst h2;simp only[br];rw[RL];omega
  ·simp only[PO,Qk,P7,Pp,Po]at h;have h8:=Ro h.1.1.2;have hl:=h.1.1.1.2;have hv:=h.2;have key:∀l:List Val,(∀v∈l,bc d v=true)->br l<=l.length*(17*9 ^ d):=by
    intro l
    induction l with
    |nil=>intro _;simp[br]
    |cons v l ih=>
     intro h;have h1:=AY d v (h v QS);have h2:=ih fun w hw=>h w (QN _ hw);simp only[br,P4];rw[QI];omega
   have h3:=key vs hv;have h4:vs.length*(17*9 ^ d)<=8*(17*9 ^ d):=Qi _ (by omega);rw[RL];omega
def mc{v:Val}(h:Rv v):v.sz<=200000:=QQ (AY 4 v h) (by decide)
end Go.Av.Ap
namespace Go.Av.Ap
open Go Go.Av
def uc(s:aR):Option (aR×aR):=if s.takeWhile cN≠[]/\(s.dropWhile cN).head? = some 61 then some (s.takeWhile cN,(s.dropWhile cN).tail)else none
def Ky(p:UInt8->Bool)(s:aR):∀x∈s.takeWhile p,p x=true:=fun x hx=>by
 induction s with
 |nil=>cases hx
 | cons c s ih=>
  rw[RA]at hx;split at hx
  ·rename_i hc;rcases Qm.1 hx with rfl|hx
   ·exact hc
   ·exact ih hx
  ·cases hx
def CL:∀x:UInt8,cN x=true->eG x=true:=fun x hx=>by
 have h:=zT (s:=[x]) (by simp[eW,hx]);exact h x (by simp)
def Gl(s:aR):uc s=gZ s:=by
 unfold uc gZ;by_cases h:s.takeWhile cN≠[]/\(s.dropWhile cN).head? = some 61
 ·have e1:s=s.takeWhile cN++61:: (s.dropWhile cN).tail:=by rw[<- fo h.2,sK]
  have h1:=Ky cN s;have hs:eW (s.takeWhile cN)=true:=by
   simp only[eW,PO,P7];exact⟨by cases hl:s.takeWhile cN with|nil=>exact absurd hl h.1|cons=>rfl,h1⟩
  obtain⟨g1,g2⟩:=Aq (p:=eG) (a:=s.takeWhile cN) (rest:=61:: (s.dropWhile cN).tail) (fun x hx=>CL x (h1 x hx)) (fun c hc=>by cases hc;rfl);rw[<- e1]at g1 g2;rw[PS h,g1,g2,PS ⟨hs,rfl⟩];rfl
 ·rw[if_neg h];by_cases h2:eW (s.takeWhile eG)=true/\(s.dropWhile eG).head? = some 61
  ·exfalso;have e1:s=s.takeWhile eG++61:: (s.dropWhile eG).tail:=by rw[<- fo h2.2,sK]
   have hp:=h2.1;simp only[eW,PO,P7]at hp;obtain⟨g1,g2⟩:=Aq (p:=cN) (a:=s.takeWhile eG) (rest:=61:: (s.dropWhile eG).tail) hp.2 (fun c hc=>by cases hc;rfl);rw[<- e1]at g1 g2;exact h ⟨by rw[g1];exact xS h2.1,by rw[g2];rfl⟩
  ·rw[if_neg h2]
def gh(rd:aR->Option (Val×aR)):Nat->List aR->List Val->aR->Option (Val×aR)
 |0,_,_,_=>none
 | f+1,ns,vs,s=>if s.head? = some 125 then some (.mk 2 0 ns vs,s.tail)else match gG ns.isEmpty s with
  |none=>none
  |some (n,r)=>if 8<=ns.length then none else match rd r with
   |none=>none
   |some (v,r')=>gh rd f (ns++[n]) (vs++[v]) r'
def fq:Nat->aR->Option (Val×aR)
 |0,_=>none
 |d+1,s=>if s.head? = some 123 then gh (fq d) s.length [] [] s.tail else match cH (s.takeWhile dn)with
  |none=>none
  |some v=>some (v,s.dropWhile dn)
theorem pz{d:Nat}(ih:∀s x,fq d s=some x->ck d s=some x):∀(f:Nat)(ns:List aR)(vs:List Val)(s:aR)(x:Val×aR),gh (fq d) f ns vs s=some x->eB (ck d) f ns vs s=some x
 |0,_,_,_,_,h=>by cases h
 | f + 1,ns,vs,s,x,h=>by
  rw[gh]at h;rw[eB];split at h
  ·rename_i hh;rw[PS hh];exact h
  ·rename_i hh;rw[if_neg hh];cases hx:gG ns.isEmpty s with
   |none=>rw[hx]at h;cases h
   | some p=>
    obtain⟨n,r1⟩:=p;rw[hx]at h;simp only at h|-;split at h
    ·cases h
    ·cases hv:fq d r1 with
     |none=>rw[hv]at h;cases h
     |some q=>
      obtain⟨w,r2⟩:=q;rw[hv]at h;rw[ih _ _ hv];exact pz ih f _ _ _ _ h
theorem kG:∀(d:Nat)(s:aR)(x:Val×aR),fq d s=some x->ck d s=some x
 |0,_,_,h=>by cases h
 |d+1,s,x,h=>by
  rw[fq]at h;rw[ck];split at h
  ·rename_i hh;rw[PS hh];exact pz (kG d) _ _ _ _ _ h
  ·rename_i hh;rw[if_neg hh];exact h
theorem p9{d e:Nat}(ih:∀s v r,ck d s=some (v,r)->bc e v=true->fq d s=some (v,r)):∀(f:Nat)(ns:List aR)(vs:List Val)(s:aR)(v:Val)(r:aR),eB (ck d) f ns vs s=some (v,r)->v.names.length<=8->(∀x∈v.values,bc e x=true)->gh (fq d) f ns vs s=some (v,r)
 |0,_,_,_,_,_,h=>by cases h
 | f + 1,ns,vs,s,v,r,h=>fun h8 hv=>by
  have hinv:=jH (fU d) (f+1) ns vs s v r h;rw[eB]at h;rw[gh];split at h
  ·rename_i hh;rw[PS hh];exact h
  ·rename_i hh;rw[if_neg hh];cases hx:gG ns.isEmpty s with
   |none=>rw[hx]at h;cases h
   | some p=>
    obtain⟨n,r1⟩:=p;rw[hx]at h;simp only at h|-;cases hw:ck d r1 with
    |none=>rw[hw]at h;cases h
    | some q=>
     obtain⟨w,r2⟩:=q;rw[hw]at h;simp only at h;obtain⟨ns',vs',e1,e2,-⟩:=jH (fU d) f _ _ _ _ _ h;have hn:ns.length<8:=by
      rw[e1]at h8;simp only[Val.names,P0,Qs]at h8;omega
     have hf:bc e w=true:=hv w (by rw[e1];simp[Val.values]);rw[if_neg (by omega),ih _ _ _ hw hf];exact p9 ih f _ _ _ _ _ h h8 hv
theorem yA:∀(d e:Nat)(s:aR)(v:Val)(r:aR),ck d s=some (v,r)->bc e v=true->fq d s=some (v,r)
 |0,_,_,_,_,h=>by cases h
 | d+1,e,s,v,r,h=>fun hf=>by
  rw[ck]at h;rw[fq];split at h
  ·rename_i hh;rw[PS hh];cases e with
   |zero=>cases hf
   |succ e=>
    obtain⟨ns,vs,e1,e2,-⟩:=jH (fU d) _ _ _ _ _ _ h;unfold bc at hf;rw[e1]at hf;rw[if_neg (by simp[Val.kind])]at hf;simp only[PO,P7,PW]at hf;exact p9 (fun s v r h hf=>yA d e s v r h hf) _ _ _ _ _ _ h (by rw[e1];exact hf.1.1.2) (by rw[e1];exact hf.2)
  ·rename_i hh;rw[if_neg hh];exact h
def Bw(t:Ty)(s:aR):Option Val:=match fq 4 s with
 |some x=>if x.2=[]/\fc t x.1=true then some x.1 else none
 |none=>none
def GC(t:Ty)(s:aR):Bw t s=lr t s:=by
 unfold Bw lr;cases h:fq 4 s with
 |some x=>rw[kG 4 s x h]
 | none=>
  cases hv:ck 4 s with
  |none=>rfl
  | some x=>
   obtain⟨v,r⟩:=x;by_cases hc:r=[]/\fc t v=true
   ·have:=yA 4 4 s v r hv (Ck hc.2)
    rw[h]at this;cases this
   ·simp[hc]
def iH:Int->aR->Option Int
 |n,[]=>some n
 |n,c:: l=>if c.toNat<48\/57<c.toNat then none else iH (IntKind.i64.wrap (IntKind.i64.wrap (n*10)-(c.toNat-48:Nat))) l
def uN(s:aR):aR:=if s.head? = some 45 then s.tail else s
def jQ(s:aR)(n:Int):Int:=if s.head? = some 45 then n else IntKind.i64.wrap (0-n)
def ql(s:aR):Option Int:=
 if(uN s).length=0\/19<(uN s).length then none else match iH 0 (uN s)with
  |none=>none
  |some n=>if cI (jQ s n)=s then some (jQ s n)else none
def vX{n:Int}(h0:-9223372036854775808<=n)(h1:n<=9223372036854775807):IntKind.i64.wrap n=n:=by
 rw[IntKind.wrap_i64];omega
theorem tv:∀(l:aR)(n:Int)(c:UInt8),iH n (l++[c])=match iH n l with|none=>none|some m=>iH m [c]
 |[],n,c=>rfl
 |x:: l,n,c=>by
  rw[QC,iH,iH];split
  ·rfl
  ·exact tv l _ c
theorem tw:∀(f u:Nat),u<10 ^ (f+1)->u<=9223372036854775808->iH 0 (fC (f+1) u)=some (-(u:Int))
 | f,u,hu,hb=>by
  rw[show fC (f+1) u=bif decide (u<10)then[UInt8.ofNat (48+u)]else fC f (u / 10)++[UInt8.ofNat (48+u % 10)]from rfl];have one:∀(d:Nat)(m:Int),d<10->-9223372036854775808<=m*10-d->m<=0->iH m [UInt8.ofNat (48+d)]=some (m*10-d):=fun d m hd hm hm0=>by
   have e:(UInt8.ofNat (48+d)).toNat=48+d:=by simp[RY];omega
   rw[iH,e,if_neg (by omega),iH];have e2:((48+d-48:Nat):Int)=d:=by omega
   rw[e2,vX (n:=m*10) (by omega) (by omega),vX (by omega) (by omega)]
  by_cases h10:u<10
  ·rw[PT h10];simp only[PV];rw[one u 0 h10 (by omega) (Re _)];congr 1;omega
  ·rw[PX h10];simp only[P3];cases f with
   |zero=>simp at hu;omega
   |succ f=>
    rw[tv,tw f (u / 10) (by rw[RL]at hu;omega) (by omega)];simp only;rw[one (u % 10) _ (Nat.mod_lt _ (by decide)) (by omega) (by omega)];congr 1;omega
theorem AR:∀(k f u:Nat),u<10 ^ (k+1)->(fC (f+1) u).length<=k+1
 | k,f,u,hu=>by
  rw[show fC (f+1) u=bif decide (u<10)then[UInt8.ofNat (48+u)]else fC f (u / 10)++[UInt8.ofNat (48+u % 10)]from rfl];by_cases h10:u<10
  ·rw[PT h10];simp
  ·rw[PX h10];simp only[P3,P0,Qs];cases k with
   |zero=>simp at hu;omega
   | succ k=>
    cases f with
    |zero=>simp[fC]
    |succ f=>
     have:=AR k f (u / 10) (by rw[RL]at hu;omega)
     omega
def CE{n:Int}(h0:-9223372036854775808<=n)(h1:n<=9223372036854775807):ql (cI n)=some n:=by
 have fin:∀u:Nat,uN (cI n)=fC 20 u->u<=9223372036854775808->jQ (cI n) (-(u:Int))=n->ql (cI n)=some n:=fun u hd hu hs=>by
  have hl:(fC 20 u).length<=19:=AR 18 19 u (by omega);have hne:(fC 20 u).length≠0:=fun h=>qt 19 u (P6 h);have hdn:iH 0 (fC 20 u)=some (-(u:Int)):=tw 19 u (by omega) hu;unfold ql;rw[hd,if_neg (by omega),hdn];simp only[hs,PQ]
 by_cases hn:n<0
 ·have e:cI n=45:: fC 20 n.natAbs:=by unfold cI;rw[PT hn];rfl
  have hh:(cI n).head? = some 45:=by rw[e];rfl
  refine fin n.natAbs ?_ (by omega) ?_
  ·unfold uN;rw[PS hh,e];rfl
  ·unfold jQ;rw[PS hh];omega
 ·have e:cI n=fC 20 n.toNat:=by unfold cI;rw[PX hn];rfl
  have hh:¬(cI n).head? = some 45:=by
   intro h;have hm:(45:UInt8)∈fC 20 n.toNat:=by
    rw[e]at h;cases hl:fC 20 n.toNat with
    |nil=>rw[hl]at h;cases h
    |cons x l=>rw[hl]at h;simp at h;simp[h]
   have:=lL 20 _ _ hm
   exact absurd this.1 (by decide)
  refine fin n.toNat ?_ (by omega) ?_
  ·unfold uN;rw[if_neg hh,e]
  ·unfold jQ;rw[if_neg hh,vX (by omega) (by omega)];omega
theorem pt:∀(l:aR)(n m:Int),(-9223372036854775808<=n/\n<=9223372036854775807)->iH n l=some m->-9223372036854775808<=m/\m<=9223372036854775807
 |[],n,m,hn,h=>by cases h;exact hn
 |c:: l,n,m,hn,h=>by
  rw[iH]at h;split at h
  ·cases h
  ·exact pt l _ m (by rw[IntKind.wrap_i64];omega) h
def Bl{s:aR}(h1:s≠jZ)(h2:s≠gQ):cH s=(ql s).map fun n=>Val.mk 0 n [] []:=by
 cases h:ql s with
 | some n=>
  have hb:cI n=s/\-9223372036854775808<=n/\n<=9223372036854775807:=by
   unfold ql at h;split at h
   ·cases h
   ·split at h
    ·cases h
    ·rename_i m hm;have hmb:=pt _ 0 m ⟨by decide,by decide⟩ hm;split at h
     ·rename_i he;simp only[PN]at h;rw[h]at he;refine⟨he,?_⟩;rw[<- h];unfold jQ;split
      ·exact hmb
      ·rw[IntKind.wrap_i64];omega
     ·cases h
  rw[Q3,<- hb.1];exact yi hb.2.1 hb.2.2
 | none=>
  rw[Option.map_none];unfold cH;rw[if_neg h1,if_neg h2];split
  ·rename_i n hn;split
   ·rename_i he;have hr:=Lib.atoiAll_bounds hn
    have:=CE hr.1 hr.2
    rw[he,h]at this;cases this
   ·rfl
  ·rfl
theorem oG{α β:Type}{F:α->β->Bool}{a:α}{b:β}:∀ {l:List α} {r:List β},cS F l r=true->F a b=true->cS F (l++[a]) (r++[b])=true
 |[],[],_,h=>by simp[cS,h]
 |x:: l,y:: r,h1,h=>by
  simp only[cS,PO]at h1;simp only[QC,cS,PO];exact⟨h1.1,oG h1.2 h⟩
 |[],_:: _,h,_=>by simp[cS]at h
 |_:: _,[],h,_=>by simp[cS]at h
theorem tb{α β:Type}{F:α->β->Bool}:∀ {l:List α} {r:List β},cS F l r=true->l.length=r.length
 |[],[],_=>rfl
 |x:: l,y:: r,h=>by
  simp only[cS,PO]at h;simp[tb h.2]
 |[],_:: _,h=>by simp[cS]at h
 |_:: _,[],h=>by simp[cS]at h
theorem rK{fr:List cE}{vars:List Val}:∀ {B A:List cE} {acc l:List Val},dG fr vars B acc=some l->cS (fun f v=>fc f.2 v) A acc=true->cS (fun f v=>fc f.2 v) (A++B) l=true
 |[],A,acc,l,h,ha=>by
  simp only[dG,PN]at h;subst h;rw[Qq];exact ha
 | f:: B,A,acc,l,h,ha=>by
  rw[dG]at h;split at h
  ·cases h
  ·rename_i hc;rw[not_or,R5]at hc
   have:=rK (A:=A++[f]) h (oG ha hc.2)
   simpa using this
theorem rX{ns:List aR}{vars:List Val}:∀ {B:List cE} {es:List Exp} {A:List cE} {acc l:List Val},es.length=B.length->dH ns vars B es acc= .ok l->cS (fun f v=>fc f.2 v) A acc=true->cS (fun f v=>fc f.2 v) (A++B) l=true
 |[],[],A,acc,l,_,h,ha=>by
  simp only[dH,SY]at h;subst h;rw[Qq];exact ha
 | f:: B,e:: es,A,acc,l,hl,h,ha=>by
  rw[dH]at h;split at h
  ·cases h
  ·split at h
   ·rename_i hx
    have:=rX (A:=A++[f]) (by simpa using hl) h (oG ha hx)
    simpa using this
   ·cases h
 |[],_:: _,_,_,_,hl,_,_=>by simp at hl
 |_:: _,[],_,_,_,hl,_,_=>by simp at hl
def nW{l:List cE}{vs:List Val}(h:cS (fun f v=>fc f.2 v) l vs=true):dX l vs=true:=by
 simp only[dX,PO,PW];exact⟨tb h,h⟩
def lQ{F:cE->cE->Bool}{old now:Mod}{vars l:List Val}(h:dV F old now vars= .ok l):dX old.vars vars=true/\dX now.vars l=true:=by
 unfold dV at h;split at h
 ·cases h
 ·rename_i hm;rw[R5]at hm;refine⟨hm,?_⟩;split at h
  ·cases hk:dG old.vars vars now.vars []with
   |none=>rw[hk]at h;cases h
   |some l'=>
    rw[hk]at h;simp only[jL,SY]at h;subst h;exact nW (by have:=rK (A:=[]) hk rfl;simpa using this)
  ·split at h
   ·cases h
   ·rename_i hl;rw[R5]at hl;simp only[fZ,PO,PW]at hl;exact nW (by have:=rX (A:=[]) hl.1.1 h rfl;simpa using this)
def qS{F:cE->cE->Bool}{old now:Mod}{vars l:List Val}(h:iG F old now vars= .ok l):dX now.vars vars=true/\dX old.vars l=true:=by
 unfold iG at h;split at h
 ·cases h
 ·rename_i hm;rw[R5]at hm;refine⟨hm,?_⟩;split at h
  ·cases hk:dG now.vars vars old.vars []with
   |none=>rw[hk]at h;cases h
   |some l'=>
    rw[hk]at h;simp only[jL,SY]at h;subst h;exact nW (by have:=rK (A:=[]) hk rfl;simpa using this)
  ·split at h
   ·cases h
   ·rename_i hl;rw[R5]at hl;simp only[fZ,PO,PW]at hl;exact nW (by have:=rX (A:=[]) hl.1.2 h rfl;simpa using this)
mutual
def Iz:Exp->Nat
 |.mk _ _ _ _ _ es=>1+yp es
def yp:List Exp->Nat
 |[]=>0
 |e:: es=>Iz e+yp es
end
def LG(e:Exp):Iz e=1+yp e.args:=by cases e;rfl
end Go.Av.Ap
