/- The abstract evaluator of the model and plain laws, part 4: its soundness holds for every program whose table of types is the evaluator's. No further condition. -/
import Derived.Test.YtpmcemjkdkbicaaGreatDoorLc
set_option linter.defProp false
set_option linter.unusedSimpArgs false
set_option linter.unusedVariables false
namespace Go.Av.Ap
open Go Go.Av
def qf{T:TT}{t:Nat}{ti:TI}(ht:T t=some ti)(ha:ti.agg=false){h:Hp}{l k:Nat}{cs:List AV}{v:AV}(h0:h[l]? = some cs)(h1:cs[k]? = some v):cT T t (.hp l k) h= .ok v h:=by
 simp[cT,ht,h0,ha,h1]
def nv{T:TT}{t:Nat}{ti:TI}(ht:T t=some ti){h:Hp}{l k:Nat}{cs:List AV}{v:AV}(h0:h[l]? = some cs)(hv:bO ti.size v=true)(hle:k+ti.size<=cs.length)(hp:0<ti.size):
  dI T t (.hp l k) v h= .ok (.tup []) (h.set l (setCells cs k (ab v))):=by
 simp[dI,ht,h0,hv,hle,hp]
def zy{T:TT}{t e:Nat}{ti ei:TI}(ht:T t=some ti)(hk:ti.kind= .slice e)(he:T e=some ei){x:AV}(hx:bO ei.size x=true)(hb:0<ei.bytes)(hs:0<ei.size)(hc:ei.bytes<=140737488355328)(h:Hp):
  appH T t false .hn (.sl [x]) h= .ok (.hs h.length 0 1 ei.size ei.agg) (h++[ab x]):=by
 have:bQ ei.size [x]=true:=by simp[bQ,hx]
 simp[appH,ht,hk,he,fb,this,hb,hs,iO,hc]
def zA{T:TT}{t e:Nat}{ti ei:TI}(ht:T t=some ti)(hk:ti.kind= .slice e)(he:T e=some ei){x:AV}(hx:bO ei.size x=true)(hb:0<ei.bytes)(hs:0<ei.size){h:Hp}{q n:Nat}{cs:List AV}(h0:h[q]? = some cs)(hok:cs.all aW=true)(hl:cs.length=n*ei.size)(hn:0<n)(hc:(n+1)*ei.bytes<=140737488355328):appH T t false (.hs q 0 n ei.size ei.agg) (.sl [x]) h= .ok (.hs h.length 0 (n+1) ei.size ei.agg) ((h.set q [])++[cs++ab x]):=by
 have h1:bQ ei.size [x]=true:=by simp[bQ,hx]
 have h2:List.all cs aW=true:=hok;have h3:0<n*ei.size:=Ek hn hs;have h4:cs.take (n*ei.size)=cs:=by rw[<- hl];exact List.take_length
 simp only[appH,ht,hk,he,fb,h1,hb,hs,iO,h0,h2,hl,D6,Bool.and_self,CH,D5,List.length_singleton,List.isEmpty_cons,CK,El,List.flatMap_nil,EN,h3,h4,CN];rw[ER hc];simp
abbrev rn(e:Exp):Bool:=bw 12 e
def oT:List bz->List c6->Bool
 |_,[]=>true
 |seen,f:: l=>!(seen.contains f.1)&&bB f.1&&eW f.2&&oT (seen++[f.1]) l
def de(l:List c6)(most:Int):Bool:=oT [] l&&decide ((l.length:Int)<=most)
def p9(f:Fun):Bool:=bB f.name&&de f.params 6&&eW f.result&&rn f.body&&(gz f.effects 15== 0)
def iB:List bz->List Fun->Bool
 |_,[]=>true
 |seen,f:: l=>!(seen.contains f.name)&&p9 f&&iB (seen++[f.name]) l
def su:List bz->List bz->Bool
 |_,[]=>true
 |seen,s:: l=>!(seen.contains s)&&bB s&&su (seen++[s]) l
def lq(m:Mod):Bool:=bB m.name&&decide (m.uses.length<=12)&&decide (m.funcs.length<=30)&&de m.vars 8&&(m.init.all rn&&((m.init.length:Int)== m.vars.length))&&(m.moves||decide (m.old.length=0)) &&
 (de m.old 8&&(m.forward.all rn&&((m.forward.length:Int)== (if m.moves=true then(m.vars.length:Int)else 0)))&&(m.back.all rn&&((m.back.length:Int)== m.old.length)))
def dW(m:Mod):Bool:=su [] m.uses&&(iB [] m.funcs&&lq m)
theorem iC:(l:List c6)->(seen:List bz)->oT seen l=true->(∀f∈l,bB f.1=true/\eW f.2=true/\f.1 ∉ seen)/\(l.map (·.1)).Nodup
 |[],seen,_=>⟨fun f h=>(by cases h),List.nodup_nil⟩
 | f:: l,seen,h=>by
  simp only[oT,CI,Dq]at h;obtain⟨⟨⟨h1,h2⟩,h3⟩,h4⟩:=h;obtain⟨i1,i2⟩:=iC l _ h4;have h1':f.1 ∉ seen:=fun hm=>by rw[List.contains_iff_mem.2 hm]at h1;cases h1
  refine⟨fun g hg=>?_,?_⟩
  ·rcases C8.1 hg with rfl|hg
   ·exact⟨h2,h3,h1'⟩
   ·obtain⟨j1,j2,j3⟩:=i1 g hg;exact⟨j1,j2,fun hm=>j3 (EM _ hm)⟩
  ·rw[Dp,Ev];refine⟨fun hm=>?_,i2⟩;obtain⟨g,hg,e⟩:=D2.1 hm;exact (i1 g hg).2.2 (EH _ (by rw[e];simp))
theorem jk:(l:List Fun)->(seen:List bz)->iB seen l=true->(∀f∈l,p9 f=true/\f.name ∉ seen)/\(l.map (·.name)).Nodup
 |[],seen,_=>⟨fun f h=>(by cases h),List.nodup_nil⟩
 | f:: l,seen,h=>by
  simp only[iB,CI,Dq]at h;obtain⟨⟨h1,h2⟩,h4⟩:=h;obtain⟨i1,i2⟩:=jk l _ h4;have h1':f.name ∉ seen:=fun hm=>by rw[List.contains_iff_mem.2 hm]at h1;cases h1
  refine⟨fun g hg=>?_,?_⟩
  ·rcases C8.1 hg with rfl|hg
   ·exact⟨h2,h1'⟩
   ·obtain⟨j1,j3⟩:=i1 g hg;exact⟨j1,fun hm=>j3 (EM _ hm)⟩
  ·rw[Dp,Ev];refine⟨fun hm=>?_,i2⟩;obtain⟨g,hg,e⟩:=D2.1 hm;exact (i1 g hg).2 (EH _ (by rw[e];simp))
structure FunOk (f:Fun):Prop where
 name:bB f.name=true
 plen:f.params.length<=6
 pars:∀z∈f.params,eW z.2=true
 pnames:(f.params.map (·.1)).Nodup
 res:eW f.result=true
 body:bw 12 f.body=true
 eff:gz f.effects 15=0
def xS{f:Fun}(h:p9 f=true):FunOk f:=by
 unfold p9 de at h;simp only[CI,CO,Ei]at h;obtain⟨⟨⟨⟨h1,h2,h3⟩,h4⟩,h5⟩,h6⟩:=h;obtain⟨i1,i2⟩:=iC _ _ h2;exact⟨h1,by omega,fun z hz=>(i1 z hz).2.1,i2,h4,h5,h6⟩
structure ModOk (m:Mod):Prop where
 name:bB m.name=true
 ulen:m.uses.length<=12
 flen:m.funcs.length<=30
 fns:∀f∈m.funcs,FunOk f
 fnames:(m.funcs.map (·.name)).Nodup
 vlen:m.vars.length<=8
 vars:∀z∈m.vars,eW z.2=true
 vnames:(m.vars.map (·.1)).Nodup
 ilen:m.init.length=m.vars.length
 init:∀e∈m.init,bw 12 e=true
 olen:m.old.length<=8
 old:∀z∈m.old,eW z.2=true
 wlen:m.moves=true->m.forward.length=m.vars.length
 forw:∀e∈m.forward,bw 12 e=true
 blen:m.back.length=m.old.length
 back:∀e∈m.back,bw 12 e=true
def tS{m:Mod}(h:dW m=true):ModOk m:=by
 unfold dW lq de at h;simp only[CI,CO,Ei,CY,DF]at h;obtain⟨h1,h2,⟨⟨⟨⟨⟨h3,h4⟩,h5⟩,h6,h7⟩,h8,h9⟩,h10⟩,⟨⟨h11,h12⟩,h13,h14⟩,h15,h16⟩:=h;obtain⟨f1,f2⟩:=jk _ _ h2;obtain⟨v1,v2⟩:=iC _ _ h6;obtain⟨o1,_⟩:=iC _ _ h11;exact⟨h3,h4,h5,fun f hf=>xS (f1 f hf).1,f2,by omega,fun z hz=>(v1 z hz).2.1,v2,by omega,h8,by omega,fun z hz=>(o1 z hz).2.1,fun hm=>by rw[CJ hm]at h14;omega,h13,by omega,h15⟩
def mP(a b:Int):Int:=IntKind.i64.wrap (BitVec.ofInt 64 a &&& BitVec.ofInt 64 b).toNat
def di(m:Mod)(f:Fun)(nm:bz):Mod:=⟨nm,[],m.vars,m.init,[f],false,[],[],[]⟩
theorem nM{m:Mod}{f:Fun}{nm:bz}(h:dW m=true)(hf:f∈m.funcs)(hn:bB nm=true):dW (di m f nm)=true:=by
 unfold dW at h|-;simp only[CI]at h;obtain⟨_,h2,h3⟩:=h;have hfo:=((jk _ _ h2).1 f hf).1;unfold lq at h3 |-;simp only[CI]at h3;obtain⟨⟨⟨⟨⟨_,_⟩,_⟩,h5⟩,h6⟩,_⟩:=h3.1;have r0:de [] 8=true:=rfl;have e1:su [] (di m f nm).uses=true:=rfl;have e2:iB [] (di m f nm).funcs=true:=by
  show (!(([]:List bz).contains f.name)&&p9 f&&true)=true;simp[hfo]
 rw[e1,e2];simp[di,hn,h5,h6,r0]
def fE(c:List Ins):Prop:=∀i∈c,i.names.length<=1000000
def d9{i:Ins}{c:eX}(hi:i.names.length<=1000000)(h:fE c.1):fE (dw i c).1:=by
 intro x hx;rcases Da.1 hx with hx|hx
 ·exact h x hx
 ·rw[D1]at hx;subst hx;exact hi
def ru{c:List Ins}(h:fE c)(k:Nat)(n:Int):fE (iK c k n):=by
 intro x hx;unfold iK at hx;rcases CW k c.length with hk|hk
 ·rcases List.mem_or_eq_of_mem_set hx with hx|rfl
  ·exact h x hx
  ·rw[Dc c k hk];exact h c[k] (C3 hk)
 ·rw[List.set_eq_of_length_le hk]at hx;exact h x hx
def i6{em:Exp->eX->eX}{yes no:Exp}(h1:∀c,fE c.1->fE (em yes c).1)(h2:∀c,fE c.1->fE (em no c).1)(c:eX)(h:fE c.1):fE (eE em yes no c).1:=by
 unfold eE;exact ru (h2 _ (ru (d9 (C9 _) (h1 _ (d9 (C9 _) h))) _ _)) _ _
theorem qU(em:Exp->eX->eX):∀(l:List Exp),(∀x∈l,∀c,fE c.1->fE (em x c).1)->∀c:eX,fE c.1->fE (l.foldl (fun c x=>em x c) c).1
 |[],_,c,h=>h
 |x:: l,ha,c,h=>qU em l (fun y hy=>ha y (by simp[hy])) (em x c) (ha x (by simp) c h)
def t7(vars:List c6){e:Exp}(h:e.op=13->e.names.length<=1000000):(jm vars e).names.length<=1000000:=by
 unfold jm
 repeat' split
 all_goals first
  |exact C9 _
  |exact h (by assumption)
theorem qQ(vars:List c6):∀(n:Nat)(e:Exp),bw n e=true->∀names (c:eX),fE c.1->fE (bm vars n e names c).1
 |0,e,h,names,c,hc=>by simp[bw]at h
 | n+1,e,h,names,c,hc=>by
  have hs:dZ e=true:=by rw[dv,CI]at h;exact h.1
  have hcs:=ff hs;have h8:=sN hs;have ih:=fun(x:Exp) (hx:bw n x=true) (nm:List bz) (c:eX) (hc:fE c.1)=>qQ vars n x hx nm c hc;have htr:∀t (c:eX),fE c.1->fE (bm vars n (fU t) names c).1:=fun t c hc=>by
   cases n with
   |zero=>exact hc
   |succ m=>rw[ky];exact d9 (C9 _) hc
  unfold bm;split
  ·exact d9 (C9 _) hc
  split
  ·exact d9 (C9 _) hc
  split
  ·exact d9 (C9 _) hc
  split
  ·exact d9 (C9 _) hc
  split
  ·exact i6 (em:=fun x=>bm vars n x names) (ih _ (bU h (k:=1) (by omega)) names) (htr 0) _ (ih _ (bU h (k:=0) (by omega)) names c hc)
  split
  ·exact i6 (em:=fun x=>bm vars n x names) (htr 1) (ih _ (bU h (k:=1) (by omega)) names) _ (ih _ (bU h (k:=0) (by omega)) names c hc)
  split
  ·exact i6 (em:=fun x=>bm vars n x names) (ih _ (bU h (k:=1) (by omega)) names) (ih _ (bU h (k:=2) (by omega)) names) _ (ih _ (bU h (k:=0) (by omega)) names c hc)
  split
  ·exact ih _ (bU h (k:=1) (by omega)) _ _ (d9 (C9 _) (ih _ (bU h (k:=0) (by omega)) names c hc))
  ·refine d9 (t7 vars fun h13=>?_) (qU (fun x=>bm vars n x names) e.args (fun x hx=>ih x (dU h hx) names) c hc);rcases hcs with hc|hc|hc|hc|hc|hc|hc|hc|⟨_,k2,_⟩|hc|hc|hc|hc|hc<;>omega
def s8{vars:List c6}{f:Fun}(F:FunOk f):(cL vars f).code.length<=1000000000000/\∀i∈(cL vars f).code,i.names.length<=1000000:=by
 constructor
 ·have:=(bc vars 12 f.body F.body (f.params.map (·.1)) ([],f.params.length)).2
  have hcap:fm 12<=99000000000:=by simp[fm]
  show (dw (bi 18 0) (bm vars 12 f.body (f.params.map (·.1)) ([],f.params.length))).1.length<=_;rw[cu];simp only[Dk]at this;omega
 ·exact d9 (C9 _) (qQ vars 12 f.body F.body _ _ (fun i hi=>by cases hi))
def sO(a:Int)(n:Nat)(hn:0<n):0<=(mP a 4611686018427387903).tmod n/\(mP a 4611686018427387903).tmod n<n:=by
 have hle:(BitVec.ofInt 64 a &&& BitVec.ofInt 64 4611686018427387903).toNat<=4611686018427387903:=by
  rw[BitVec.toNat_and];exact Ep Nat.and_le_right (by decide)
 have e:mP a 4611686018427387903=((BitVec.ofInt 64 a &&& BitVec.ofInt 64 4611686018427387903).toNat:Int):=by
  unfold mP;exact IntWalk.i64_in _ ⟨by omega,by omega⟩
 rw[e];generalize (BitVec.ofInt 64 a &&& BitVec.ofInt 64 4611686018427387903).toNat=x;rw[Int.tmod_eq_emod_of_nonneg (by omega)];exact⟨Int.emod_nonneg _ (by omega),Int.emod_lt_of_pos _ (by omega)⟩
def jS{T:TT}{t e:Nat}{ti ei:TI}(ht:T t=some ti)(hk:ti.kind= .slice e)(he:T e=some ei)(es:List AV)(hok:bQ ei.size es=true){a b:Int}(h0:0<=a)(h1:a<=b)(h2:b<=es.length):d4 T t (.sl es) (some (.int .i64 a)) (some (.int .i64 b)) none=some (.sl ((es.take b.toNat).drop a.toNat)):=by
 unfold d4;rw[ht];have h3:0<=b:=by omega
 have h4:a<=max b 0:=by omega
 simp[hk,he,bV,h0,h2,h3,h4,hok]
end Go.Av.Ap
