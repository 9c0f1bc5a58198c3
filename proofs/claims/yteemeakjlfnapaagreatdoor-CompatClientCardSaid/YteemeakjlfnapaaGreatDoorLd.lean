/- The abstract evaluator of the model and plain laws, part 4: its soundness holds for every program whose table of types is the evaluator's. No further condition. -/
import Derived.Test.YteemeakjlfnapaaGreatDoorLc
import Derived.Sort.AssemblyPlain
import Derived.Sort.MapsRangeIn
import Derived.Maps.OwnIn
import Derived.RangeFuncSeq
set_option linter.defProp false
set_option linter.unusedSimpArgs false
set_option linter.unusedVariables false
namespace Go.Av.Ap
open Go Go.Av
def dP(e:Exp):Exp×Int:=
 if e.op=0\/e.op=1 then(.mk e.op e.n [] [] [] e.args,0)
 else if e.op=2\/e.op=17 then(.mk e.op 0 e.s [] [] e.args,0)
 else if e.op=18\/e.op=14 then(.mk e.op 0 e.s [] [] e.args,1)
 else if e.op=16 then(.mk e.op e.n [] [] [] e.args,1)
 else if e.op=10 then(.mk e.op 0 [] [] [] e.args,1)
 else if e.op=12 then(.mk e.op 0 e.s [] [] e.args,2)
 else if e.op=11 then(.mk e.op 0 [] [] [] e.args,3)
 else if e.op=13 then(.mk e.op 0 [] [] e.names e.args,e.names.length)
 else if e.op=15 then(.mk e.op 0 e.s e.m [] e.args,-1)
 else(.mk e.op 0 [] [] [] e.args,2)
def m8(l:List bn):Bool:=(l.all bE&&f5 df l)&&decide (l.length<=8)
def dV(e:Exp):Bool:=
 if e.op=0 then decide (0<=e.n)&&decide (e.n<=1099511627776)
 else if e.op=1 then e.n== 0||e.n== 1
 else if e.op=16 then((e.n== 1||e.n== 2)||e.n== 4)||e.n== 8
 else if e.op=2\/e.op=17\/e.op=18\/e.op=14\/e.op=12 then bE e.s
 else if e.op=15 then bE e.s&&(e.m== []||bE e.m)&&decide (e.args.length<=6)
 else if e.op=13 then m8 e.names
 else true
def jt(e:Exp):Bool:=
 decide (0<=e.op)&&decide (e.op<19)&&(decide ((dP e).2<0)||((dP e).2== (e.args.length:Int)))&&((dP e).1.n== e.n)&&((dP e).1.s== e.s)&&((dP e).1.m== e.m)&&(((dP e).1.names.length:Int)== (e.names.length:Int))&&dV e
def bQ:Nat->Exp->Bool
 |0,_=>false
 |d+1,e=>jt e&&e.args.all (bQ d)
theorem dC(d:Nat)(e:Exp):bQ (d+1) e=(jt e&&e.args.all (bQ d)):=rfl
def kU(a b:Int):Int:=IntKind.i64.wrap (BitVec.ofInt 64 a ||| BitVec.ofInt 64 b).toNat
mutual
def qu:Ty->Ty->Option Ty
 |.mk k fs,b=>if k=b.kind then some (.mk k (jw fs b.fields))else none
def jw:List (bn×Ty)->List bN->List bN
 |[],_=>[]
 |f:: fs,l=>(match CW f l with|some x=>[x]|none=>[])++jw fs l
def CW:bn×Ty->List bN->Option bN
 |(n,t),l=>match bz (fun z=>z.1== n) l with
  |some z=>(match qu t z.2 with|some u=>some (n,u)|none=>none)
  |none=>none
end
def gY(k:Int)(l:List Ty):Bool:=l.all fun t=>t.kind== k
def bZ(e:Exp)(l:List Ty):Option Ty:=
 if e.op=3\/e.op=4\/e.op=5\/e.op=16 then(if gY 0 l=true then some (.mk 0 [])else none)
 else if e.op=1 then some (.mk 1 [])
 else if e.op=6 then(if gY 0 l=true then some (.mk 1 [])else none)
 else if e.op=7 then(if(gY 0 l||gY 1 l)=true then some (.mk 1 [])else none)
 else if e.op=8\/e.op=9\/e.op=10 then(if gY 1 l=true then some (.mk 1 [])else none)
 else if e.op=11 then(match qu l[1]! l[2]! with|some t=>if l[0]!.kind=1 then some t else none|none=>none)
 else if e.op=13 then some (.mk 2 (e.names.zip l))
 else if e.op=14 then(match bz (fun z=>z.1== e.s) l[0]!.fields with|some z=>some z.2|none=>none)
 else some (.mk 0 [])
inductive Tr (α:Type) where
 |ok (a:α) (n:Int)
 |er (e n:Int)
abbrev dE(α:Type):=Int->Tr α
def dE.ok{α:Type}(a:α):dE α:=fun n=>.ok a n
def dE.er{α:Type}(e:Int):dE α:=fun n=>.er e n
def dE.bind{α β:Type}(x:dE α)(f:α->dE β):dE β:=fun n=>match x n with
 |.ok a n'=>f a n'
 |.er e n'=>.er e n'
structure Tcx where
 vars:List bN
 funcs:List Fun
 uses:List bn
 faces:bn->Option Face
def cO(c:Tcx)(e:Exp):Option (List Ty×Ty×Int):=
 if e.m=[]then(match c.funcs.find? fun f=>f.name== e.s with
  |some f=>some (f.params.map (·.2),f.result,f.effects)
  |none=>none)
 else match c.faces e.m with
  |none=>none
  |some f=>match f.funcs.find? (fun s=>s.name== e.s)with
   |none=>none
   |some s=>if e.m∈c.uses then some (s.params,s.result,s.effects)else none
def cZ(r:Exp->dE Ty):List Exp->dE (List Ty)
 |[]=>.ok []
 |e:: es=>.bind (r e) fun t=>.bind (cZ r es) fun ts=>.ok (t:: ts)
def cH(c:Tcx)(r:List bN->Exp->dE Ty)(ls:List bN)(e:Exp):dE Ty:=
 if e.op=2 then(match bz (fun z=>z.1== e.s) ls with|some z=>.ok z.2|none=>.er 12)
 else if e.op=12 then .bind (r ls e.args[0]!) fun t=>r (ls++[(e.s,t)]) e.args[1]!
 else if e.op=17\/e.op=18 then(match bz (fun z=>z.1== e.s) c.vars with
  |none=>.er 12
  |some z=>if e.op=18 then .bind (r ls e.args[0]!) fun u=>if bu u z.2=true then .ok z.2 else .er 13 else .ok z.2)
 else if e.op=15 then(match cO c e with
  |none=>.er 12
  |some s=>if s.1.length=e.args.length then .bind (cZ (r ls) e.args) fun l=>if fA bu l s.1=true then fun n=>.ok s.2.1 (kU n s.2.2)else .er 13 else .er 13)
 else .bind (cZ (r ls) e.args) fun l n=>match bZ e l with
  |some t=>.ok t (if e.op=16 then kU n e.n else n)
  |none=>.er 13 (if e.op=16 then kU n e.n else n)
def bh(c:Tcx):Nat->List bN->Exp->dE Ty
 |0=>fun _ _=>.er 16
 |d+1=>cH c (bh c d)
def Ai:Tcx:=⟨[],[],[],fun _=>none⟩
def iD(ls:List bN)(e:Exp)(want:Ty):Int:=match bh Ai 12 ls e 0 with
 |.er b _=>b
 |.ok t n=>if n≠0 then 14 else if bu t want=true then 0 else 13
def bo:List (bn×Int)->bn×Int
 |[]=>([],0)
 |x:: l=>if x.2=0 then bo l else x
def eD(ls:List bN)(vs:List bN)(es:List Exp):List (bn×Int):=(vs.zip es).map fun x=>(x.1.1,iD ls x.2 x.1.2)
def iw(m:Mod):bn×Int:=bo (eD [] m.vars m.init++if m.moves=true then eD m.old m.vars m.forward++eD m.vars m.old m.back else[])
def sZ(c:Tcx)(f:Fun):Int:=match bh c 12 f.params f.body 0 with
 |.er b _=>b
 |.ok t n=>if bu t f.result=true then(if ca n f.effects=0 then 0 else 14)else 13
def eN(f:Face):Bool:=f.funcs.all fun s=>aX s.result&&s.params.all aX
def vU{α:Type}(x:dE α):Prop:=∀n b n',x n= .er b n'->b≠0
def rE{α:Type}(a:α):vU (.ok a):=fun n b n' h=>by cases h
def m9{α:Type}{e:Int}(h:e≠0):vU (α:=α) (.er e):=fun n b n' h'=>by cases h';exact h
def iM{α β:Type}{x:dE α}{f:α->dE β}(hx:vU x)(hf:∀a,vU (f a)):vU (.bind x f):=fun n b n' h=>by
 unfold dE.bind at h;split at h
 ·exact hf _ _ _ _ h
 ·rename_i e' m hm;cases h;exact hx _ _ _ hm
def ix{α:Type}{c:Prop}[Decidable c]{x y:dE α}(h1:vU x)(h2:vU y):vU (if c then x else y):=by
 split
 ·exact h1
 ·exact h2
theorem jY{r:Exp->dE Ty}(h:∀e,vU (r e)):∀l,vU (cZ r l)
 |[]=>rE _
 |e:: l=>iM (h e) fun _=>iM (jY h l) fun _=>rE _
theorem fB(c:Tcx):∀(d:Nat)(ls:List bN)(e:Exp),vU (bh c d ls e)
 |0,_,_=>m9 (by decide)
 | d+1,ls,e=>by
  have H:=fB c d;show vU (cH c (bh c d) ls e);unfold cH;refine ix ?_ (ix ?_ (ix ?_ (ix ?_ ?_)))
  ·split
   ·exact rE _
   ·exact m9 (by decide)
  ·exact iM (H _ _) fun _=>H _ _
  ·split
   ·exact m9 (by decide)
   ·exact ix (iM (H _ _) fun _=>ix (rE _) (m9 (by decide))) (rE _)
  ·split
   ·exact m9 (by decide)
   ·exact ix (iM (jY (H _) _) fun _=>ix (fun n b n' h=>by cases h) (m9 (by decide))) (m9 (by decide))
  ·refine iM (jY (H _) _) fun l n b n' h=>?_;split at h
   ·cases h
   ·cases h;decide
def tB{c:Tcx}{r:List bN->Exp->dE Ty}{ls:List bN}{e:Exp}(h:e.op=12):cH c r ls e= .bind (r ls e.args[0]!) fun t=>r (ls++[(e.s,t)]) e.args[1]!:=by
 unfold cH;rw[if_neg (by omega),GR h]
def tC{c:Tcx}{r:List bN->Exp->dE Ty}{ls:List bN}{e:Exp}(h:e.op=2):cH c r ls e=(match bz (fun z=>z.1== e.s) ls with|some z=>.ok z.2|none=>.er 12):=by
 unfold cH;rw[GR h]
theorem tA{c:Tcx}{r:List bN->Exp->dE Ty}{ls:List bN}{e:Exp}(h:e.op=17\/e.op=18):cH c r ls e=(match bz (fun z=>z.1== e.s) c.vars with
  |none=>.er 12
  |some z=>if e.op=18 then .bind (r ls e.args[0]!) fun u=>if bu u z.2=true then .ok z.2 else .er 13 else .ok z.2):=by
 unfold cH;rw[if_neg (by omega),if_neg (by omega),GR h]
theorem lN{c:Tcx}{r:List bN->Exp->dE Ty}{ls:List bN}{e:Exp}(h:e.op=15):cH c r ls e=(match cO c e with
  |none=>.er 12
  |some s=>if s.1.length=e.args.length then .bind (cZ (r ls) e.args) fun l=>if fA bu l s.1=true then fun n=>.ok s.2.1 (kU n s.2.2)else .er 13 else .er 13):=by
 unfold cH;rw[if_neg (by omega),if_neg (by omega),if_neg (by omega),GR h]
def lL(e:Exp)(l:List Ty):dE Ty:=fun n=>match bZ e l with
 |some t=>.ok t (if e.op=16 then kU n e.n else n)
 |none=>.er 13 (if e.op=16 then kU n e.n else n)
def jq{e:Exp}{l:List Ty}{t:Ty}(h:bZ e l=some t)(n:Int):lL e l n= .ok t (if e.op=16 then kU n e.n else n):=by
 unfold lL;rw[h]
def nn{e:Exp}{l:List Ty}(h:bZ e l=none)(n:Int):lL e l n= .er 13 (if e.op=16 then kU n e.n else n):=by
 unfold lL;rw[h]
def lO{c:Tcx}{r:List bN->Exp->dE Ty}{ls:List bN}{e:Exp}(h1:¬e.op=2)(h2:¬e.op=12)(h3:¬(e.op=17\/e.op=18))(h4:¬e.op=15):cH c r ls e= .bind (cZ (r ls) e.args) (lL e):=by
 unfold cH;rw[if_neg h1,if_neg h2,if_neg h3,if_neg h4];rfl
abbrev ut(e:Exp):Bool:=bQ 12 e
def nS:List bn->List bN->Bool
 |_,[]=>true
 |seen,f:: l=>!(seen.contains f.1)&&bE f.1&&aX f.2&&nS (seen++[f.1]) l
def dM(l:List bN)(most:Int):Bool:=nS [] l&&decide ((l.length:Int)<=most)
def q6(f:Fun):Bool:=bE f.name&&dM f.params 6&&aX f.result&&ut f.body&&(ca f.effects 15== 0)
def j9:List bn->List Fun->Bool
 |_,[]=>true
 |seen,f:: l=>!(seen.contains f.name)&&q6 f&&j9 (seen++[f.name]) l
def vK:List bn->List bn->Bool
 |_,[]=>true
 |seen,s:: l=>!(seen.contains s)&&bE s&&vK (seen++[s]) l
def nk(m:Mod):Bool:=bE m.name&&decide (m.uses.length<=12)&&decide (m.funcs.length<=30)&&dM m.vars 8&&(m.init.all ut&&((m.init.length:Int)== m.vars.length))&&(m.moves||decide (m.old.length=0)) &&
 (dM m.old 8&&(m.forward.all ut&&((m.forward.length:Int)== (if m.moves=true then(m.vars.length:Int)else 0)))&&(m.back.all ut&&((m.back.length:Int)== m.old.length)))
def gM(m:Mod):Bool:=vK [] m.uses&&(j9 [] m.funcs&&nk m)
theorem ka:(l:List bN)->(seen:List bn)->nS seen l=true->(∀f∈l,bE f.1=true/\aX f.2=true/\f.1 ∉ seen)/\(l.map (·.1)).Nodup
 |[],seen,_=>⟨fun f h=>(by cases h),List.nodup_nil⟩
 | f:: l,seen,h=>by
  simp only[nS,GO,HC]at h;obtain⟨⟨⟨h1,h2⟩,h3⟩,h4⟩:=h;obtain⟨i1,i2⟩:=ka l _ h4;have h1':f.1 ∉ seen:=fun hm=>by rw[IM.2 hm]at h1;cases h1
  refine⟨fun g hg=>?_,?_⟩
  ·rcases Hg.1 hg with rfl|hg
   ·exact⟨h2,h3,h1'⟩
   ·obtain⟨j1,j2,j3⟩:=i1 g hg;exact⟨j1,j2,fun hm=>j3 (Jd _ hm)⟩
  ·rw[Hs,IZ];refine⟨fun hm=>?_,i2⟩;obtain⟨g,hg,e⟩:=HV.1 hm;exact (i1 g hg).2.2 (IL _ (by rw[e];simp))
theorem oW:(l:List Fun)->(seen:List bn)->j9 seen l=true->(∀f∈l,q6 f=true/\f.name ∉ seen)/\(l.map (·.name)).Nodup
 |[],seen,_=>⟨fun f h=>(by cases h),List.nodup_nil⟩
 | f:: l,seen,h=>by
  simp only[j9,GO,HC]at h;obtain⟨⟨h1,h2⟩,h4⟩:=h;obtain⟨i1,i2⟩:=oW l _ h4;have h1':f.name ∉ seen:=fun hm=>by rw[IM.2 hm]at h1;cases h1
  refine⟨fun g hg=>?_,?_⟩
  ·rcases Hg.1 hg with rfl|hg
   ·exact⟨h2,h1'⟩
   ·obtain⟨j1,j3⟩:=i1 g hg;exact⟨j1,fun hm=>j3 (Jd _ hm)⟩
  ·rw[Hs,IZ];refine⟨fun hm=>?_,i2⟩;obtain⟨g,hg,e⟩:=HV.1 hm;exact (i1 g hg).2 (IL _ (by rw[e];simp))
structure FunOk (f:Fun):Prop where
 name:bE f.name=true
 plen:f.params.length<=6
 pars:∀z∈f.params,aX z.2=true
 pnames:(f.params.map (·.1)).Nodup
 res:aX f.result=true
 body:bQ 12 f.body=true
 eff:ca f.effects 15=0
def Ch{f:Fun}(h:q6 f=true):FunOk f:=by
 unfold q6 dM at h;simp only[GO,G0,Hy]at h;obtain⟨⟨⟨⟨h1,h2,h3⟩,h4⟩,h5⟩,h6⟩:=h;obtain⟨i1,i2⟩:=ka _ _ h2;exact⟨h1,by omega,fun z hz=>(i1 z hz).2.1,i2,h4,h5,h6⟩
structure ModOk (m:Mod):Prop where
 name:bE m.name=true
 ulen:m.uses.length<=12
 flen:m.funcs.length<=30
 fns:∀f∈m.funcs,FunOk f
 fnames:(m.funcs.map (·.name)).Nodup
 vlen:m.vars.length<=8
 vars:∀z∈m.vars,aX z.2=true
 vnames:(m.vars.map (·.1)).Nodup
 ilen:m.init.length=m.vars.length
 init:∀e∈m.init,bQ 12 e=true
 olen:m.old.length<=8
 old:∀z∈m.old,aX z.2=true
 wlen:m.moves=true->m.forward.length=m.vars.length
 forw:∀e∈m.forward,bQ 12 e=true
 blen:m.back.length=m.old.length
 back:∀e∈m.back,bQ 12 e=true
def Cs{m:Mod}(h:gM m=true):ModOk m:=by
 unfold gM nk dM at h;simp only[GO,G0,Hy,GT,HQ]at h;obtain⟨h1,h2,⟨⟨⟨⟨⟨h3,h4⟩,h5⟩,h6,h7⟩,h8,h9⟩,h10⟩,⟨⟨h11,h12⟩,h13,h14⟩,h15,h16⟩:=h;obtain⟨f1,f2⟩:=oW _ _ h2;obtain⟨v1,v2⟩:=ka _ _ h6;obtain⟨o1,_⟩:=ka _ _ h11;exact⟨h3,h4,h5,fun f hf=>Ch (f1 f hf).1,f2,by omega,fun z hz=>(v1 z hz).2.1,v2,by omega,h8,by omega,fun z hz=>(o1 z hz).2.1,fun hm=>by rw[GR hm]at h14;omega,h13,by omega,h15⟩
def jN:Face:=⟨[],[]⟩
def c7(m:Mod)(fs:List Face):Tcx:=⟨m.vars,m.funcs,m.uses,fun s=>fs.find? fun f=>f.module== s⟩
def cD:List Face->List Face->List Face
 |acc,[]=>acc
 |acc,f:: fs=>cD (if(acc.find? fun g=>g.module== f.module).isSome=true then acc else acc++[f]) fs
def vV(m:Mod)(fs:List Face):List (bn×Int):=m.funcs.map fun f=>(f.name,sZ (c7 m fs) f)
def i7(m:Mod)(fs:List Face):List (bn×Int):=m.uses.map fun u=>(u,if(fs.find? fun f=>f.module== u).isNone||u== m.name then 12 else 0)
def ia(m:Mod)(fs:List Face):bn×Int:=if(fs.all eN&&gM m)=true then bo (i7 m (cD [] fs)++iw m:: vV m (cD [] fs))else([],1)
theorem tV:{l:List (bn×Int)} ->(bo l).2=0->∀x∈l,x.2=0
 |[],_,x,hx=>by cases hx
 | y:: l,h,x,hx=>by
  unfold bo at h;split at h
  ·rename_i hy;rcases Hg.1 hx with rfl|hx
   ·exact hy
   ·exact tV h x hx
  ·rename_i hy;exact absurd h hy
end Go.Av.Ap
namespace Go.Av.Ap
open Go Go.Av
abbrev yU:=bn×bn
def rK(r:yU):AV:=.agg [.str r.1,.str r.2]
def rL(l:List yU):AV:=.sl (l.map rK)
def tp(l:List (List yU)):AV:=.sl (l.map rL)
@[simp] theorem Bn(r:yU):ab (rK r)=[.str r.1,.str r.2]:=rfl
@[simp] theorem Eh(r:yU):AV.agg [.str r.1,.str r.2]=rK r:=rfl
@[simp] theorem yh(r:yU):cf 2 (rK r)=true:=rfl
@[simp] theorem Db(l:List yU):cC 2 (l.map rK)=true:=cS yh l
@[simp] theorem B7(g:Nat->Nat->Nat->Nat->Bool->AV)(r:yU):cl g (rK r)=rK r:=rfl
@[simp] theorem zv(g:Nat->Nat->Nat->Nat->Bool->AV)(l:List yU):cl g (rL l)=rL l:=by simp[rL,cl,dH g rK (B7 g)]
@[simp] theorem D2(g:Nat->Nat->Nat->Nat->Bool->AV)(l:List (List yU)):cl g (tp l)=tp l:=by simp[tp,cl,dH g rL (zv g)]
section
variable {V:Type}
end
end Go.Av.Ap
namespace Go.Av.Ap
open Go Go.Av
mutual
def Cw:Exp->List Exp
 |.mk o n s m ns es=>.mk o n s m ns es:: um es
def um:List Exp->List Exp
 |[]=>[]
 |e:: es=>Cw e++um es
end
end Go.Av.Ap
namespace Go.Av
open Go
section
variable {F:Fence} {n:Nat} {P:Program} {w w':World} {ops:Array Oper} {rest:List Oper} {o:Oper} {a:Act} {Q:Exit->Act->World->Prop} {v:Value}
end
end Go.Av
namespace Go.Av.Ap
open Go Go.Av
def jk{T:TT}{t:Nat}{ti:TI}(ht:T t=some ti)(ha:ti.agg=false){h:Hp}{l k:Nat}{cs:List AV}{v:AV}(h0:h[l]? = some cs)(h1:cs[k]? = some v):bi T t (.hp l k) h= .ok v h:=by
 simp[bi,ht,h0,ha,h1]
def ya{T:TT}{t:Nat}{ti:TI}(ht:T t=some ti)(ha:ti.agg=true){h:Hp}{l k:Nat}{cs:List AV}(h0:h[l]? = some cs)(hle:k+ti.size<=cs.length):bi T t (.hp l k) h= .ok (.agg ((cs.drop k).take ti.size)) h:=by
 simp[bi,ht,h0,ha,hle]
def qg{T:TT}{t:Nat}{ti:TI}(ht:T t=some ti){h:Hp}{l k:Nat}{cs:List AV}{v:AV}(h0:h[l]? = some cs)(hv:cf ti.size v=true)(hle:k+ti.size<=cs.length)(hp:0<ti.size):
  bI T t (.hp l k) v h= .ok (.tup []) (h.set l (setCells cs k (ab v))):=by
 simp[bI,ht,h0,hv,hle,hp]
def DO{T:TT}{t e:Nat}{ti ei:TI}(ht:T t=some ti)(hk:ti.kind= .slice e)(he:T e=some ei){x:AV}(hx:cf ei.size x=true)(hb:0<ei.bytes)(hs:0<ei.size)(hc:ei.bytes<=140737488355328)(h:Hp):
  appH T t false .hn (.sl [x]) h= .ok (.hs h.length 0 1 ei.size ei.agg) (h++[ab x]):=by
 have:cC ei.size [x]=true:=by simp[cC,hx]
 simp[appH,ht,hk,he,fw,this,hb,hs,iE,hc]
def DR{T:TT}{t e:Nat}{ti ei:TI}(ht:T t=some ti)(hk:ti.kind= .slice e)(he:T e=some ei){x:AV}(hx:cf ei.size x=true)(hb:0<ei.bytes)(hs:0<ei.size){h:Hp}{q n:Nat}{cs:List AV}(h0:h[q]? = some cs)(hok:cs.all bc=true)(hl:cs.length=n*ei.size)(hn:0<n)(hc:(n+1)*ei.bytes<=140737488355328):appH T t false (.hs q 0 n ei.size ei.agg) (.sl [x]) h= .ok (.hs h.length 0 (n+1) ei.size ei.agg) ((h.set q [])++[cs++ab x]):=by
 have h1:cC ei.size [x]=true:=by simp[cC,hx]
 have h2:List.all cs bc=true:=hok;have h3:0<n*ei.size:=IV hn hs;have h4:cs.take (n*ei.size)=cs:=by rw[<- hl];exact List.take_length
 simp only[appH,ht,hk,he,fw,h1,hb,hs,iE,h0,h2,hl,HF,I6,GP,Iq,List.length_singleton,List.isEmpty_cons,GV,Iz,List.flatMap_nil,I0,h3,h4,GQ];rw[II hc];simp
mutual
def eF:Ty->Exp
 |.mk k fs=>if k=0 then .mk 0 0 [] [] [] []else if k=1 then .mk 1 0 [] [] [] []else .mk 13 0 [] [] (fs.map (·.1)) (uB fs)
def uB:List (bn×Ty)->List Exp
 |[]=>[]
 |f:: fs=>EV f:: uB fs
def EV:bn×Ty->Exp
 |(_,t)=>eF t
end
theorem pe:(fs:List bN)->uB fs=fs.map fun f=>eF f.2
 |[]=>rfl
 |(n,t):: fs=>by simp[uB,EV,pe fs]
def l9(t:Ty):eF t=if t.kind=0 then .mk 0 0 [] [] [] []else if t.kind=1 then .mk 1 0 [] [] [] []else .mk 13 0 [] [] (t.fields.map (·.1)) (t.fields.map fun f=>eF f.2):=by
 cases t with
 |mk k fs=>
  simp only[eF,pe];rfl
def cv:bn:=[99,108,105,101,110,116]
def fP:bn:=[109,97,105,110]
def vE:Mod:=⟨[],[],[],[],[],false,[],[],[]⟩
def ib(old:Face)(f:Sig):Exp:=.mk 15 0 f.name old.module [] (f.params.map eF)
def jG(old:Face)(f:Sig):Fun:=⟨fP,false,[],f.result,f.effects,ib old f⟩
def dw(old:Face)(f:Sig):Mod:=⟨if old.module=cv then fP else cv,[old.module],[],[],[jG old f],false,[],[],[]⟩
end Go.Av.Ap
namespace Go.Av.Ap
def asc:List bn->Bool
 |[]=>true
 |[_]=>true
 |x:: y:: l=>aU x y&&asc (y:: l)
def kZ(b:Bool):Val:=.mk 1 (if b then 1 else 0) [] []
def vJ(n:Int):Val:=.mk 0 n [] []
def EA(p:List Mod)(s:bn):Int:=bY (fun m=>m.name== s) p 0
def Ej(l:List Fun)(s:bn):Int:=bY (fun f=>f.name== s) l 0
def Eg(l:List bN)(s:bn):Int:=bY (fun f=>f.1== s) l 0
structure Ms where
 fuel:Int
 frames:Int
 world:List Int
 deeds:List Deed
 calls:List Call
 state:List (List Val)
inductive Rs (α:Type) where
 |ok (a:α) (m:Ms)
 |er (e:Int) (m:Ms)
def X(α:Type):=Ms->Rs α
def X.ok{α:Type}(a:α):X α:=fun m=>.ok a m
def X.er{α:Type}(e:Int):X α:=fun m=>.er e m
def X.bind{α β:Type}(x:X α)(f:α->X β):X β:=fun m=>match x m with
 |.ok a m'=>f a m'
 |.er e m'=>.er e m'
def X.upd{α:Type}(f:Ms->Ms)(x:X α):X α:=fun m=>x (f m)
def X.get{α:Type}(f:Ms->X α):X α:=fun m=>f m m
def DT(op:Int):Int:=
 if op=0\/op=1\/op=2\/op=17 then 0
 else if op=10\/op=14\/op=16\/op=18 then 1
 else if op=3\/op=4\/op=5\/op=6\/op=7\/op=8\/op=9\/op=12 then 2
 else if op=11 then 3
 else if op=13\/op=15 then -1
 else -2
def A7:List bn->List Val->bn->Option Val
 |n:: ns,v:: vs,s=>match A7 ns vs s with
  |some x=>some x
  |none=>if n=s then some v else none
 |_,_,_=>none
def sV:List bn->List Val->bn->Option Val
 |n:: ns,v:: vs,s=>if n=s then some v else sV ns vs s
 |_,_,_=>none
def wr(n:Int):Int:=IntKind.i64.wrap n
def DW(op:Int)(a b:Val):X Val:=
 if op=7 then(if a.kind=b.kind/\a.kind≠2 then .ok (kZ (a.n== b.n))else .er 13)
 else if a.kind=0/\b.kind=0 then
  (if op=3 then .ok (vJ (wr (a.n+b.n)))else if op=4 then .ok (vJ (wr (a.n-b.n)))else if op=5 then .ok (vJ (wr (a.n*b.n)))else .ok (kZ (decide (a.n<b.n))))
 else .er 13
mutual
def xX:Val->Nat
 |.mk _ _ _ vs=>uc vs+1
def uc:List Val->Nat
 |[]=>0
 |v:: vs=>max (xX v) (uc vs)
end
abbrev Ev:=Int->List bn->List Val->Exp->X Val
def boolX(r:X Val):X Bool:=r.bind fun v=>if v.kind=1 then .ok (v.n== 1)else .er 13
def listX(r:Exp->X Val):List Exp->X (List Val)
 |[]=>.ok []
 |e:: es=>(r e).bind fun v=>(listX r es).bind fun vs=>.ok (v:: vs)
def uu(r:Exp->X Val)(e:Exp):X Val:=
 if e.names.length=e.args.length/\asc e.names=true then
  (if e.names.length<=8 then(listX r e.args).bind fun vs=>if xX (.mk 2 0 e.names vs)<=4 then .ok (.mk 2 0 e.names vs)else .er 6 else .er 6)
 else .er 13
def xM(p:List Mod)(at_:Int)(s:bn):Option Fun:=
 if at_<0 then none else(let l:=(p[at_.toNat]?.getD default).funcs;let i:=Ej l s;if i<0 then none else l[i.toNat]?)
def xD(p:List Mod)(r:Ev)(at_:Int)(f:Fun)(l:List Val):X Val:=
 .get fun m=>if m.frames<60 then
  .upd (fun m=>{ m with calls:=if f.pub=true then m.calls++[⟨(p[at_.toNat]?.getD default).name,f.name,l⟩]else m.calls,frames:=m.frames+1 })
   ((r at_ (f.params.map (·.1)) l f.body).bind fun v=>.upd (fun m=>{ m with frames:=m.frames-1 }) (.ok v))
 else .er 6
def AR(p:List Mod)(r:Ev)(own:Int)(ns:List bn)(vs:List Val)(e:Exp):X Val:=
 let at_:=if e.m=[]then own else EA p e.m
 match xM p at_ e.s with
 |none=>.er 12
 | some f=>if e.m=[]\/f.pub=true then
   (if e.args.length=f.params.length then(listX (r own ns vs) e.args).bind fun l=>xD p r at_ f l else .er 13)
  else .er 12
def Dw(r:X Val)(e:Exp):X Val:=
 r.bind fun v=>if v.kind=0 then
  (if e.n=1\/e.n=2\/e.n=4\/e.n=8 then
   .get fun m=>.upd (fun m=>{ m with world:=m.world.tail,deeds:=m.deeds++[⟨e.n,v.n,m.world.headD 0⟩] }) (.ok (vJ (m.world.headD 0)))
  else .er 14)
 else .er 13
def setSt(st:List (List Val))(i k:Nat)(v:Val):List (List Val):=st.modify i fun l=>l.set k v
def A4(st:List (List Val))(i k:Nat):Val:=(st.getD i []).getD k default
def EU(p:List Mod)(r:Exp->X Val)(own:Int)(e:Exp):X Val:=
 if own<0 then .er 12 else
 let i:=Eg (p[own.toNat]?.getD default).vars e.s
 if i<0 then .er 12 else
 if e.op=18 then(r e.args[0]!).bind fun v=>.upd (fun m=>{ m with state:=setSt m.state own.toNat i.toNat v }) (.ok v)
 else .get fun m=>.ok (A4 m.state own.toNat i.toNat)
def yJ(p:List Mod)(r:Ev):Ev:=fun own ns vs e=>.get fun m=>
 if m.fuel<=0 then .er 16 else .upd (fun m=>{ m with fuel:=m.fuel-1 }) <|
 let n:=DT e.op
 if n= -2\/(n≠-1/\n≠e.args.length)then .er 13
 else if e.op=0 then .ok (vJ e.n)
 else if e.op=1 then(if e.n=0\/e.n=1 then .ok (kZ (e.n== 1))else .er 13)
 else if e.op=2 then(match A7 ns vs e.s with|some v=>.ok v|none=>.er 12)
 else if e.op=3\/e.op=4\/e.op=5\/e.op=6\/e.op=7 then(r own ns vs e.args[0]!).bind fun a=>(r own ns vs e.args[1]!).bind fun b=>DW e.op a b
 else if e.op=8\/e.op=9 then(boolX (r own ns vs e.args[0]!)).bind fun x=>if x=(e.op== 9)then .ok (kZ (e.op== 9))else(boolX (r own ns vs e.args[1]!)).bind fun y=>.ok (kZ y)
 else if e.op=10 then(boolX (r own ns vs e.args[0]!)).bind fun x=>.ok (kZ !x)
 else if e.op=11 then(boolX (r own ns vs e.args[0]!)).bind fun x=>if x=true then r own ns vs e.args[1]! else r own ns vs e.args[2]!
 else if e.op=12 then(r own ns vs e.args[0]!).bind fun v=>r own (ns++[e.s]) (vs++[v]) e.args[1]!
 else if e.op=13 then uu (r own ns vs) e
 else if e.op=14 then(r own ns vs e.args[0]!).bind fun v=>(match sV v.names v.values e.s with|some x=>if v.kind=2 then .ok x else .er 13|none=>.er 13)
 else if e.op=15 then AR p r own ns vs e
 else if e.op=16 then Dw (r own ns vs e.args[0]!) e
 else EU p (r own ns vs) own e
def A0(p:List Mod):Nat->Ev
 |0=>fun _ _ _ _=>.er 16
 |n+1=>yJ p (A0 p n)
end Go.Av.Ap
namespace Go.Av.Ap
def Rs.st{α:Type}:Rs α->Ms
 |.ok _ m=>m
 |.er _ m=>m
def Rs.on{α:Type}(f:Ms->Ms):Rs α->Rs α
 |.ok a m=>.ok a (f m)
 |.er e m=>.er e (f m)
def ER{α:Type}(y:X α):X α:=.get fun m=>if m.fuel<=0 then .er 16 else .upd (fun m=>{ m with fuel:=m.fuel-1 }) y
def FH(n a:Int):X Val:=.get fun m=>.upd (fun m=>{ m with world:=m.world.tail,deeds:=m.deeds++[⟨n,a,m.world.headD 0⟩] }) (.ok (vJ (m.world.headD 0)))
structure Closed (p:List Mod) (Q:Int->(α:Type)->X α->Prop):Prop where
 ok:∀(o:Int)(α:Type)(a:α),Q o α (.ok a)
 er:∀(o:Int)(α:Type)(e:Int),e≠0->Q o α (.er e)
 bind:∀(o:Int)(α β:Type)(x:X α)(f:α->X β),Q o α x->(∀a,Q o β (f a))->Q o β (x.bind f)
 tick:∀(o:Int)(α:Type)(y:X α),Q o α y->Q o α (ER y)
 act:∀(o n a:Int),Q o Val (FH n a)
 set:∀(o:Int)(k:Nat)(v:Val),¬o<0->Q o Val (.upd (fun m=>{ m with state:=setSt m.state o.toNat k v }) (.ok v))
 get:∀(o:Int)(k:Nat),Q o Val (.get fun m=>.ok (A4 m.state o.toNat k))
 enter:∀(o a:Int)(r:Ev)(f:Fun)(l:List Val),¬a<0->a.toNat<p.length->f∈(p[a.toNat]?.getD default).funcs->(∀o ns vs e,Q o Val (r o ns vs e))->Q o Val (xD p r a f l)
def s4{p:List Mod}{a:Int}{s:bn}{f:Fun}(h:xM p a s=some f):¬a<0/\a.toNat<p.length/\f∈(p[a.toNat]?.getD default).funcs:=by
 unfold xM at h;by_cases h1:a<0
 ·simp[h1]at h
 ·rw[if_neg h1]at h;simp only at h;split at h
  ·cases h
  ·have hm:=HW h;refine⟨h1,?_,hm⟩;rcases Hb a.toNat p.length with k|k
   ·exact k
   ·rw[G1 k]at hm;cases hm
def Ew{Q:Int->(α:Type)->X α->Prop}{o:Int}{α:Type}{c:Prop}[Decidable c](x y:X α)(h1:Q o α x)(h2:Q o α y):Q o α (if c then x else y):=by
 split
 ·exact h1
 ·exact h2
section
variable {p:List Mod} {Q:Int->(α:Type)->X α->Prop} (C:Closed p Q)
include C
theorem Closed.boolX{o:Int}{r:X Val}(h:Q o Val r):Q o Bool (boolX r):=by
 refine C.bind _ _ _ _ _ h fun v=>?_;split
 ·exact C.ok _ _ _
 ·exact C.er _ _ _ (by decide)
theorem Closed.listX{o:Int}{r:Exp->X Val}(h:∀e,Q o Val (r e)):∀l,Q o (List Val) (listX r l)
 |[]=>C.ok _ _ _
 |e:: l=>C.bind _ _ _ _ _ (h e) fun _=>C.bind _ _ _ _ _ (Closed.listX h l) fun _=>C.ok _ _ _
theorem Closed.step{r:Ev}(h:∀o ns vs e,Q o Val (r o ns vs e))(o:Int)(ns:List bn)(vs:List Val)(e:Exp):Q o Val (yJ p r o ns vs e):=by
 unfold yJ;refine C.tick _ _ _ ?_;have B:=fun{α β:Type} {x:X α} {f:α->X β}=>C.bind o α β x f;have I:=@Ew Q o;have er:=fun(α:Type) n (h:n≠0)=>C.er o α n h;have ok:=fun(α:Type) (a:α)=>C.ok o α a;refine I _ _ (er _ _ (by decide)) (I _ _ (ok _ _) (I _ _ (I _ _ (ok _ _) (er _ _ (by decide))) (I _ _ ?_ (I _ _ ?_ (I _ _ ?_ (I _ _ ?_ (I _ _ ?_ (I _ _ ?_ (I _ _ ?_ (I _ _ ?_ (I _ _ ?_ (I _ _ ?_ ?_))))))))))))
 ·split
  ·exact ok _ _
  ·exact er _ _ (by decide)
 ·refine B (h _ _ _ _) fun a=>B (h _ _ _ _) fun b=>?_;unfold DW;exact I _ _ (I _ _ (ok _ _) (er _ _ (by decide))) (I _ _ (I _ _ (ok _ _) (I _ _ (ok _ _) (I _ _ (ok _ _) (ok _ _)))) (er _ _ (by decide)))
 ·exact B (C.boolX (h _ _ _ _)) fun a=>I _ _ (ok _ _) (B (C.boolX (h _ _ _ _)) fun b=>ok _ _)
 ·exact B (C.boolX (h _ _ _ _)) fun a=>ok _ _
 ·exact B (C.boolX (h _ _ _ _)) fun a=>I _ _ (h _ _ _ _) (h _ _ _ _)
 ·exact B (h _ _ _ _) fun v=>h _ _ _ _
 ·unfold uu;exact I _ _ (I _ _ (B (C.listX (fun e=>h _ _ _ e) _) fun vs=>I _ _ (ok _ _) (er _ _ (by decide))) (er _ _ (by decide))) (er _ _ (by decide))
 ·refine B (h _ _ _ _) fun v=>?_;split
  ·exact I _ _ (ok _ _) (er _ _ (by decide))
  ·exact er _ _ (by decide)
 ·unfold AR;simp only;split
  ·exact er _ _ (by decide)
  ·rename_i f hf;obtain⟨h1,h2,h3⟩:=s4 hf;exact I _ _ (I _ _ (B (C.listX (fun e=>h _ _ _ e) _) fun l=>C.enter _ _ _ _ _ h1 h2 h3 h) (er _ _ (by decide))) (er _ _ (by decide))
 ·unfold Dw;exact B (h _ _ _ _) fun v=>I _ _ (I _ _ (C.act _ _ _) (er _ _ (by decide))) (er _ _ (by decide))
 ·unfold EU;split
  ·exact er _ _ (by decide)
  ·rename_i ho;exact I _ _ (er _ _ (by decide)) (I _ _ (B (h _ _ _ _) fun v=>C.set _ _ _ ho) (C.get _ _))
theorem Closed.eval:∀(n:Nat)(o:Int)(ns:List bn)(vs:List Val)(e:Exp),Q o Val (A0 p n o ns vs e)
 |0,_,_,_,_=>C.er _ _ _ (by decide)
 |n+1,o,ns,vs,e=>C.step (fun o ns vs e=>Closed.eval n o ns vs e) o ns vs e
end
end Go.Av.Ap
namespace Go.Av.Ap
def nB(p:List Mod):Bool:=(List.range p.length).any fun i=>(p.take i).any fun m=>m.name== (p[i]?.getD default).name
end Go.Av.Ap
namespace Go.Av.Ap
open Go Go.Av
def bv(n:Int):BitVec 64:=BitVec.ofInt 64 n
def jE(a b:Int):Prop:=bv a ||| bv b=bv b
def jE.refl(a:Int):jE a a:=JI
def jE.trans{a b c:Int}(h1:jE a b)(h2:jE b c):jE a c:=by
 unfold jE at *;rw[<- h2,<- BitVec.or_assoc,h1]
theorem tP(b:BitVec 64):bv (IntKind.i64.wrap b.toNat)=b:=by
 unfold bv;have h:IntKind.i64.wrap b.toNat=b.toInt:=by
  have h:=b.isLt;rw[BitVec.toInt_eq_toNat_cond];have h1:(2:Int) ^ IntKind.i64.bits=18446744073709551616:=rfl;have h2:(2:Int) ^ (IntKind.i64.bits-1)=9223372036854775808:=rfl;have h3:((2 ^ 64:Nat):Int)=18446744073709551616:=rfl;have h4:(b.toNat:Int) % 18446744073709551616=b.toNat:=by omega
  simp only[IntKind.wrap,h1,h2,h3,h4];have h5:IntKind.i64.signed=true:=rfl;rw[h5,HM];by_cases hb:2*b.toNat<2 ^ 64
  ·rw[GR hb,if_neg (by simp;omega)]
  ·rw[if_neg hb,GR (by simp;omega)]
 rw[h,BitVec.ofInt_toInt]
def AP(a b:Int):bv (kU a b)=bv a ||| bv b:=tP _
def Af(a b:Int):jE b (kU a b):=by
 unfold jE;rw[AP,BitVec.or_comm (bv a),<- BitVec.or_assoc,JI]
def qW{a b:Int}(h:ca a b=0):jE a b:=by
 have h1:bv (ca a b)=bv a &&& ~~~ bv b:=tP _;rw[h]at h1;unfold jE;have h2:bv a &&& ~~~ bv b=0#64:=h1.symm
 ext i hi
 have:=GW (fun x:BitVec 64=>x.getLsbD i) h2
 simp only[BitVec.getLsbD_and,BitVec.getLsbD_not,hi,HF,HM,BitVec.getLsbD_zero]at this;rw[BitVec.getElem_or];simp only[BitVec.getLsbD_eq_getElem hi]at this;cases h1:(bv a)[i]<;>cases h2:(bv b)[i]<;>simp[h1,h2]at this |-
mutual
def FS:Ty->Val->Prop
 |.mk k fs,v=>v.kind=k/\(fs≠[]->k=2)/\A5 fs v
def A5:List (bn×Ty)->Val->Prop
 |[],_=>True
 |f:: fs,v=>FQ f v/\A5 fs v
def FQ:bn×Ty->Val->Prop
 |(n,t),v=>∃x,sV v.names v.values n=some x/\FS t x
end
theorem tJ(z:bN)(l:List bN):CW z l=match bz (fun x=>x.1== z.1) l with
  |some x=>(match qu z.2 x.2 with|some u=>some (z.1,u)|none=>none)
  |none=>none:=by
 obtain⟨n,t⟩:=z;simp only[CW]
 all_goals (
  cases bz (fun z:bN=>z.1== n) l with
  |none=>rfl
  |some x=>cases qu t x.2<;>rfl)
def lR{a b:Int}(h:jE a b):ca a b=0:=by
 unfold ca;have:BitVec.ofInt 64 a &&& ~~~ BitVec.ofInt 64 b=0#64:=by
  have h:bv a ||| bv b=bv b:=h;show bv a &&& ~~~ bv b=0#64
  ext i hi
  have h3:=GW (fun x:BitVec 64=>x[i]'hi) h;simp only[BitVec.getElem_or]at h3;simp only[BitVec.getElem_and,BitVec.getElem_not,BitVec.getElem_zero];cases h1:(bv a)[i]<;>cases h2:(bv b)[i]<;>simp[h1,h2]at h3 |-
 rw[this];rfl
theorem uC:{l:List (bn×Int)} ->(∀x∈l,x.2=0)->bo l=([],0)
 |[],_=>rfl
 |y:: l,h=>by
  unfold bo;rw[GR (h y HG)];exact uC fun x hx=>h x (HE _ hx)
def q7{c:Tcx}{f:Fun}:sZ c f=0↔∃t n,bh c 12 f.params f.body 0= .ok t n/\bu t f.result=true/\ca n f.effects=0:=by
 constructor
 ·intro h;unfold sZ at h;cases hx:bh c 12 f.params f.body 0 with
  |er b n=>rw[hx]at h;exact absurd h (fB c 12 f.params f.body 0 b n hx)
  | ok t n=>
   rw[hx]at h;simp only at h;by_cases h1:bu t f.result=true
   ·rw[GR h1]at h;by_cases h2:ca n f.effects=0
    ·exact⟨t,n,rfl,h1,h2⟩
    ·rw[if_neg h2]at h;cases h
   ·rw[if_neg h1]at h;cases h
 ·rintro⟨t,n,h1,h2,h3⟩;unfold sZ;rw[h1];simp only[GR h2,GR h3]
theorem o4:(d:Nat)->(e:Exp)->bQ d e=true->bQ (d+1) e=true
 |0,_,h=>by cases h
 |d+1,e,h=>by
  rw[dC,GO,GT]at h|-;exact⟨h.1,fun x hx=>o4 d x (h.2 x hx)⟩
theorem oZ{d:Nat}{e:Exp}(h:bQ d e=true):(k:Nat)->bQ (d+k) e=true
 |0=>h
 |k+1=>o4 _ _ (oZ h k)
def zc{l:List bN}:f5 df (l.map (·.1))=f5 (fun a b:bN=>df a.1 b.1) l:=by
 induction l with
 |nil=>rfl
 | cons x l ih=>cases l with
  |nil=>rfl
  |cons y l=>
   simp only[Hs,f5]at ih |-;rw[ih]
theorem pf:(d:Nat)->(t:Ty)->cp d t=true->bQ d (eF t)=true
 |0,_,h=>by cases h
 | d+1,t,h=>by
  rw[l9];by_cases h0:t.kind=0
  ·rw[GR h0,dC];simp[Exp.args];decide +kernel
  by_cases h1:t.kind=1
  ·rw[if_neg h0,GR h1,dC];simp[Exp.args];decide +kernel
  rw[if_neg h0,if_neg h1,dC];rw[cU]at h;simp only[GO,GT,G0]at h;obtain⟨⟨⟨⟨_,_⟩,h3⟩,_⟩,h4,h5⟩:=h;have hn:m8 (t.fields.map (·.1))=true:=by
   unfold m8;rw[zc,h5];simp only[List.all_map,IU,GO,GT,G0,HS];exact⟨fun f hf=>(h4 f hf).1,h3⟩
  rw[GO,GT];refine⟨?_,fun x hx=>?_⟩
  ·simp[jt,dP,dV,Exp.op,Exp.n,Exp.s,Exp.m,Exp.names,Exp.args,hn]
  ·obtain⟨f,hf,rfl⟩:=HV.1 hx;exact pf d f.2 (h4 f hf).2
theorem uf{r:Exp->dE Ty}{g:bN->Exp}:(l:List bN)->(∀f∈l,∀n,r (g f) n= .ok f.2 n)->∀n,cZ r (l.map g) n= .ok (l.map (·.2)) n
 |[],_,_=>rfl
 |f:: l,h,n=>by
  simp only[Hs,cZ,dE.bind,h f HG n,uf l (fun f hf=>h f (HE _ hf)) n];rfl
theorem lT:(l:List bN)->(l.map (·.1)).zip (l.map (·.2))=l
 |[]=>rfl
 |f:: l=>by simp only[Hs,List.zip_cons_cons,lT l]
theorem r8(c:Tcx)(ls:List bN):(d:Nat)->(t:Ty)->cp d t=true->∀k n,bh c (d+k) ls (eF t) n= .ok t n
 |0,_,h,_,_=>by cases h
 | d+1,t,h,k,n=>by
  have hd:d+1+k=(d+k)+1:=by omega
  rw[hd];show cH c (bh c (d+k)) ls (eF t) n=_;rw[cU]at h;simp only[GO,GT,G0,HQ,Hy]at h;obtain⟨⟨⟨⟨g0,g1⟩,h3⟩,h6⟩,h4,h5⟩:=h;obtain⟨kd,fs⟩:=t;simp only[Ty.kind,Ty.fields]at g0 g1 h3 h6 h4 h5;by_cases h0:kd=0
  ·subst h0;have:fs=[]:=Hj (by rcases h6 with h|h;cases h;exact h);subst this;rfl
  by_cases h1:kd=1
  ·subst h1;have:fs=[]:=Hj (by rcases h6 with h|h;cases h;exact h);subst this;rfl
  have h2:kd=2:=by omega
  subst h2;have hw:eF (.mk 2 fs)= .mk 13 0 [] [] (fs.map (·.1)) (fs.map fun f=>eF f.2):=by rw[l9];rfl
  rw[hw,lO (by simp[Exp.op]) (by simp[Exp.op]) (by simp[Exp.op]) (by simp[Exp.op])];unfold dE.bind;have e:=uf (r:=bh c (d+k) ls) (g:=fun f=>eF f.2) fs (fun f hf n=>r8 c ls d f.2 (h4 f hf).2 k n) n;simp only[Exp.args];rw[e];have hp:bZ (.mk 13 0 [] [] (fs.map (·.1)) (fs.map fun f=>eF f.2)) (fs.map (·.2))=some (.mk 2 fs):=by
   simp only[bZ,Exp.op,Exp.names,lT];simp
  simp only;rw[jq hp];rfl
theorem pi(c:Tcx)(ls:List bN):(l:List Ty)->(∀t∈l,aX t=true)->∀n,cZ (bh c 11 ls) (l.map eF) n= .ok l n
 |[],_,_=>rfl
 |t:: l,h,n=>by
  simp only[Hs,cZ,dE.bind,r8 c ls 4 t (h t HG) 7 n,pi c ls l (fun t ht=>h t (HE _ ht)) n];rfl
structure SigOk (s:Sig):Prop where
 name:bE s.name=true
 plen:s.params.length<=6
 eff:ca s.effects 15=0
 res:aX s.result=true
 pars:∀t∈s.params,aX t=true
def kX{a:Face}(ha:bL a=true){s:Sig}(hs:s∈a.funcs):SigOk s:=by
 unfold bL at ha;simp only[GO,GT]at ha
 have:=ha.2.1 s hs
 unfold dR at this;simp only[GO,G0,Hy,GT]at this;exact⟨this.1.1.1.1,this.1.1.1.2,this.1.1.2,this.1.2,this.2⟩
def pY{s:bn}(h:bE s=true):s≠[]:=fun e=>by
 rw[e]at h;revert h;decide +kernel
def ov{a:Face}(ha:bL a=true){f:Sig}(hf:f∈a.funcs):gM (dw a f)=true:=by
 have F:=kX ha hf;have hm:bE a.module=true:=by
  unfold bL at ha;simp only[GO]at ha;exact ha.1.1
 have h1:bE fP=true:=by decide +kernel
 have h2:bE cv=true:=by decide +kernel
 have h3:bE (if a.module=cv then fP else cv)=true:=by
  by_cases h:a.module=cv
  ·rw[GR h];exact h1
  ·rw[if_neg h];exact h2
 have hb:bQ 12 (ib a f)=true:=by
  rw[dC,GO,GT];refine⟨?_,fun x hx=>?_⟩
  ·have hne:=pY hm;simp[jt,dP,dV,ib,Exp.op,Exp.n,Exp.s,Exp.m,Exp.names,Exp.args,F.name,hm,F.plen]
  ·obtain⟨t,ht,rfl⟩:=HV.1 hx;exact oZ (pf 4 t (F.pars t ht)) 7
 have hfn:q6 (jG a f)=true:=by
  unfold q6;simp[jG,h1,dM,nS,F.res,hb,F.eff]
 unfold gM nk;simp[dw,vK,j9,hm,hfn,h3,dM,nS]
theorem qO(a f':Face)(f:Sig)(F:SigOk f)(hn:f'.module=a.module)(hm:bE a.module=true):bh (c7 (dw a f) [f']) 12 [] (ib a f) 0=match f'.funcs.find? (fun s=>s.name== f.name)with
  |none=>.er 12 0
  |some g=>if g.params.length=f.params.length then(if fA bu f.params g.params=true then .ok g.result (kU 0 g.effects)else .er 13 0)else .er 13 0:=by
 have hne:=pY hm;show cH _ (bh (c7 (dw a f) [f']) 11) [] (ib a f) 0=_;rw[lN (show (ib a f).op=15 from rfl)];have hfa:(c7 (dw a f) [f']).faces (ib a f).m=some f':=by
  show[f'].find? (fun x=>x.module== a.module)=some f';simp[hn]
 have hu:(ib a f).m∈(c7 (dw a f) [f']).uses:=HJ.2 rfl;have hc:cO (c7 (dw a f) [f']) (ib a f)=match f'.funcs.find? (fun s=>s.name== f.name)with
   |none=>none
   |some s=>some (s.params,s.result,s.effects):=by
  unfold cO;rw[if_neg (show ¬(ib a f).m=[]from hne),hfa];simp only[GR hu];rfl
 rw[hc];cases f'.funcs.find? (fun s=>s.name== f.name)with
 |none=>rfl
 | some g=>
  simp only;have hl:(ib a f).args.length=f.params.length:=HS _;rw[hl];split
  ·unfold dE.bind;have e:=pi (c7 (dw a f) [f']) [] f.params F.pars 0;have e':cZ (bh (c7 (dw a f) [f']) 11 []) (ib a f).args 0= .ok f.params 0:=e;rw[e'];simp only;split<;>rfl
  ·rfl
theorem Ac(n:Int):jE (kU 0 n) n:=by
 unfold jE;rw[AP];have:bv 0=0#64:=rfl;rw[this,BitVec.zero_or,JI]
def vf{a:Face}(ha:bL a=true):eN a=true:=by
 unfold eN;rw[GT];intro s hs;have F:=kX ha hs;rw[F.res,HM,GT];exact F.pars
theorem zC{a b:Face}(ha:bL a=true){f:Sig}(hl:gU a b=some f):(ia (dw a f) [a]).2=0:=by
 have hf:f∈a.funcs:=HH hl;have F:=kX ha hf;have hm:bE a.module=true:=by
  unfold bL at ha;simp only[GO]at ha;exact ha.1.1
 have hp:a.funcs.find? (fun s=>s.name== f.name)=some f:=by
  unfold bL at ha;simp only[GO,GT]at ha;exact oG (nm:=fun f:Sig=>f.name) (kz (nm:=fun f:Sig=>f.name) (fun x y h=>h) _ ha.2.2) hf
 unfold ia;rw[GR (by rw[ov ha hf,HY,vf ha];rfl)];have da:cD [] [a]=[a]:=rfl;rw[da,uC];intro x hx;rcases Hr.1 hx with hx|hx
 ·have hx:x∈[(a.module,if([a].find? fun f=>f.module== a.module).isNone||a.module== (if a.module=cv then fP else cv)then(12:Int)else 0)]:=hx;rw[HJ]at hx;subst hx;have h1:(a.module== (if a.module=cv then fP else cv))=false:=by
   rw[GX];split
   ·rename_i h;rw[h];decide
   ·assumption
  simp[h1]
 ·rcases Hg.1 hx with rfl|hx
  ·rfl
  ·have hx:x∈[((jG a f).name,sZ (c7 (dw a f) [a]) (jG a f))]:=hx;rw[HJ]at hx;subst hx;refine q7.2 ⟨f.result,kU 0 f.effects,?_,hG 4 _ F.res,lR (Ac _)⟩;have h1:=qO a a f F rfl hm;rw[hp]at h1;simp only[Hn]at h1;rw[GR (oc fun t ht=>hG 4 t (F.pars t ht))]at h1;exact h1
theorem qz{α β:Type}{P:α->Prop}{Q:β->Prop}{F G:α->β->Bool}(h:∀x y,P x->Q y->F x y=true->G x y=true):{a:List α} ->{b:List β} ->(∀x∈a,P x)->(∀y∈b,Q y)->fA F a b=true->fA G a b=true
 |[],[],_,_,_=>rfl
 |x:: a,y:: b,hp,hq,g=>by
  simp only[fA,GO]at g |-;exact⟨h x y (hp x HG) (hq y HG) g.1,qz h (fun x hx=>hp x (HE _ hx)) (fun y hy=>hq y (HE _ hy)) g.2⟩
theorem zB{a b:Face}(hm:fQ a b=true){f:Sig}(hl:gU a b=some f):(ia (dw a f) [b]).2≠0:=by
 intro h;obtain⟨h1,ha,hb⟩:=(gG a b).1 hm;have hf:f∈a.funcs:=HH hl;have hk:kL b f=false:=by simpa using List.find?_some hl
 have F:=kX ha hf;have hnm:bE a.module=true:=by
  unfold bL at ha;simp only[GO]at ha;exact ha.1.1
 unfold ia at h;split at h
 ·have db:cD [] [b]=[b]:=rfl;rw[db]at h;have h2:=tV h ((jG a f).name,sZ (c7 (dw a f) [b]) (jG a f)) (IL _ (HE _ (HJ.2 rfl)));obtain⟨t,n,e1,e2,e3⟩:=q7.1 h2;have e1:bh (c7 (dw a f) [b]) 12 [] (ib a f) 0= .ok t n:=e1;have e2:bu t f.result=true:=e2;have e3:ca n f.effects=0:=e3;rw[qO a b f F h1.symm hnm]at e1;unfold kL oE at hk;cases hg:b.funcs.find? (fun s=>s.name== f.name)with
  |none=>rw[hg]at e1;cases e1
  | some g=>
   rw[hg]at e1 hk;simp only at e1 hk;split at e1
   ·split at e1
    ·rename_i hpar;cases e1;have G:=kX hb (HH hg);have hs:tI g f=true:=by
      unfold tI;simp only[GO,Hy];refine⟨⟨?_,?_⟩,lR ((Af 0 g.effects).trans (qW e3))⟩
      ·exact qz (P:=fun t=>aX t=true) (Q:=fun t=>aX t=true) (fun x y hx hy h=>by unfold qj;rw[hx,hy,h];rfl) F.pars G.pars hpar
      ·unfold qj;rw[G.res,F.res,e2];rfl
     rw[hs]at hk;cases hk
    ·cases e1
   ·cases e1
 ·cases h
end Go.Av.Ap
