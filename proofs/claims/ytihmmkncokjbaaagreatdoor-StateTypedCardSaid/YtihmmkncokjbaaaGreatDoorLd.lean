/- The abstract evaluator of the model and plain laws, part 4: its soundness holds for every program whose table of types is the evaluator's. No further condition. -/
import Derived.Test.YtihmmkncokjbaaaGreatDoorLc
import Derived.Sort.AssemblyPlain
import Derived.Sort.MapsRangeIn
import Derived.Maps.OwnIn
import Derived.RangeFuncSeq
set_option linter.defProp false
set_option linter.unusedSimpArgs false
set_option linter.unusedVariables false
namespace Go.Av.Ap
open Go Go.Av
def fC(e:Exp):Exp×Int:=
 if e.op=0\/e.op=1 then(.mk e.op e.n [] [] [] e.args,0)
 else if e.op=2\/e.op=17 then(.mk e.op 0 e.s [] [] e.args,0)
 else if e.op=18\/e.op=14 then(.mk e.op 0 e.s [] [] e.args,1)
 else if e.op=16 then(.mk e.op e.n [] [] [] e.args,1)
 else if e.op=10 then(.mk e.op 0 [] [] [] e.args,1)
 else if e.op=12 then(.mk e.op 0 e.s [] [] e.args,2)
 else if e.op=11 then(.mk e.op 0 [] [] [] e.args,3)
 else if e.op=13 then(.mk e.op 0 [] [] e.names e.args,e.names.length)
 else if e.op=15 then(.mk e.op 0 e.s e.m [] e.args,-1)
 else(.mk e.op 0 [] [] [] e.args,2)
def rk(l:List a7):Bool:=(l.all cX&&kV eH l)&&decide (l.length<=8)
def fQ(e:Exp):Bool:=
 if e.op=0 then decide (0<=e.n)&&decide (e.n<=1099511627776)
 else if e.op=1 then e.n== 0||e.n== 1
 else if e.op=16 then((e.n== 1||e.n== 2)||e.n== 4)||e.n== 8
 else if e.op=2\/e.op=17\/e.op=18\/e.op=14\/e.op=12 then cX e.s
 else if e.op=15 then cX e.s&&(e.m== []||cX e.m)&&decide (e.args.length<=6)
 else if e.op=13 then rk e.names
 else true
def lH(e:Exp):Bool:=
 decide (0<=e.op)&&decide (e.op<19)&&(decide ((fC e).2<0)||((fC e).2== (e.args.length:Int)))&&((fC e).1.n== e.n)&&((fC e).1.s== e.s)&&((fC e).1.m== e.m)&&(((fC e).1.names.length:Int)== (e.names.length:Int))&&fQ e
def cB:Nat->Exp->Bool
 |0,_=>false
 |d+1,e=>lH e&&e.args.all (cB d)
theorem lE(d:Nat)(e:Exp):cB (d+1) e=(lH e&&e.args.all (cB d)):=rfl
def nG(a b:Int):Int:=IntKind.i64.wrap (BitVec.ofInt 64 a ||| BitVec.ofInt 64 b).toNat
mutual
def rU:Ty->Ty->Option Ty
 |.mk k fs,b=>if k=b.kind then some (.mk k (kM fs b.fields))else none
def kM:List (a7×Ty)->List bd->List bd
 |[],_=>[]
 |f:: fs,l=>(match Jt f l with|some x=>[x]|none=>[])++kM fs l
def Jt:a7×Ty->List bd->Option bd
 |(n,t),l=>match bW (fun z=>z.1== n) l with
  |some z=>(match rU t z.2 with|some u=>some (n,u)|none=>none)
  |none=>none
end
def jf(k:Int)(l:List Ty):Bool:=l.all fun t=>t.kind== k
def bU(e:Exp)(l:List Ty):Option Ty:=
 if e.op=3\/e.op=4\/e.op=5\/e.op=16 then(if jf 0 l=true then some (.mk 0 [])else none)
 else if e.op=1 then some (.mk 1 [])
 else if e.op=6 then(if jf 0 l=true then some (.mk 1 [])else none)
 else if e.op=7 then(if(jf 0 l||jf 1 l)=true then some (.mk 1 [])else none)
 else if e.op=8\/e.op=9\/e.op=10 then(if jf 1 l=true then some (.mk 1 [])else none)
 else if e.op=11 then(match rU l[1]! l[2]! with|some t=>if l[0]!.kind=1 then some t else none|none=>none)
 else if e.op=13 then some (.mk 2 (e.names.zip l))
 else if e.op=14 then(match bW (fun z=>z.1== e.s) l[0]!.fields with|some z=>some z.2|none=>none)
 else some (.mk 0 [])
inductive Tr (α:Type) where
 |ok (a:α) (n:Int)
 |er (e n:Int)
abbrev dE(α:Type):=Int->Tr α
def dE.ok{α:Type}(a:α):dE α:=fun n=>.ok a n
def dE.er{α:Type}(e:Int):dE α:=fun n=>.er e n
def dE.bind{α β:Type}(x:dE α)(f:α->dE β):dE β:=fun n=>match x n with
 |.ok a n'=>f a n'
 |.er e n'=>.er e n'
structure Tcx where
 vars:List bd
 funcs:List Fun
 uses:List a7
 faces:a7->Option Face
def dk(c:Tcx)(e:Exp):Option (List Ty×Ty×Int):=
 if e.m=[]then(match c.funcs.find? fun f=>f.name== e.s with
  |some f=>some (f.params.map (·.2),f.result,f.effects)
  |none=>none)
 else match c.faces e.m with
  |none=>none
  |some f=>match f.funcs.find? (fun s=>s.name== e.s)with
   |none=>none
   |some s=>if e.m∈c.uses then some (s.params,s.result,s.effects)else none
def dh(r:Exp->dE Ty):List Exp->dE (List Ty)
 |[]=>.ok []
 |e:: es=>.bind (r e) fun t=>.bind (dh r es) fun ts=>.ok (t:: ts)
def cr(c:Tcx)(r:List bd->Exp->dE Ty)(ls:List bd)(e:Exp):dE Ty:=
 if e.op=2 then(match bW (fun z=>z.1== e.s) ls with|some z=>.ok z.2|none=>.er 12)
 else if e.op=12 then .bind (r ls e.args[0]!) fun t=>r (ls++[(e.s,t)]) e.args[1]!
 else if e.op=17\/e.op=18 then(match bW (fun z=>z.1== e.s) c.vars with
  |none=>.er 12
  |some z=>if e.op=18 then .bind (r ls e.args[0]!) fun u=>if cd u z.2=true then .ok z.2 else .er 13 else .ok z.2)
 else if e.op=15 then(match dk c e with
  |none=>.er 12
  |some s=>if s.1.length=e.args.length then .bind (dh (r ls) e.args) fun l=>if cj cd l s.1=true then fun n=>.ok s.2.1 (nG n s.2.2)else .er 13 else .er 13)
 else .bind (dh (r ls) e.args) fun l n=>match bU e l with
  |some t=>.ok t (if e.op=16 then nG n e.n else n)
  |none=>.er 13 (if e.op=16 then nG n e.n else n)
def bL(c:Tcx):Nat->List bd->Exp->dE Ty
 |0=>fun _ _=>.er 16
 |d+1=>cr c (bL c d)
def vw:Tcx:=⟨[],[],[],fun _=>none⟩
def cY(ls:List bd)(e:Exp)(want:Ty):Int:=match bL vw 12 ls e 0 with
 |.er b _=>b
 |.ok t n=>if n≠0 then 14 else if cd t want=true then 0 else 13
def cn:List (a7×Int)->a7×Int
 |[]=>([],0)
 |x:: l=>if x.2=0 then cn l else x
def dV(ls:List bd)(vs:List bd)(es:List Exp):List (a7×Int):=(vs.zip es).map fun x=>(x.1.1,cY ls x.2 x.1.2)
def jt(m:Mod):a7×Int:=cn (dV [] m.vars m.init++if m.moves=true then dV m.old m.vars m.forward++dV m.vars m.old m.back else[])
def GM(c:Tcx)(f:Fun):Int:=match bL c 12 f.params f.body 0 with
 |.er b _=>b
 |.ok t n=>if cd t f.result=true then(if eU n f.effects=0 then 0 else 14)else 13
def iP(f:Face):Bool:=f.funcs.all fun s=>bg s.result&&s.params.all bg
def C8{α:Type}(x:dE α):Prop:=∀n b n',x n= .er b n'->b≠0
def xz{α:Type}(a:α):C8 (.ok a):=fun n b n' h=>by cases h
def rm{α:Type}{e:Int}(h:e≠0):C8 (α:=α) (.er e):=fun n b n' h'=>by cases h';exact h
def lY{α β:Type}{x:dE α}{f:α->dE β}(hx:C8 x)(hf:∀a,C8 (f a)):C8 (.bind x f):=fun n b n' h=>by
 unfold dE.bind at h;split at h
 ·exact hf _ _ _ _ h
 ·rename_i e' m hm;cases h;exact hx _ _ _ hm
def lp{α:Type}{c:Prop}[Decidable c]{x y:dE α}(h1:C8 x)(h2:C8 y):C8 (if c then x else y):=by
 split
 ·exact h1
 ·exact h2
theorem nA{r:Exp->dE Ty}(h:∀e,C8 (r e)):∀l,C8 (dh r l)
 |[]=>xz _
 |e:: l=>lY (h e) fun _=>lY (nA h l) fun _=>xz _
theorem iy(c:Tcx):∀(d:Nat)(ls:List bd)(e:Exp),C8 (bL c d ls e)
 |0,_,_=>rm (by decide)
 | d+1,ls,e=>by
  have H:=iy c d;show C8 (cr c (bL c d) ls e);unfold cr;refine lp ?_ (lp ?_ (lp ?_ (lp ?_ ?_)))
  ·split
   ·exact xz _
   ·exact rm (by decide)
  ·exact lY (H _ _) fun _=>H _ _
  ·split
   ·exact rm (by decide)
   ·exact lp (lY (H _ _) fun _=>lp (xz _) (rm (by decide))) (xz _)
  ·split
   ·exact rm (by decide)
   ·exact lp (lY (nA (H _) _) fun _=>lp (fun n b n' h=>by cases h) (rm (by decide))) (rm (by decide))
  ·refine lY (nA (H _) _) fun l n b n' h=>?_;split at h
   ·cases h
   ·cases h;decide
def zW{c:Tcx}{r:List bd->Exp->dE Ty}{ls:List bd}{e:Exp}(h:e.op=12):cr c r ls e= .bind (r ls e.args[0]!) fun t=>r (ls++[(e.s,t)]) e.args[1]!:=by
 unfold cr;rw[if_neg (by omega),Ps h]
def zX{c:Tcx}{r:List bd->Exp->dE Ty}{ls:List bd}{e:Exp}(h:e.op=2):cr c r ls e=(match bW (fun z=>z.1== e.s) ls with|some z=>.ok z.2|none=>.er 12):=by
 unfold cr;rw[Ps h]
theorem zV{c:Tcx}{r:List bd->Exp->dE Ty}{ls:List bd}{e:Exp}(h:e.op=17\/e.op=18):cr c r ls e=(match bW (fun z=>z.1== e.s) c.vars with
  |none=>.er 12
  |some z=>if e.op=18 then .bind (r ls e.args[0]!) fun u=>if cd u z.2=true then .ok z.2 else .er 13 else .ok z.2):=by
 unfold cr;rw[if_neg (by omega),if_neg (by omega),Ps h]
theorem yd{c:Tcx}{r:List bd->Exp->dE Ty}{ls:List bd}{e:Exp}(h:e.op=15):cr c r ls e=(match dk c e with
  |none=>.er 12
  |some s=>if s.1.length=e.args.length then .bind (dh (r ls) e.args) fun l=>if cj cd l s.1=true then fun n=>.ok s.2.1 (nG n s.2.2)else .er 13 else .er 13):=by
 unfold cr;rw[if_neg (by omega),if_neg (by omega),if_neg (by omega),Ps h]
def pq(e:Exp)(l:List Ty):dE Ty:=fun n=>match bU e l with
 |some t=>.ok t (if e.op=16 then nG n e.n else n)
 |none=>.er 13 (if e.op=16 then nG n e.n else n)
def rB{e:Exp}{l:List Ty}{t:Ty}(h:bU e l=some t)(n:Int):pq e l n= .ok t (if e.op=16 then nG n e.n else n):=by
 unfold pq;rw[h]
def rA{e:Exp}{l:List Ty}(h:bU e l=none)(n:Int):pq e l n= .er 13 (if e.op=16 then nG n e.n else n):=by
 unfold pq;rw[h]
def ye{c:Tcx}{r:List bd->Exp->dE Ty}{ls:List bd}{e:Exp}(h1:¬e.op=2)(h2:¬e.op=12)(h3:¬(e.op=17\/e.op=18))(h4:¬e.op=15):cr c r ls e= .bind (dh (r ls) e.args) (pq e):=by
 unfold cr;rw[if_neg h1,if_neg h2,if_neg h3,if_neg h4];rfl
def iU(l:List a7)(s:a7):Int:=aV (fun x=>s== x) l 0
def li:Nat->Ty->Val->Bool
 |0,_,_=>false
 |d+1,t,v=>t.kind== v.kind&&t.fields.all fun f=>decide (0<=iU v.names f.1)&&li d f.2 v.values[(iU v.names f.1).toNat]!
def fp(t:Ty)(v:Val):Bool:=bg t&&(bF 4 v&&li 4 t v)
def cL(l:List bd)(vars:List Val):Bool:=decide (l.length=vars.length)&&cj (fun f v=>fp f.2 v) l vars
def fg(fr:List bd)(vars:List Val):List bd->List Val->Option (List Val)
 |[],acc=>some acc
 |f:: l,acc=>if eh fr f.1<0\/fp f.2 vars[(eh fr f.1).toNat]! = false then none else fg fr vars l (acc++[vars[(eh fr f.1).toNat]!])
def dR(ns:List a7)(vars:List Val):List bd->List Exp->List Val->Except Int (List Val)
 |f:: fs,e:: es,acc=>match fW e ns vars with
  |.er c _=>.error c
  |.ok v _=>if fp f.2 v=true then dR ns vars fs es (acc++[v])else .error 13
 |_,_,acc=>.ok acc
def ig(F:bd->bd->Bool)(old now:Mod):Bool:=decide (now.forward.length=now.vars.length)&&decide (now.back.length=old.vars.length)&&(decide (now.old.length=old.vars.length)&&cj F now.old old.vars)
def ml:Option (List Val)->Except Int (List Val)
 |some l=>.ok l
 |none=>.error 7
def fY(F:bd->bd->Bool)(old now:Mod)(vars:List Val):Except Int (List Val):=
 if cL old.vars vars=false then .error 1
 else if now.moves=false then ml (fg old.vars vars now.vars [])
 else if ig F old now=false then .error 27
 else dR (old.vars.map (·.1)) vars now.vars now.forward []
def mU(F:bd->bd->Bool)(old now:Mod)(vars:List Val):Except Int (List Val):=
 if cL now.vars vars=false then .error 1
 else if now.moves=false then ml (fg now.vars vars old.vars [])
 else if ig F old now=false then .error 27
 else dR (now.vars.map (·.1)) vars old.vars now.back []
end Go.Av.Ap
namespace Go.Av.Ap
def cI{α β:Type}{m:M α}{f:α->M β}{h h':Hp}{a:α}(e:m h= .ok a h'):ae m f h=f a h':=by simp only[ae,e]
def Au{α β:Type}{m:M α}{f:α->M β}{h h':Hp}{v:AV}(e:m h= .pan v h'):ae m f h= .pan v h':=by simp only[ae,e]
def bK(l:List Val):List AV:=l.flatMap fun v=>ab v.av
def kz(l:List Val):(bK l).length=l.length*4:=by
 induction l with
 |nil=>rfl
 |cons v l ih=>simp only[bK,QM,P1]at ih |-;rw[ih];simp;omega
def nR{l:List Val}{k:Nat}(h:k<l.length):((bK l).drop (k*4)).take 4=ab (l[k]).av:=by
 induction l generalizing k with
 |nil=>simp at h
 | cons v l ih=>
  cases k with
  |zero=>simp[bK]
  |succ k=>
   have:=ih (k:=k) (by simpa using h)
   simp only[bK,QM]at this |-;have e:(k+1)*4=(ab v.av).length+k*4:=by simp;omega
   rw[e,Su,List.getElem_cons_succ];simp only[RJ];rw[List.drop_of_length_le (by omega),P7];exact this
def vD{l:List Val}{k:Nat}(h:k<l.length)(v:Val):setCells (bK l) (k*4) (ab v.av)=bK (l.set k v):=by
 induction l generalizing k with
 |nil=>simp at h
 | cons w l ih=>
  cases k with
  |zero=>
   simp only[setCells,bK,QM,QY,Qx,P7,List.set_cons_zero];congr 1;have:0+(ab v.av).length=(ab w.av).length:=by simp
   rw[this,List.drop_left]
  |succ k=>
   have:=ih (k:=k) (by simpa using h)
   simp only[setCells,bK,QM,List.set_cons_succ]at this |-;have e:(k+1)*4=(ab w.av).length+k*4:=by simp;omega
   have e2:(ab w.av).length+k*4+(ab v.av).length-(ab w.av).length=k*4+(ab v.av).length:=by omega
   have e3:(ab w.av).length+k*4-(ab w.av).length=k*4:=by omega
   rw[e,Rr,Su,e2,e3,QS (by omega),List.drop_of_length_le (by omega)];simp only[P7,Qq];congr 1;rw[<- Qq];exact this
def gA(l:List Deed):List AV:=l.flatMap fun d=>[.int .i64 d.effect,.int .i64 d.arg,.int .i64 d.answer]
def tR(tag:Nat->Nat)(k:Nat)(h:Hp)(l:List Val)(v:AV):Prop:=v=vals l\/∃r,v= .hs r 0 l.length 4 true/\tag r=k/\h[r]? = some (bK l)
def fq(tag:Nat->Nat)(h:Hp):List Call->List AV->Prop
 |[],cs=>cs=[]
 |c:: l,cs=>∃av rest,cs= .str c.module:: .str c.func:: av:: rest/\tR tag 4 h c.args av/\fq tag h l rest
def cO(tag:Nat->Nat)(h:Hp):Nat->List a7->List (List Val)->List AV->Prop
 |_,[],[],cs=>cs=[]
 |i,n:: ns,l:: st,cs=>∃av rest,cs= .str n:: av:: rest/\((l=[]/\av= .sl [])\/∃r,av= .hs r 0 l.length 4 true/\tag r=6+i/\h[r]? = some (bK l))/\cO tag h (i+1) ns st rest
 |_,_,_,_=>False
def GI(tag:Nat->Nat)(k sz n:Nat)(cells:List AV->Prop)(v:AV)(h:Hp):Prop:=(n=0/\v= .hn)\/∃q cs,v= .hs q 0 n sz true/\0<n/\tag q=k/\h[q]? = some cs/\cs.length=n*sz/\cells cs
structure SNm where
 names:List a7
 sv:AV
 cells:List AV
 told:Bool
structure RepT (row:Ms->AV->AV->AV->List AV) (nm:SNm) (tag:Nat->Nat) (dv cv sv:AV) (m:Ms) (h:Hp):Prop where
 r0:h[0]? = some (row m dv cv sv)
 t0:tag 0=0
 ds:GI tag 2 3 m.deeds.length (fun cs=>cs=gA m.deeds) dv h
 cs:GI tag 3 3 m.calls.length (fun cs=>fq tag h m.calls cs) cv h
 st:GI tag 5 2 m.state.length (fun cs=>cs=nm.cells/\cO tag h 0 nm.names m.state cs) sv h
 sve:sv=nm.sv
 wok:nm.told=true->m.world=[]
def Oy(row:Ms->AV->AV->AV->List AV)(nm:SNm)(m:Ms)(h:Hp):Prop:=∃tag dv cv sv,RepT row nm tag dv cv sv m h
def Kp(tag tag':Nat->Nat)(ks:Nat->Prop)(h h':Hp):Prop:=∀r cs,h[r]? = some cs->¬ks (tag r)->h'[r]? = some cs/\tag' r=tag r
def tR.keep{tag tag':Nat->Nat}{ks:Nat->Prop}{h h':Hp}(K:Kp tag tag' ks h h'){k:Nat}(hk:¬ks k){l:List Val}{v:AV}(H:tR tag k h l v):tR tag' k h' l v:=by
 rcases H with H|⟨r,h1,h2,h3⟩
 ·exact .inl H
 ·have:=K r _ h3 (by rw[h2];exact hk)
  exact .inr ⟨r,h1,this.2.trans h2,this.1⟩
theorem fq.keep{tag tag':Nat->Nat}{ks:Nat->Prop}{h h':Hp}(K:Kp tag tag' ks h h')(hk:¬ks 4):{l:List Call} ->{cs:List AV} ->fq tag h l cs->fq tag' h' l cs
 |[],_,H=>H
 |_:: _,_,⟨av,rest,h1,h2,h3⟩=>⟨av,rest,h1,h2.keep K hk,h3.keep K hk⟩
theorem cO.keep{tag tag':Nat->Nat}{ks:Nat->Prop}{h h':Hp}(K:Kp tag tag' ks h h')(hk:∀i,¬ks (6+i)):{i:Nat} ->{nm:List a7} ->{st:List (List Val)} ->{cs:List AV} ->cO tag h i nm st cs->cO tag' h' i nm st cs
 |_,[],[],_,H=>H
 | i,_:: _,_:: _,_,⟨av,rest,h1,h2,h3⟩=>⟨av,rest,h1,by
   rcases h2 with h2|⟨r,g1,g2,g3⟩
   ·exact .inl h2
   ·have:=K r _ g3 (by rw[g2];exact hk i)
    exact .inr ⟨r,g1,this.2.trans g2,this.1⟩,cO.keep K hk h3⟩
 |_,[],_:: _,_,H=>H.elim
 |_,_:: _,[],_,H=>H.elim
def GI.keep{tag tag':Nat->Nat}{ks:Nat->Prop}{h h':Hp}(K:Kp tag tag' ks h h'){k sz n:Nat}{c c':List AV->Prop}{v:AV}(hk:¬ks k)(hc:∀cs,c cs->c' cs)(H:GI tag k sz n c v h):GI tag' k sz n c' v h':=by
 rcases H with H|⟨q,cs,h1,h2,h3,h4,h5,h6⟩
 ·exact .inl H
 ·have:=K q _ h4 (by rw[h3];exact hk)
  exact .inr ⟨q,cs,h1,h2,this.2.trans h3,this.1,h5,hc _ h6⟩
def RepT.set0{row:Ms->AV->AV->AV->List AV}{nm:SNm}{tag:Nat->Nat}{dv cv sv:AV}{m m':Ms}{h:Hp}(R:RepT row nm tag dv cv sv m h)(h1:m'.deeds=m.deeds)(h2:m'.calls=m.calls)(h3:m'.state=m.state)(h4:m.world=[]->m'.world=[]):
  RepT row nm tag dv cv sv m' (h.set 0 (row m' dv cv sv)):=by
 have hlt:0<h.length:=(PK.1 R.r0).1;have K:Kp tag tag (fun k=>k=0) h (h.set 0 (row m' dv cv sv)):=fun r cs hr hk=>by
  have:r≠0:=fun e=>hk (by rw[e];exact R.t0);exact⟨by rw[QE (R9 this)];exact hr,rfl⟩
 refine⟨by rw[Qo hlt],R.t0,?_,?_,?_,R.sve,fun t=>h4 (R.wok t)⟩
 ·rw[h1];exact R.ds.keep K (by decide) fun _ h=>h
 ·rw[h2];exact R.cs.keep K (by decide) fun _ h=>h.keep K (by decide)
 ·rw[h3];exact R.st.keep K (by decide) fun _ h=>⟨h.1,h.2.keep K (by omega)⟩
def RepT.more{row:Ms->AV->AV->AV->List AV}{nm:SNm}{tag:Nat->Nat}{dv cv sv:AV}{m:Ms}{h:Hp}(R:RepT row nm tag dv cv sv m h)(x:List AV)(k:Nat):
  RepT row nm (fun i=>if i=h.length then k else tag i) dv cv sv m (h++[x])/\Kp tag (fun i=>if i=h.length then k else tag i) (fun _=>False) h (h++[x]):=by
 have K:Kp tag (fun i=>if i=h.length then k else tag i) (fun _=>False) h (h++[x]):=fun r cs hr _=>by
  have hlt:r<h.length:=(PK.1 hr).1;exact⟨by rw[PN hlt];exact hr,by simp only;rw[if_neg (by omega)]⟩
 exact⟨⟨(K 0 _ R.r0 id).1,(K 0 _ R.r0 id).2.trans R.t0,R.ds.keep K id fun _ h=>h,R.cs.keep K id fun _ h=>h.keep K id,R.st.keep K id fun _ h=>⟨h.1,h.2.keep K (fun _=>id)⟩,R.sve,R.wok⟩,K⟩
def O6{tag:Nat->Nat}{h:Hp}{q:Nat}{k:Nat}(hq:tag q=k)(x:List AV):Kp tag tag (fun j=>j=k) h (h.set q x):=fun r cs hr hk=>by
 have:r≠q:=fun e=>hk (by rw[e];exact hq);exact⟨by rw[QE (R9 this)];exact hr,rfl⟩
def dq{T:TT}{t:Nat}{ti:TI}(ht:T t=some ti)(ha:ti.agg=false){h:Hp}{l k:Nat}{cs:List AV}{v:AV}(h0:h[l]? = some cs)(h1:cs[k]? = some v):aW T t (.hp l k) h= .ok v h:=by
 simp[aW,ht,h0,ha,h1]
def tf{T:TT}{t:Nat}{ti:TI}(ht:T t=some ti)(ha:ti.agg=true){h:Hp}{l k:Nat}{cs:List AV}(h0:h[l]? = some cs)(hle:k+ti.size<=cs.length):aW T t (.hp l k) h= .ok (.agg ((cs.drop k).take ti.size)) h:=by
 simp[aW,ht,h0,ha,hle]
def iI{T:TT}{t:Nat}{ti:TI}(ht:T t=some ti){h:Hp}{l k:Nat}{cs:List AV}{v:AV}(h0:h[l]? = some cs)(hv:b9 ti.size v=true)(hle:k+ti.size<=cs.length)(hp:0<ti.size):
  bP T t (.hp l k) v h= .ok (.tup []) (h.set l (setCells cs k (ab v))):=by
 simp[bP,ht,h0,hv,hle,hp]
def Ew{T:TT}{t e:Nat}{ti ei:TI}(ht:T t=some ti)(hk:ti.kind= .slice e)(he:T e=some ei){x:AV}(hx:b9 ei.size x=true)(hb:0<ei.bytes)(hs:0<ei.size)(hc:ei.bytes<=140737488355328)(h:Hp):
  appH T t false .hn (.sl [x]) h= .ok (.hs h.length 0 1 ei.size ei.agg) (h++[ab x]):=by
 have:di ei.size [x]=true:=by simp[di,hx]
 simp[appH,ht,hk,he,io,this,hb,hs,jU,hc]
def Ex{T:TT}{t e:Nat}{ti ei:TI}(ht:T t=some ti)(hk:ti.kind= .slice e)(he:T e=some ei){x:AV}(hx:b9 ei.size x=true)(hb:0<ei.bytes)(hs:0<ei.size){h:Hp}{q n:Nat}{cs:List AV}(h0:h[q]? = some cs)(hok:cs.all ba=true)(hl:cs.length=n*ei.size)(hn:0<n)(hc:(n+1)*ei.bytes<=140737488355328):appH T t false (.hs q 0 n ei.size ei.agg) (.sl [x]) h= .ok (.hs h.length 0 (n+1) ei.size ei.agg) ((h.set q [])++[cs++ab x]):=by
 have h1:di ei.size [x]=true:=by simp[di,hx]
 have h2:List.all cs ba=true:=hok;simp only[appH,ht,hk,he,io,h1,hb,hs,jU,h0,h2,hl,hn,Qi,Ry,Pq,QG,QD,List.isEmpty_cons,Py,QM,List.flatMap_nil,Qm];have h5:cs.take (n*ei.size)=cs:=QS (by omega);have h6:0<n*ei.size:=Rm hn hs;rw[Q9 hc,h5];simp[h6]
theorem wn{T:TT}{t e:Nat}{ti ei:TI}(ht:T t=some ti)(hk:ti.kind= .slice e)(he:T e=some ei)(h4:ei.size=4)(hag:ei.agg=true)(hb:0<ei.bytes)(call:FuncId->List AV->M AV)(l:List Val)(hc:l.length*ei.bytes<=140737488355328)(h:Hp):
  fV T t call [vals l] h=if l=[]then .ok (vals []) h else .ok (.hs h.length 0 l.length 4 true) (h++[bK l]):=by
 have h1:di 4 (eb l)=true:=CH l;have hlen:(eb l).length=l.length:=by simp[eB]
 have hfl:(eb l).flatMap ab=bK l:=by simp[eB,bK,List.flatMap_map]
 cases l with
 |nil=>simp[fV,appH,ht,hk,he,io,hb,h4,jU,vals,eb,di]
 |cons v l=>
  have hne:(eb (v:: l)).isEmpty=false:=rfl;unfold fV vals appH;simp only[ht,hk,he,io,h4,h1,hb,jU,Qi,Ry,QB,Pq,hne,Py,hlen,hfl,hag];rw[Q9 hc];simp
theorem fq.ok{tag:Nat->Nat}{h:Hp}:{l:List Call} ->{cs:List AV} ->fq tag h l cs->cs.all ba=true/\cs.length=l.length*3
 |[],cs,H=>by cases H;exact⟨rfl,rfl⟩
 | c:: l,_,⟨av,rest,h1,h2,h3⟩=>by
  subst h1;obtain⟨g1,g2⟩:=h3.ok;have:ba av=true:=by
   rcases h2 with rfl|⟨r,rfl,_⟩<;>rfl
  refine⟨?_,by simp[g2];omega⟩;rw[P5,P5,P5,this,g1];rfl
theorem fq.snoc{tag:Nat->Nat}{h:Hp}{c:Call}{av:AV}(ha:tR tag 4 h c.args av):{l:List Call} ->{cs:List AV} ->fq tag h l cs->fq tag h (l++[c]) (cs++[.str c.module,.str c.func,av])
 |[],cs,H=>by cases H;exact⟨av,[],rfl,ha,rfl⟩
 |d:: l,_,⟨av',rest,h1,h2,h3⟩=>⟨av',rest++[.str c.module,.str c.func,av],by rw[h1];rfl,h2,fq.snoc ha h3⟩
def um(l:List Deed):(gA l).all ba=true:=by simp[gA,ba]
theorem cO.at{tag:Nat->Nat}{h:Hp}:{i:Nat} ->{nm:List a7} ->{st:List (List Val)} ->{cs:List AV} ->cO tag h i nm st cs->∀(j:Nat)(l:List Val),st[j]? = some l->
  ∃av,cs[j*2+1]? = some av/\((l=[]/\av= .sl [])\/∃r,av= .hs r 0 l.length 4 true/\tag r=6+(i+j)/\h[r]? = some (bK l))
 |_,[],[],_,_,j,l,hj=>by simp at hj
 | i,_:: _,_:: _,_,⟨av,rest,h1,h2,h3⟩,j,l,hj=>by
  subst h1;cases j with
  |zero=>simp at hj;subst hj;exact⟨av,rfl,h2⟩
  |succ j=>
   obtain⟨av',g1,g2⟩:=h3.at j l (by simpa using hj);refine⟨av',?_,?_⟩
   ·rw[show (j+1)*2+1=j*2+1+2 by omega];simpa using g1
   ·rw[show i+(j+1)=i+1+j by omega];exact g2
 |_,[],_:: _,_,H,_,_,_=>H.elim
 |_,_:: _,[],_,H,_,_,_=>H.elim
theorem cO.len{tag:Nat->Nat}{h:Hp}:{i:Nat} ->{nm:List a7} ->{st:List (List Val)} ->{cs:List AV} ->cO tag h i nm st cs->nm.length=st.length
 |_,[],[],_,_=>rfl
 |_,_:: _,_:: _,_,⟨_,_,_,_,h3⟩=>by simp[h3.len]
 |_,[],_:: _,_,H=>H.elim
 |_,_:: _,[],_,H=>H.elim
theorem cO.set{tag:Nat->Nat}{h:Hp}{r k:Nat}{v:Val}:{i:Nat} ->{nm:List a7} ->{st:List (List Val)} ->{cs:List AV} ->cO tag h i nm st cs->∀(j:Nat)(l:List Val),st[j]? = some l->tag r=6+(i+j)->h[r]? = some (bK l)->cs[j*2+1]? = some (.hs r 0 l.length 4 true)->
  k<l.length->cO tag (h.set r (bK (l.set k v))) i nm (setSt st j k v) cs
 |_,[],[],_,_,j,l,hj,_,_,_,_=>by simp at hj
 | i, n:: ns,l0:: st,_,⟨av,rest,h1,h2,h3⟩,j,l,hj,ht,hr,hc,hk=>by
  subst h1;have hlt:r<h.length:=(PK.1 hr).1;cases j with
  | zero=>
   simp only[Pu,Pn]at hj;subst hj;simp only[QY,PX,PM,Pu,Pn]at hc;have e:setSt (l0:: st) 0 k v=l0.set k v:: st:=by simp[setSt]
   rw[e];refine⟨av,rest,rfl,.inr ⟨r,by rw[hc,Q0],ht,Qo hlt⟩,?_⟩;have K:Kp tag tag (fun t=>t=6+i) h (h.set r (bK (l0.set k v))):=O6 (by rw[ht];rfl) _;have key:∀ {i':Nat} {nm':List a7} {st':List (List Val)} {cs':List AV},i<i'->cO tag h i' nm' st' cs'->cO tag (h.set r (bK (l0.set k v))) i' nm' st' cs':=by
    intro i' nm' st'
    induction st' generalizing i' nm' with
    |nil=>intro cs' hi H;cases nm' with
     |nil=>exact H
     |cons _ _=>exact H.elim
    | cons a st' ih=>intro cs' hi H;cases nm' with
     |nil=>exact H.elim
     | cons b nm'=>
      obtain⟨av2,rest2,k1,k2,k3⟩:=H;refine⟨av2,rest2,k1,?_,ih (by omega) k3⟩;rcases k2 with k2|⟨r2,g1,g2,g3⟩
      ·exact .inl k2
      ·have:=K r2 _ g3 (by rw[g2];omega)
       exact .inr ⟨r2,g1,g2,this.1⟩
   exact key (RV i) h3
  | succ j=>
   have e:setSt (l0:: st) (j+1) k v=l0:: setSt st j k v:=by simp[setSt]
   rw[e];have hc':rest[j*2+1]? = some (.hs r 0 l.length 4 true):=by
    rw[show (j+1)*2+1=j*2+1+2 by omega]at hc;simpa using hc
   refine⟨av,rest,rfl,?_,h3.set j l (by simpa using hj) (by rw[ht];omega) hr hc' hk⟩;rcases h2 with h2|⟨r2,g1,g2,g3⟩
   ·exact .inl h2
   ·have:r2≠r:=fun e=>by rw[e,ht]at g2;omega
    exact .inr ⟨r2,g1,g2,by rw[QE (R9 this)];exact g3⟩
 |_,[],_:: _,_,H,_,_,_,_,_,_,_=>H.elim
 |_,_:: _,[],_,H,_,_,_,_,_,_,_=>H.elim
def Kp.trans{a b c:Nat->Nat}{ks js:Nat->Prop}{h h1 h2:Hp}(K:Kp a b ks h h1)(J:Kp b c js h1 h2):Kp a c (fun k=>ks k\/js k) h h2:=fun r cs hr hk=>by
 obtain⟨k1,k2⟩:=K r cs hr fun h=>hk (.inl h);obtain⟨j1,j2⟩:=J r cs k1 fun h=>hk (.inr (by rwa [k2]at h));exact⟨j1,j2.trans k2⟩
def Kp.new(tag:Nat->Nat)(h:Hp)(x:List AV)(k:Nat):Kp tag (fun i=>if i=h.length then k else tag i) (fun _=>False) h (h++[x]):=fun r cs hr _=>by
 have hlt:r<h.length:=(PK.1 hr).1;exact⟨by rw[PN hlt];exact hr,by simp only;rw[if_neg (by omega)]⟩
def Kp.mono{a b:Nat->Nat}{ks js:Nat->Prop}{h h1:Hp}(K:Kp a b ks h h1)(hj:∀k,ks k->js k):Kp a b js h h1:=fun r cs hr hk=>K r cs hr fun h=>hk (hj _ h)
def xI{T:TT}{t e:Nat}{ti ei:TI}(ht:T t=some ti)(hk:ti.kind= .slice e)(he:T e=some ei){sz:Nat}(h3:ei.size=sz)(hsz:0<sz)(hag:ei.agg=true)(hb:0<ei.bytes){tag:Nat->Nat}{k n:Nat}{P:List AV->Prop}{v x:AV}{h:Hp}(H:GI tag k sz n P v h)(hP0:n=0->P [])(hok:∀cs,P cs->cs.all ba=true)(hx:b9 sz x=true)(hc:(n+1)*ei.bytes<=140737488355328):
  ∃h1 v' tag',appH T t false v (.sl [x]) h= .ok v' h1/\Kp tag tag' (fun j=>j=k) h h1/\GI tag' k sz (n+1) (fun cs'=>∃cs,P cs/\cs'=cs++ab x) v' h1/\ba v'=true:=by
 have hxl:(ab x).length=sz:=by
  unfold b9 at hx;simp only[Po,PR]at hx;have h1:=hx.1;cases x<;>simp only[cM,Pn,reduceCtorEq]at h1<;>simp only[ab,QD]<;>exact h1
 have hx':b9 ei.size x=true:=by rw[h3];exact hx
 rcases H with⟨hn,rfl⟩|⟨q,cs,rfl,hn,hq,hcs,hl,hp⟩
 ·subst hn;refine⟨_,_,_,Ew ht hk he hx' hb (by omega) (by omega) h,(Kp.new tag h (ab x) k).mono fun _ h=>h.elim,.inr ⟨h.length,ab x,by rw[h3,hag],by omega,by simp,by simp,by simpa using hxl,[],hP0 rfl,rfl⟩,rfl⟩
 ·have e1:=Ex ht hk he hx' hb (by omega) hcs (hok cs hp) (by rw[h3];exact hl) hn hc;rw[h3,hag]at e1;have K1:Kp tag tag (fun j=>j=k) h (h.set q []):=O6 hq [];have K2:=Kp.new tag (h.set q []) (cs++ab x) k;refine⟨_,_,_,e1,(K1.trans K2).mono fun j h=>h.elim id False.elim,.inr ⟨h.length,cs++ab x,rfl,by omega,by simp,?_,by rw[P1,hl,hxl,Qh,Nat.one_mul],cs,hp,rfl⟩,rfl⟩;have:(h.set q []).length=h.length:=by simp
  rw[<- this];simp
def RepT.pushDeed{row:Ms->AV->AV->AV->List AV}{nm:SNm}{tag tag':Nat->Nat}{dv dv' cv sv:AV}{m m':Ms}{h h1:Hp}{d:Deed}(R:RepT row nm tag dv cv sv m h)(K:Kp tag tag' (fun j=>j=2) h h1)(H:GI tag' 2 3 (m.deeds.length+1) (fun cs'=>∃cs,cs=gA m.deeds/\cs'=cs++ab d.av) dv' h1)(hd:m'.deeds=m.deeds++[d])(hc:m'.calls=m.calls)(hs:m'.state=m.state)(h4:m.world=[]->m'.world=[]):RepT row nm tag' dv' cv sv m' (h1.set 0 (row m' dv' cv sv)):=by
 obtain⟨k1,k2⟩:=K 0 _ R.r0 (by rw[R.t0];decide);have hlt:0<h1.length:=(PK.1 k1).1;have t0:=k2.trans R.t0;have K0:Kp tag' tag' (fun j=>j=0) h1 (h1.set 0 (row m' dv' cv sv)):=O6 t0 _;refine⟨Qo hlt,t0,?_,?_,?_,R.sve,fun t=>h4 (R.wok t)⟩
 ·rw[hd,P1];refine H.keep K0 (by decide) ?_;rintro cs' ⟨cs,rfl,rfl⟩;show gA m.deeds++[AV.int .i64 d.effect,.int .i64 d.arg,.int .i64 d.answer]=_;simp[gA]
 ·rw[hc];exact (R.cs.keep K (c':=fq tag' h1 m.calls) (by decide) fun _ h=>h.keep K (by decide)).keep K0 (by decide) fun _ h=>h.keep K0 (by decide)
 ·rw[hs];exact (R.st.keep K (c':=fun cs=>cs=nm.cells/\cO tag' h1 0 nm.names m.state cs) (by decide) fun _ h=>⟨h.1,h.2.keep K (by omega)⟩).keep K0 (by decide) fun _ h=>⟨h.1,h.2.keep K0 (by omega)⟩
def RepT.pushCall{row:Ms->AV->AV->AV->List AV}{nm:SNm}{tag tag':Nat->Nat}{dv cv cv' sv:AV}{m m':Ms}{h h1:Hp}{c:Call}{av:AV}(R:RepT row nm tag dv cv sv m h)(K:Kp tag tag' (fun j=>j=3) h h1)(ha:tR tag 4 h c.args av)(H:GI tag' 3 3 (m.calls.length+1) (fun cs'=>∃cs,fq tag h m.calls cs/\cs'=cs++[.str c.module,.str c.func,av]) cv' h1)(hd:m'.deeds=m.deeds)(hc:m'.calls=m.calls++[c])(hs:m'.state=m.state)(h4:m.world=[]->m'.world=[]):RepT row nm tag' dv cv' sv m' (h1.set 0 (row m' dv cv' sv)):=by
 obtain⟨k1,k2⟩:=K 0 _ R.r0 (by rw[R.t0];decide);have hlt:0<h1.length:=(PK.1 k1).1;have t0:=k2.trans R.t0;have K0:Kp tag' tag' (fun j=>j=0) h1 (h1.set 0 (row m' dv cv' sv)):=O6 t0 _;refine⟨Qo hlt,t0,?_,?_,?_,R.sve,fun t=>h4 (R.wok t)⟩
 ·rw[hd];exact (R.ds.keep K (c':=fun cs=>cs=gA m.deeds) (by decide) fun _ h=>h).keep K0 (by decide) fun _ h=>h
 ·rw[hc,P1];refine H.keep K0 (by decide) ?_;rintro cs' ⟨cs,hcs,rfl⟩;exact ((hcs.keep K (by decide)).snoc (ha.keep K (by decide))).keep K0 (by decide)
 ·rw[hs];exact (R.st.keep K (c':=fun cs=>cs=nm.cells/\cO tag' h1 0 nm.names m.state cs) (by decide) fun _ h=>⟨h.1,h.2.keep K (by omega)⟩).keep K0 (by decide) fun _ h=>⟨h.1,h.2.keep K0 (by omega)⟩
def RepT.var{row:Ms->AV->AV->AV->List AV}{nm:SNm}{tag:Nat->Nat}{dv cv sv:AV}{m:Ms}{h:Hp}(R:RepT row nm tag dv cv sv m h)(hrow:∀st,row { m with state:=st } dv cv sv=row m dv cv sv){i:Nat}{l:List Val}(hl:m.state[i]? = some l)(hne:l≠[]):
  ∃q r,nm.sv= .hs q 0 m.state.length 2 true/\h[q]? = some nm.cells/\nm.cells[i*2+1]? = some (.hs r 0 l.length 4 true)/\nm.cells.length=m.state.length*2/\h[r]? = some (bK l)/\
   ∀(k:Nat)(v:Val),k<l.length->RepT row nm tag dv cv sv { m with state:=setSt m.state i k v } (h.set r (bK (l.set k v))):=by
 have hi:i<m.state.length:=(PK.1 hl).1;rcases R.st with⟨h0,_⟩|⟨q,cs,h1,h2,h3,h4,h5,rfl,h6⟩
 ·omega
 ·obtain⟨av,g1,g2⟩:=h6.at i l hl;rcases g2 with⟨g2,_⟩|⟨r,rfl,g3,g4⟩
  ·exact absurd g2 hne
  ·rw[PX]at g3;refine⟨q,r,by rw[<- R.sve,h1],h4,g1,h5,g4,fun k v hk=>?_⟩;have K:Kp tag tag (fun j=>j=6+i) h (h.set r (bK (l.set k v))):=O6 g3 _;refine⟨?_,R.t0,?_,?_,?_,R.sve,R.wok⟩
   ·rw[hrow];exact (K 0 _ R.r0 (by rw[R.t0];omega)).1
   ·exact R.ds.keep K (by omega) fun _ h=>h
   ·exact R.cs.keep K (by omega) fun _ h=>h.keep K (by omega)
   ·right;have hq:r≠q:=fun e=>by rw[e,h3]at g3;omega
    refine⟨q,nm.cells,by rw[h1];simp[setSt],by simpa [setSt]using h2,h3,by rw[QE hq];exact h4,by simpa [setSt]using h5,rfl,?_⟩;exact h6.set i l hl (by rw[PX];exact g3) g4 g1 hk
theorem cO.snoc{tag:Nat->Nat}{h:Hp}{n:a7}{l:List Val}{av:AV}:{i:Nat} ->{nm:List a7} ->{st:List (List Val)} ->{cs:List AV} ->cO tag h i nm st cs->
  ((l=[]/\av= .sl [])\/∃r,av= .hs r 0 l.length 4 true/\tag r=6+(i+st.length)/\h[r]? = some (bK l))->cO tag h i (nm++[n]) (st++[l]) (cs++[.str n,av])
 |i,[],[],cs,H,ha=>by
  have H':cs=[]:=H;subst H';exact⟨av,[],rfl,ha,rfl⟩
 |i,_:: _,l0:: st,_,⟨av',rest,h1,h2,h3⟩,ha=>by
  refine⟨av',rest++[.str n,av],by rw[h1];rfl,h2,h3.snoc ?_⟩;rcases ha with ha|⟨r,g1,g2,g3⟩
  ·exact .inl ha
  ·exact .inr ⟨r,g1,by rw[g2];simp;omega,g3⟩
 |_,[],_:: _,_,H,_=>H.elim
 |_,_:: _,[],_,H,_=>H.elim
theorem cO.ok{tag:Nat->Nat}{h:Hp}:{i:Nat} ->{nm:List a7} ->{st:List (List Val)} ->{cs:List AV} ->cO tag h i nm st cs->cs.all ba=true
 |_,[],[],cs,H=>by
  have H':cs=[]:=H;subst H';rfl
 | _,_:: _,_:: _,_,⟨av,rest,h1,h2,h3⟩=>by
  subst h1;have:ba av=true:=by
   rcases h2 with⟨_,rfl⟩|⟨r,rfl,_⟩<;>rfl
  rw[P5,P5,this,h3.ok];rfl
 |_,[],_:: _,_,H=>H.elim
 |_,_:: _,[],_,H=>H.elim
theorem fq.at{tag:Nat->Nat}{h:Hp}:{l:List Call} ->{cs:List AV} ->fq tag h l cs->∀(i:Nat)(c:Call),l[i]? = some c->∃av,(cs.drop (i*3)).take 3=[.str c.module,.str c.func,av]/\tR tag 4 h c.args av
 |[],_,_,i,c,hc=>by simp at hc
 | d:: l,_,⟨av,rest,h1,h2,h3⟩,i,c,hc=>by
  subst h1;cases i with
  |zero=>simp at hc;subst hc;exact⟨av,by simp,h2⟩
  |succ i=>
   obtain⟨av',g1,g2⟩:=h3.at i c (by simpa using hc);refine⟨av',?_,g2⟩;rw[show (i+1)*3=i*3+3 by omega];simpa using g1
def i6{v:AV}(h:ba v=true):b9 1 v=true/\ab v=[v]/\cM v=some 1:=by
 cases v with
 |any=>cases h
 |agg _=>cases h
 |tup _=>cases h
 |nilb _=>cases h
 |byt _ _=>cases h
 |it _=>cases h
 |_=>exact⟨rfl,rfl,rfl⟩
def mu(m:Ms):Int:=m.deeds.length+m.calls.length+m.fuel
def TQ(k:Int){α:Type}(x:X α):Prop:=∀m a s,0<=m.fuel->x m= .ok a s->mu s<=mu m+k/\s.fuel<=m.fuel/\0<=s.fuel/\s.frames=m.frames
def BA{k:Int}{α:Type}{a:α}(hk:0<=k):TQ k (.ok a):=fun m b s h0 h=>by cases h;exact⟨by omega,QX _,h0,rfl⟩
def Gv{k:Int}{α:Type}{e:Int}:TQ k (α:=α) (.er e):=fun m b s _ h=>by cases h
def Ii{j k:Int}{α β:Type}{x:X α}{f:α->X β}(hx:TQ j x)(hf:∀a,TQ k (f a)):TQ (j+k) (x.bind f):=by
 intro m b s h0 h;unfold X.bind at h;cases hr:x m with
 |er e t=>rw[hr]at h;cases h
 |ok a t=>
  rw[hr]at h;obtain⟨h1,h2,h3,h4⟩:=hx m a t h0 hr;obtain⟨g1,g2,g3,g4⟩:=hf a t b s h3 h;exact⟨by omega,by omega,g3,g4.trans h4⟩
def dy{k:Int}{α β:Type}{x:X α}{f:α->X β}(hx:TQ 0 x)(hf:∀a,TQ k (f a)):TQ k (x.bind f):=by
 have:=Ii hx hf
 rwa [Sv]at this
def Bz{j k:Int}{α:Type}{x:X α}(h:TQ j x)(hk:j<=k):TQ k x:=fun m a s h0 e=>by
 obtain⟨h1,h2⟩:=h m a s h0 e;exact⟨by omega,h2⟩
def ct{k:Int}{α:Type}{c:Prop}[Decidable c]{x y:X α}(h1:TQ k x)(h2:TQ k y):TQ k (if c then x else y):=by
 split
 ·exact h1
 ·exact h2
def pX{r:X Val}(h:TQ 0 r):TQ 0 (boolX r):=dy h fun _=>ct (BA (QX _)) Gv
theorem vA{r:Exp->X Val}(h:∀e,TQ 0 (r e)):∀l,TQ 0 (listX r l)
 |[]=>BA (QX _)
 |e:: l=>dy (h e) fun _=>dy (vA h l) fun _=>BA (QX _)
def oc(p:List Mod)(r:Ev)(a:Int)(f:Fun)(l:List Val)(m:Ms):fD p r a f l m=if m.frames<60 then((r a (f.params.map (·.1)) l f.body).bind fun v=>.upd (fun m=>{ m with frames:=m.frames-1 }) (.ok v)) (kK p a f l m)else .er 6 m:=by
 unfold fD X.get;by_cases h:m.frames<60
 ·simp only[h,PF];rfl
 ·simp only[h,PE];rfl
def Gu{p:List Mod}{r:Ev}{a:Int}{f:Fun}{l:List Val}(hr:∀o ns vs e,TQ 0 (r o ns vs e)):TQ 1 (fD p r a f l):=by
 intro m v s h0 h;rw[oc]at h;split at h
 ·unfold X.bind at h;cases hr':r a (f.params.map (·.1)) l f.body (kK p a f l m)with
  |er e t=>rw[hr']at h;cases h
  | ok b t=>
   rw[hr']at h;cases h;obtain⟨h1,h2,h3,h4⟩:=hr _ _ _ _ (kK p a f l m) v t h0 hr';have hm:mu (kK p a f l m)<=mu m+1:=by
    simp only[mu,kK];split
    ·simp;omega
    ·omega
   have h4':t.frames=m.frames+1:=h4;have h2':t.fuel<=m.fuel:=h2;simp only[mu]at h1 hm |-;exact⟨by omega,h2',h3,by omega⟩
 ·cases h
def Ij{p:List Mod}{r:Ev}(hr:∀o ns vs e,TQ 0 (r o ns vs e))(o:Int)(ns:List a7)(vs:List Val)(e:Exp):TQ 0 (kF p r o ns vs e):=by
 have tick:∀y:X Val,TQ 1 y->TQ 0 (pz y):=fun y hy m a s h0 h=>by
  unfold pz X.get at h;by_cases hf:m.fuel<=0
  ·simp only[hf,PF]at h;cases h
  ·simp only[hf,PE]at h;obtain⟨h1,h2,h3,h4⟩:=hy { m with fuel:=m.fuel-1 } a s (by simp only;omega) h;simp only[mu]at h1 h2 |-;exact⟨by omega,by omega,h3,h4⟩
 have H:=fun e=>hr o ns vs e;have ok1:∀(α:Type)(a:α),TQ 1 (.ok a):=fun _ _=>BA (by omega);have er1:∀(α:Type) e,TQ 1 (α:=α) (.er e):=fun _ _=>Gv;have H1:=fun e=>Bz (H e) (show (0:Int)<=1 by omega);refine tick _ ?_;refine ct (er1 _ _) (ct (ok1 _ _) (ct (ct (ok1 _ _) (er1 _ _)) (ct ?_ (ct ?_ (ct ?_ (ct ?_ (ct ?_ (ct ?_ (ct ?_ (ct ?_ (ct ?_ (ct ?_ ?_))))))))))))
 ·split
  ·exact ok1 _ _
  ·exact er1 _ _
 ·refine dy (H _) fun a=>dy (H _) fun b=>?_;unfold kJ;exact ct (ct (ok1 _ _) (er1 _ _)) (ct (ct (ok1 _ _) (ct (ok1 _ _) (ct (ok1 _ _) (ok1 _ _)))) (er1 _ _))
 ·exact dy (pX (H _)) fun a=>ct (ok1 _ _) (dy (pX (H _)) fun b=>ok1 _ _)
 ·exact dy (pX (H _)) fun a=>ok1 _ _
 ·exact dy (pX (H _)) fun a=>ct (H1 _) (H1 _)
 ·exact dy (H _) fun v=>Bz (hr _ _ _ _) (by omega)
 ·unfold gV;exact ct (ct (dy (vA H _) fun vs=>ct (ok1 _ _) (er1 _ _)) (er1 _ _)) (er1 _ _)
 ·refine dy (H _) fun v=>?_;split
  ·exact ct (ok1 _ _) (er1 _ _)
  ·exact er1 _ _
 ·unfold me;simp only;split
  ·exact er1 _ _
  ·exact ct (ct (dy (vA H _) fun l=>Gu hr) (er1 _ _)) (er1 _ _)
 ·unfold r6;refine dy (H _) fun v=>ct (ct (fun m a s h0 h=>?_) (er1 _ _)) (er1 _ _);cases h;simp only[mu];exact⟨by simp;omega,QX _,h0,trivial⟩
 ·unfold rV;refine ct (er1 _ _) ?_;simp only;refine ct (er1 _ _) (ct (dy (H _) fun v m a s h0 h=>?_) fun m a s h0 h=>?_)
  ·cases h;exact⟨by simp only[mu];omega,QX _,h0,rfl⟩
  ·cases h;exact⟨by omega,QX _,h0,rfl⟩
theorem pY{p:List Mod}:∀(n:Nat)(o:Int)(ns:List a7)(vs:List Val)(e:Exp),TQ 0 (bR p n o ns vs e)
 |0,_,_,_,_=>Gv
 |n+1,o,ns,vs,e=>Ij (fun o ns vs e=>pY n o ns vs e) o ns vs e
structure GoodM (p:List Mod) (m:Ms):Prop where
 right:tX m
 bud:mu m<=1000000
 fr:0<=m.frames/\m.frames<=60
 fuel:0<=m.fuel
 shape:∀(i:Nat)(x:Mod),p[i]? = some x->∃l,m.state[i]? = some l/\l.length=x.vars.length
def GoodM.eval{p:List Mod}{n:Nat}{o:Int}{ns:List a7}{vs:List Val}{e:Exp}{m s:Ms}{v:Val}(G:GoodM p m)(hs:kP ns vs)(h:bR p n o ns vs e m= .ok v s):GoodM p s/\Rv v/\s.fuel<=m.fuel:=by
 obtain⟨h1,h2,h3,h4⟩:=pY n o ns vs e m v s G.fuel h;obtain⟨g1,g2,g3⟩:=kp (p:=p) n o ns vs e hs m G.right;rw[h]at g1 g2;refine⟨⟨g1,by have:=G.bud;omega,by rw[h4];exact G.fr,h3,fun i x hx=>?_⟩,g3 v s h,h2⟩;obtain⟨l,k1,k2⟩:=G.shape i x hx;have:(lI s)[i]? = (lI m)[i]?:=by rw[show lI s=lI m from g2]
 simp only[lI,Qp,k1,Qw]at this;cases hi:s.state[i]? with
 |none=>rw[hi]at this;cases this
 |some l'=>
  rw[hi]at this;simp only[Qw,Pn]at this;exact⟨l',rfl,by omega⟩
def GoodM.bool{p:List Mod}{n:Nat}{o:Int}{ns:List a7}{vs:List Val}{e:Exp}{m s:Ms}{b:Bool}(G:GoodM p m)(hs:kP ns vs)(h:boolX (bR p n o ns vs e) m= .ok b s):GoodM p s/\s.fuel<=m.fuel:=by
 unfold boolX X.bind at h;cases hr:bR p n o ns vs e m with
 |er c t=>rw[hr]at h;cases h
 | ok v t=>
  rw[hr]at h;simp only at h;split at h
  ·cases h;exact⟨(G.eval hs hr).1,(G.eval hs hr).2.2⟩
  ·cases h
def zM{v:Val}(h:Rv v):v.names.length<=8:=by
 unfold Rv bF at h;split at h
 ·simp only[Po,PR]at h;omega
 ·simp only[Po,Pt]at h;exact h.1.1.2
theorem AJ:∀(d:Nat)(v:Val),bF d v=true->v.sz<=17*9 ^ d
 |0,v,h=>by simp[bF]at h
 | d + 1,v,h=>by
  have hp:1<=9 ^ d:=Nat.one_le_pow _ _ (by decide);obtain⟨k,n,ns,vs⟩:=v;unfold bF at h;simp only[Val.sz];split at h
  ·simp only[Po,PR,O0,OY]at h;have h1:=h.1.1;have h2:vs=[]:=PL h.1.2;subst h2;simp only[bY];rw[Nat.pow_succ];omega
  ·simp only[Po,PR,PG,O0,OY]at h;have h8:=QQ h.1.1.2;have hl:=h.1.1.1.2;have hv:=h.2;have key:∀l:List Val,(∀v∈l,bF d v=true)->bY l<=l.length*(17*9 ^ d):=by
    intro l
    induction l with
    |nil=>intro _;simp[bY]
    |cons v l ih=>
     intro h;have h1:=AJ d v (h v P2);have h2:=ih fun w hw=>h w (PU _ hw);simp only[bY,PW];rw[Qh];omega
   have h3:=key vs hv;have h4:vs.length*(17*9 ^ d)<=8*(17*9 ^ d):=PQ _ (by omega);rw[Nat.pow_succ];omega
def rD{v:Val}(h:Rv v):v.sz<=200000:=QC (AJ 4 v h) (by decide)
end Go.Av.Ap
namespace Go.Av.Ap
open Go Go.Av
theorem nX{α β:Type}{F:α->β->Bool}{a:α}{b:β}:∀ {l:List α} {r:List β},cj F l r=true->F a b=true->cj F (l++[a]) (r++[b])=true
 |[],[],_,h=>by simp[cj,h]
 |x:: l,y:: r,h1,h=>by
  simp only[cj,Po]at h1;simp only[Qb,cj,Po];exact⟨h1.1,nX h1.2 h⟩
 |[],_:: _,h,_=>by simp[cj]at h
 |_:: _,[],h,_=>by simp[cj]at h
theorem vO{α β:Type}{F:α->β->Bool}:∀ {l:List α} {r:List β},cj F l r=true->l.length=r.length
 |[],[],_=>rfl
 |x:: l,y:: r,h=>by
  simp only[cj,Po]at h;simp[vO h.2]
 |[],_:: _,h=>by simp[cj]at h
 |_:: _,[],h=>by simp[cj]at h
theorem qV{fr:List bd}{vars:List Val}:∀ {B A:List bd} {acc l:List Val},fg fr vars B acc=some l->cj (fun f v=>fp f.2 v) A acc=true->cj (fun f v=>fp f.2 v) (A++B) l=true
 |[],A,acc,l,h,ha=>by
  simp only[fg,Pn]at h;subst h;rw[Qm];exact ha
 | f:: B,A,acc,l,h,ha=>by
  rw[fg]at h;split at h
  ·cases h
  ·rename_i hc;rw[not_or,Q4]at hc
   have:=qV (A:=A++[f]) h (nX ha hc.2)
   simpa using this
theorem ri{ns:List a7}{vars:List Val}:∀ {B:List bd} {es:List Exp} {A:List bd} {acc l:List Val},es.length=B.length->dR ns vars B es acc= .ok l->cj (fun f v=>fp f.2 v) A acc=true->cj (fun f v=>fp f.2 v) (A++B) l=true
 |[],[],A,acc,l,_,h,ha=>by
  simp only[dR,SB]at h;subst h;rw[Qm];exact ha
 | f:: B,e:: es,A,acc,l,hl,h,ha=>by
  rw[dR]at h;split at h
  ·cases h
  ·split at h
   ·rename_i hx
    have:=ri (A:=A++[f]) (by simpa using hl) h (nX ha hx)
    simpa using this
   ·cases h
 |[],_:: _,_,_,_,hl,_,_=>by simp at hl
 |_:: _,[],_,_,_,hl,_,_=>by simp at hl
def ny{l:List bd}{vs:List Val}(h:cj (fun f v=>fp f.2 v) l vs=true):cL l vs=true:=by
 simp only[cL,Po,Pt];exact⟨vO h,h⟩
def wS{F:bd->bd->Bool}{old now:Mod}{vars l:List Val}(h:fY F old now vars= .ok l):cL old.vars vars=true/\cL now.vars l=true:=by
 unfold fY at h;split at h
 ·cases h
 ·rename_i hm;rw[Q4]at hm;refine⟨hm,?_⟩;split at h
  ·cases hk:fg old.vars vars now.vars []with
   |none=>rw[hk]at h;cases h
   |some l'=>
    rw[hk]at h;simp only[ml,SB]at h;subst h;exact ny (by have:=qV (A:=[]) hk rfl;simpa using this)
  ·split at h
   ·cases h
   ·rename_i hl;rw[Q4]at hl;simp only[ig,Po,Pt]at hl;exact ny (by have:=ri (A:=[]) hl.1.1 h rfl;simpa using this)
def ED{F:bd->bd->Bool}{old now:Mod}{vars l:List Val}(h:mU F old now vars= .ok l):cL now.vars vars=true/\cL old.vars l=true:=by
 unfold mU at h;split at h
 ·cases h
 ·rename_i hm;rw[Q4]at hm;refine⟨hm,?_⟩;split at h
  ·cases hk:fg now.vars vars old.vars []with
   |none=>rw[hk]at h;cases h
   |some l'=>
    rw[hk]at h;simp only[ml,SB]at h;subst h;exact ny (by have:=qV (A:=[]) hk rfl;simpa using this)
  ·split at h
   ·cases h
   ·rename_i hl;rw[Q4]at hl;simp only[ig,Po,Pt]at hl;exact ny (by have:=ri (A:=[]) hl.1.2 h rfl;simpa using this)
mutual
def mn:Exp->Nat
 |.mk _ _ _ _ _ es=>1+jV es
def jV:List Exp->Nat
 |[]=>0
 |e:: es=>mn e+jV es
end
def vr(e:Exp):mn e=1+jV e.args:=by cases e;rfl
def FQ{α:Type}(x:X α)(k:Nat):Prop:=∀m,(k:Int)<=m.fuel->(∀c s,x m= .er c s->c≠16)/\∀a s,x m= .ok a s->m.fuel-k<=s.fuel
def ir{α:Type}(a:α)(k:Nat):FQ (.ok a) k:=fun m _=>⟨fun c s h=>(by cases h),fun b s h=>by cases h;omega⟩
def iS{α:Type}{c:Int}(hc:c≠16)(k:Nat):FQ (.er c:X α) k:=fun m _=>⟨fun c s h=>by cases h;exact hc,fun b s h=>by cases h⟩
def eV{α β:Type}{x:X α}{f:α->X β}{k j:Nat}(hx:FQ x k)(hf:∀a,FQ (f a) j):FQ (x.bind f) (k+j):=fun m hm=>by
 obtain⟨h1,h2⟩:=hx m (by omega);unfold X.bind;cases hr:x m with
 |er c s=>exact⟨fun c' s' h=>by cases h;exact h1 _ _ hr,fun b s' h=>by cases h⟩
 |ok a s=>
  have h3:=h2 _ _ hr;obtain⟨g1,g2⟩:=hf a s (by omega);exact⟨g1,fun b s' h=>by have:=g2 b s' h;omega⟩
def uA{α:Type}{x:X α}{k j:Nat}(hx:FQ x k)(h:k<=j):FQ x j:=fun m hm=>by
 obtain⟨h1,h2⟩:=hx m (by omega);exact⟨h1,fun a s hs=>by have:=h2 a s hs;omega⟩
def dJ{α:Type}{P:Prop}[Decidable P]{x y:X α}{k:Nat}(hx:P->FQ x k)(hy:¬P->FQ y k):FQ (if P then x else y) k:=by
 by_cases h:P
 ·rw[Ps h];exact hx h
 ·rw[if_neg h];exact hy h
def pM{x:X Val}{k:Nat}(h:FQ x k):FQ (boolX x) k:=by
 have:=eV (j:=0) (f:=fun v:Val=>if v.kind=1 then X.ok (v.n== 1)else .er 13) h fun v=>dJ (fun _=>ir _ _) fun _=>iS (by decide) _
 exact this
theorem AO{r:Exp->X Val}:∀(l:List Exp),(∀e∈l,FQ (r e) (mn e))->FQ (listX r l) (jV l)
 |[],_=>ir _ _
 |e:: l,h=>uA (eV (h e P2) fun v=>eV (j:=0) (AO l fun x hx=>h x (PU _ hx)) fun vs=>ir _ _) (by simp[jV])
def Cl{r:Exp->X Val}{e:Exp}(h:∀x∈e.args,FQ (r x) (mn x)):FQ (gV r e) (jV e.args):=by
 unfold gV;exact dJ (fun _=>dJ (fun _=>eV (j:=0) (AO _ h) fun vs=>dJ (fun _=>ir _ _) fun _=>iS (by decide) _) fun _=>iS (by decide) _) fun _=>iS (by decide) _
theorem Cn(at_:Int)(s:a7):jI [] at_ s=none:=by
 unfold jI;split
 ·rfl
 ·have hd:(default:Mod).funcs=[]:=rfl;simp[kD,aV,hd]
def Hs{r:Ev}{own:Int}{ns:List a7}{vs:List Val}{e:Exp}(k:Nat):FQ (me [] r own ns vs e) k:=by
 unfold me;simp only[Cn];exact iS (by decide) _
def Ki{r:Exp->X Val}{own:Int}{e:Exp}(h:own<0)(k:Nat):FQ (rV [] r own e) k:=by
 unfold rV;rw[Ps h];exact iS (by decide) _
def rR{l:List Exp}(h:l.length=1):∃a,l=[a]/\l[0]! = a/\jV l=mn a:=by
 match l,h with
 |[a],_=>exact⟨a,rfl,rfl,by simp[jV]⟩
def rS{l:List Exp}(h:l.length=2):∃a b,l=[a,b]/\l[0]! = a/\l[1]! = b/\jV l=mn a+mn b:=by
 match l,h with
 |[a,b],_=>exact⟨a,b,rfl,rfl,rfl,by simp[jV]⟩
def Ac{l:List Exp}(h:l.length=3):∃a b c,l=[a,b,c]/\l[0]! = a/\l[1]! = b/\l[2]! = c/\jV l=mn a+mn b+mn c:=by
 match l,h with
 |[a,b,c],_=>exact⟨a,b,c,rfl,rfl,rfl,rfl,by simp[jV];omega⟩
def Kg{x:X Val}{e:Exp}{k:Nat}(h:FQ x k):FQ (r6 x e) k:=by
 unfold r6;refine eV (j:=0) h fun v=>dJ (fun _=>dJ (fun _=>?_) fun _=>iS (by decide) _) fun _=>iS (by decide) _;intro m hm;exact⟨fun c s h=>(by cases h),fun a s h=>by cases h;simp⟩
def Kh(op:Int)(a b:Val):FQ (kJ op a b) 0:=by
 unfold kJ;exact dJ (fun _=>dJ (fun _=>ir _ _) fun _=>iS (by decide) _) fun _=>dJ (fun _=>dJ (fun _=>ir _ _) fun _=>dJ (fun _=>ir _ _) fun _=>dJ (fun _=>ir _ _) fun _=>ir _ _) fun _=>iS (by decide) _
def Ht{r:Ev}{own:Int}(ho:own<0){ns:List a7}{vs:List Val}{e:Exp}(hr:∀ns vs,∀x∈e.args,FQ (r own ns vs x) (mn x)):FQ (kF [] r own ns vs e) (mn e):=by
 have main:∀x:X Val,FQ x (jV e.args)->FQ (X.get fun m=>if m.fuel<=0 then X.er 16 else X.upd (fun m=>{ m with fuel:=m.fuel-1 }) x) (mn e):=by
  intro x hx m hm;rw[vr]at hm |-;have h0:¬m.fuel<=0:=by omega
  obtain⟨h1,h2⟩:=hx { m with fuel:=m.fuel-1 } (by simp only;omega);have e:X.get (fun m=>if m.fuel<=0 then X.er 16 else X.upd (fun m=>{ m with fuel:=m.fuel-1 }) x) m=x { m with fuel:=m.fuel-1 }:=by
   show (if m.fuel<=0 then X.er 16 else X.upd (fun m=>{ m with fuel:=m.fuel-1 }) x) m=_;rw[if_neg h0];rfl
  rw[e];exact⟨h1,fun a s h=>by have:=h2 a s h;simp only at this;omega⟩
 unfold kF;refine main _ ?_;simp only;refine dJ (fun _=>iS (by decide) _) fun hn=>?_;rw[not_or]at hn;have hlen:aQ e.op≠-1->aQ e.op=e.args.length:=fun h=>by
  by_cases h2:aQ e.op=(e.args.length:Int)
  ·exact h2
  ·exact absurd ⟨h,h2⟩ hn.2
 refine dJ (fun _=>ir _ _) fun h0=>dJ (fun _=>dJ (fun _=>ir _ _) fun _=>iS (by decide) _) fun h1=>dJ (fun _=>?_) fun h2=>dJ (fun h3=>?_) fun h3=>dJ (fun h8=>?_) fun h8=>dJ (fun h10=>?_) fun h10=>dJ (fun h11=>?_) fun h11=>
  dJ (fun h12=>?_) fun h12=>dJ (fun h13=>?_) fun h13=>dJ (fun h14=>?_) fun h14=>dJ (fun h15=>?_) fun h15=>dJ (fun h16=>?_) fun h16=>Ki ho _
 ·split
  ·exact ir _ _
  ·exact iS (by decide) _
 ·have ha:aQ e.op=2:=by rcases h3 with h|h|h|h|h<;>rw[h]<;>decide
  obtain⟨a,b,el,e0,e1,es⟩:=rS (l:=e.args) (by have:=hlen (by omega);omega);rw[e0,e1,es];exact eV (hr _ _ a (by simp[el])) fun x=>eV (j:=0) (hr _ _ b (by simp[el])) fun y=>Kh _ _ _
 ·have ha:aQ e.op=2:=by rcases h8 with h|h<;>rw[h]<;>decide
  obtain⟨a,b,el,e0,e1,es⟩:=rS (l:=e.args) (by have:=hlen (by omega);omega);rw[e0,e1,es];exact eV (pM (hr _ _ a (by simp[el]))) fun x=>dJ (fun _=>ir _ _) fun _=>eV (j:=0) (pM (hr _ _ b (by simp[el]))) fun y=>ir _ _
 ·have ha:aQ e.op=1:=by rw[h10];decide
  obtain⟨a,el,e0,es⟩:=rR (l:=e.args) (by have:=hlen (by omega);omega);rw[e0,es];exact eV (j:=0) (pM (hr _ _ a (by simp[el]))) fun x=>ir _ _
 ·have ha:aQ e.op=3:=by rw[h11];decide
  obtain⟨a,b,c,el,e0,e1,e2,es⟩:=Ac (l:=e.args) (by have:=hlen (by omega);omega);rw[e0,e1,e2,es,Nat.add_assoc];exact eV (pM (hr _ _ a (by simp[el]))) fun x=>dJ (fun _=>uA (hr _ _ b (by simp[el])) (by omega)) fun _=>uA (hr _ _ c (by simp[el])) (by omega)
 ·have ha:aQ e.op=2:=by rw[h12];decide
  obtain⟨a,b,el,e0,e1,es⟩:=rS (l:=e.args) (by have:=hlen (by omega);omega);rw[e0,e1,es];exact eV (hr _ _ a (by simp[el])) fun x=>hr _ _ b (by simp[el])
 ·exact Cl (hr _ _)
 ·have ha:aQ e.op=1:=by rw[h14];decide
  obtain⟨a,el,e0,es⟩:=rR (l:=e.args) (by have:=hlen (by omega);omega);rw[e0,es];refine eV (j:=0) (hr _ _ a (by simp[el])) fun x=>?_;split
  ·exact dJ (fun _=>ir _ _) fun _=>iS (by decide) _
  ·exact iS (by decide) _
 ·exact Hs _
 ·have ha:aQ e.op=1:=by rw[h16];decide
  obtain⟨a,el,e0,es⟩:=rR (l:=e.args) (by have:=hlen (by omega);omega);rw[e0,es];exact Kg (hr _ _ a (by simp[el]))
def Ic{e x:Exp}(h:x∈e.args):mn x<mn e:=by
 rw[vr e];have key:∀l:List Exp,x∈l->mn x<=jV l:=by
  intro l
  induction l with
  |nil=>intro h;cases h
  |cons a l ih=>
   intro h;simp only[jV];rcases P0.1 h with rfl|h
   ·omega
   ·have:=ih h;omega
 have:=key _ h
 omega
theorem AM{own:Int}(ho:own<0):∀(g:Nat)(e:Exp)(ns:List a7)(vs:List Val),mn e<=g->FQ (bR [] g own ns vs e) (mn e)
 |0,e,_,_,h=>by rw[vr]at h;omega
 |g+1,e,ns,vs,h=>Ht ho fun ns vs x hx=>AM ho g x ns vs (by have:=Ic hx;omega)
def wC{e:Exp}{ns:List a7}{vs:List Val}(h:mn e<=100000){c:Int}{s:Ms}(hx:fW e ns vs= .er c s):c≠16:=by
 unfold fW at hx;split at hx
 ·exact (AM (by decide) 100000 e ns vs h (de [] 100000 []) (by show (mn e:Int)<=100000;omega)).1 c s hx
 ·cases hx;decide
abbrev Bl(e:Exp):Bool:=cB 12 e
def xF:List a7->List bd->Bool
 |_,[]=>true
 |seen,f:: l=>!(seen.contains f.1)&&cX f.1&&bg f.2&&xF (seen++[f.1]) l
def gg(l:List bd)(most:Int):Bool:=xF [] l&&decide ((l.length:Int)<=most)
def Ck(f:Fun):Bool:=cX f.name&&gg f.params 6&&bg f.result&&Bl f.body&&(eU f.effects 15== 0)
def pm:List a7->List Fun->Bool
 |_,[]=>true
 |seen,f:: l=>!(seen.contains f.name)&&Ck f&&pm (seen++[f.name]) l
def FS:List a7->List a7->Bool
 |_,[]=>true
 |seen,s:: l=>!(seen.contains s)&&cX s&&FS (seen++[s]) l
def tD(m:Mod):Bool:=cX m.name&&decide (m.uses.length<=12)&&decide (m.funcs.length<=30)&&gg m.vars 8&&(m.init.all Bl&&((m.init.length:Int)== m.vars.length))&&(m.moves||decide (m.old.length=0)) &&
 (gg m.old 8&&(m.forward.all Bl&&((m.forward.length:Int)== (if m.moves=true then(m.vars.length:Int)else 0)))&&(m.back.all Bl&&((m.back.length:Int)== m.old.length)))
def lF(m:Mod):Bool:=FS [] m.uses&&(pm [] m.funcs&&tD m)
theorem nC:(l:List bd)->(seen:List a7)->xF seen l=true->(∀f∈l,cX f.1=true/\bg f.2=true/\f.1 ∉ seen)/\(l.map (·.1)).Nodup
 |[],seen,_=>⟨fun f h=>(by cases h),List.nodup_nil⟩
 | f:: l,seen,h=>by
  simp only[xF,Po,Qr]at h;obtain⟨⟨⟨h1,h2⟩,h3⟩,h4⟩:=h;obtain⟨i1,i2⟩:=nC l _ h4;have h1':f.1 ∉ seen:=fun hm=>by rw[Rq.2 hm]at h1;cases h1
  refine⟨fun g hg=>?_,?_⟩
  ·rcases P0.1 hg with rfl|hg
   ·exact⟨h2,h3,h1'⟩
   ·obtain⟨j1,j2,j3⟩:=i1 g hg;exact⟨j1,j2,fun hm=>j3 (Q7 _ hm)⟩
  ·rw[Qu,RD];refine⟨fun hm=>?_,i2⟩;obtain⟨g,hg,e⟩:=QU.1 hm;exact (i1 g hg).2.2 (QT _ (by rw[e];simp))
theorem tw:(l:List Fun)->(seen:List a7)->pm seen l=true->(∀f∈l,Ck f=true/\f.name ∉ seen)/\(l.map (·.name)).Nodup
 |[],seen,_=>⟨fun f h=>(by cases h),List.nodup_nil⟩
 | f:: l,seen,h=>by
  simp only[pm,Po,Qr]at h;obtain⟨⟨h1,h2⟩,h4⟩:=h;obtain⟨i1,i2⟩:=tw l _ h4;have h1':f.name ∉ seen:=fun hm=>by rw[Rq.2 hm]at h1;cases h1
  refine⟨fun g hg=>?_,?_⟩
  ·rcases P0.1 hg with rfl|hg
   ·exact⟨h2,h1'⟩
   ·obtain⟨j1,j3⟩:=i1 g hg;exact⟨j1,fun hm=>j3 (Q7 _ hm)⟩
  ·rw[Qu,RD];refine⟨fun hm=>?_,i2⟩;obtain⟨g,hg,e⟩:=QU.1 hm;exact (i1 g hg).2 (QT _ (by rw[e];simp))
structure FunOk (f:Fun):Prop where
 name:cX f.name=true
 plen:f.params.length<=6
 pars:∀z∈f.params,bg z.2=true
 pnames:(f.params.map (·.1)).Nodup
 res:bg f.result=true
 body:cB 12 f.body=true
 eff:eU f.effects 15=0
def Kk{f:Fun}(h:Ck f=true):FunOk f:=by
 unfold Ck gg at h;simp only[Po,Pt,PR]at h;obtain⟨⟨⟨⟨h1,h2,h3⟩,h4⟩,h5⟩,h6⟩:=h;obtain⟨i1,i2⟩:=nC _ _ h2;exact⟨h1,by omega,fun z hz=>(i1 z hz).2.1,i2,h4,h5,h6⟩
structure ModOk (m:Mod):Prop where
 name:cX m.name=true
 ulen:m.uses.length<=12
 flen:m.funcs.length<=30
 fns:∀f∈m.funcs,FunOk f
 fnames:(m.funcs.map (·.name)).Nodup
 vlen:m.vars.length<=8
 vars:∀z∈m.vars,bg z.2=true
 vnames:(m.vars.map (·.1)).Nodup
 ilen:m.init.length=m.vars.length
 init:∀e∈m.init,cB 12 e=true
 olen:m.old.length<=8
 old:∀z∈m.old,bg z.2=true
 wlen:m.moves=true->m.forward.length=m.vars.length
 forw:∀e∈m.forward,cB 12 e=true
 blen:m.back.length=m.old.length
 back:∀e∈m.back,cB 12 e=true
def FL{m:Mod}(h:lF m=true):ModOk m:=by
 unfold lF tD gg at h;simp only[Po,Pt,PR,PG,Qn]at h;obtain⟨h1,h2,⟨⟨⟨⟨⟨h3,h4⟩,h5⟩,h6,h7⟩,h8,h9⟩,h10⟩,⟨⟨h11,h12⟩,h13,h14⟩,h15,h16⟩:=h;obtain⟨f1,f2⟩:=tw _ _ h2;obtain⟨v1,v2⟩:=nC _ _ h6;obtain⟨o1,_⟩:=nC _ _ h11;exact⟨h3,h4,h5,fun f hf=>Kk (f1 f hf).1,f2,by omega,fun z hz=>(v1 z hz).2.1,v2,by omega,h8,by omega,fun z hz=>(o1 z hz).2.1,fun hm=>by rw[Ps hm]at h14;omega,h13,by omega,h15⟩
theorem gm:(a:a7)->bH a a=false
 |[]=>rfl
 |x:: a=>by simp[bH,gm a]
theorem jw:(a b c:a7)->bH a b=true->bH b c=true->bH a c=true
 |_,[],c,h,_=>by cases ‹a7› <;> simp[bH]at h
 |_,_:: _,[],_,h=>by simp[bH]at h
 |[],_:: _,_:: _,_,_=>by simp[bH]
 | x:: a,y:: b,z:: c,h1,h2=>by
  simp only[bH,Qn,Po,Pt,PR,UInt8.lt_iff_toNat_lt]at h1 h2 |-;rcases h1 with h1|⟨rfl,h1⟩
  ·rcases h2 with h2|⟨rfl,h2⟩
   ·exact .inl (by omega)
   ·exact .inl h1
  ·rcases h2 with h2|⟨rfl,h2⟩
   ·exact .inl h2
   ·exact .inr ⟨rfl,jw a b c h1 h2⟩
theorem mm:(a b:a7)->bH a b=false->a≠b->bH b a=true
 |[],[],_,h=>absurd rfl h
 |[],_:: _,h,_=>by simp[bH]at h
 |_:: _,[],_,_=>by simp[bH]
 | x:: a,y:: b,h1,h2=>by
  simp only[bH,Q6,QV,Qn,Po,Pt,PR,UInt8.lt_iff_toNat_lt]at h1 |-;by_cases e:x=y
  ·subst e;refine .inr ⟨rfl,mm a b ?_ fun e=>h2 (by rw[e])⟩;simpa using h1.2
  ·refine .inl ?_;have:x.toNat≠y.toNat:=fun e'=>e (UInt8.toNat_inj.1 e');omega
def qf(p f:a7):eH p f=true↔bH p f=true:=by
 unfold eH;rw[Qr,Q6];constructor
 ·rintro⟨h1,h2⟩;exact mm f p h1 (PP.1 h2)
 ·intro h;refine⟨?_,?_⟩
  ·cases hc:bH f p with
   |false=>rfl
   |true=>exact absurd (jw _ _ _ h hc) (by simp[gm])
  ·rw[PP];rintro rfl;rw[gm]at h;cases h
theorem sF{α:Type}{Q:α->α->Bool}{nm:α->a7}(hQ:∀x y,Q x y=true->bH (nm x) (nm y)=true):(l:List α)->kV Q l=true->l.Pairwise fun x y=>bH (nm x) (nm y)=true
 |[],_=>.nil
 |[x],_=>by simp
 |x:: y:: r,h=>by
  simp only[kV,Po]at h;have ih:=sF hQ (y:: r) h.2;refine .cons (fun z hz=>?_) ih;have h1:=hQ _ _ h.1;rcases P0.1 hz with rfl|hz
  ·exact h1
  ·exact jw _ _ _ h1 ((Se.1 ih).1 z hz)
def Fb{t:Ty}{f:bd}(h:f∈t.fields):SizeOf.sizeOf f.2<SizeOf.sizeOf t:=by
 cases t with
 |mk k fs=>
  have h1:SizeOf.sizeOf f<SizeOf.sizeOf fs:=Q2 h;obtain⟨n,u⟩:=f;simp only[Rz]at h1;simp only[Ty.mk.sizeOf_spec];omega
end Go.Av.Ap
namespace Go.Av.Ap
open Go Go.Av
section
variable {α:Type} {f:α->AV} {sz:Nat}
def rowOf(f:α->AV)(l:List α):List AV:=(l.map f).flatMap ab
theorem kq(x:α)(l:List α):rowOf f (x:: l)=ab (f x)++rowOf f l:=by simp[rowOf]
theorem oL(hs:∀x,(ab (f x)).length=sz):(l:List α)->(rowOf f l).length=l.length*sz
 |[]=>by simp[rowOf]
 |x:: l=>by rw[kq,P1,hs,oL hs l,PW,So];omega
theorem pr(hs:∀x,(ab (f x)).length=sz):(l:List α)->(i:Nat)->(h:i<l.length)->((rowOf f l).drop (i*sz)).take sz=ab (f l[i])
 |x:: l,0,_=>by
  rw[kq,QY,PT,List.take_left' (hs x)];rfl
 |x:: l,i+1,h=>by
  rw[kq,show (i+1)*sz=(ab (f x)).length+i*sz by rw[hs,So];omega,Su,PD (by omega),RJ,P7];simpa using pr hs l i (by simpa using h)
theorem Cm(hs:∀x,(ab (f x)).length=sz)(hag:∀x,f x= .agg (ab (f x)))(hcl:∀x g,cl g (f x)=f x)(hz:0<sz){h:Hp}{q:Nat}{l:List α}(hq:h[q]? = some (rowOf f l))(d:Nat):
  kC (d+1) h (.hs q 0 l.length sz true)= .sl (l.map f):=by
 have hlen:=oL (f:=f) hs l;simp only[kC,cl,hq];have h1:(decide (0+l.length*sz<=(rowOf f l).length)&&decide (0<sz)&&(true||(Nat.beq sz 1&&(rowOf f l).all ba)))=true:=by
  simp[hlen,hz]
 rw[h1,Pq];congr 1;apply List.ext_getElem
 ·simp
 ·intro i h2 h3;have hi:i<l.length:=by simpa using h2
  simp only[List.getElem_map,List.getElem_range,PX,Pq];rw[pr hs l i hi,<- hag];cases d with
  |zero=>exact hcl _ _
  |succ d=>exact hcl _ _
end
end Go.Av.Ap
namespace Go.Av.Ap
open Go Go.Av
def m8:Face:=⟨[],[]⟩
def eK(m:Mod)(fs:List Face):Tcx:=⟨m.vars,m.funcs,m.uses,fun s=>fs.find? fun f=>f.module== s⟩
def dP:List Face->List Face->List Face
 |acc,[]=>acc
 |acc,f:: fs=>dP (if(acc.find? fun g=>g.module== f.module).isSome=true then acc else acc++[f]) fs
def Da(m:Mod)(fs:List Face):List (a7×Int):=m.funcs.map fun f=>(f.name,GM (eK m fs) f)
def mr(m:Mod)(fs:List Face):List (a7×Int):=m.uses.map fun u=>(u,if(fs.find? fun f=>f.module== u).isNone||u== m.name then 12 else 0)
def kY(m:Mod)(fs:List Face):a7×Int:=if(fs.all iP&&lF m)=true then cn (mr m (dP [] fs)++jt m:: Da m (dP [] fs))else([],1)
theorem uv:{l:List (a7×Int)} ->(cn l).2=0->∀x∈l,x.2=0
 |[],_,x,hx=>by cases hx
 | y:: l,h,x,hx=>by
  unfold cn at h;split at h
  ·rename_i hy;rcases P0.1 hx with rfl|hx
   ·exact hy
   ·exact uv h x hx
  ·rename_i hy;exact absurd h hy
mutual
def KE:Exp->List Exp
 |.mk o n s m ns es=>.mk o n s m ns es:: Bd es
def Bd:List Exp->List Exp
 |[]=>[]
 |e:: es=>KE e++Bd es
end
end Go.Av.Ap
namespace Go.Av
open Go
section
variable {F:Fence} {n:Nat} {P:Program} {w w':World} {ops:Array Oper} {rest:List Oper} {o:Oper} {a:Act} {Q:Exit->Act->World->Prop} {v:Value}
end
end Go.Av
namespace Go.Av.Ap
open Go Go.Av
def mI{T:TT}{t:Nat}{ti:TI}(ht:T t=some ti)(ha:ti.agg=false){h:Hp}{l k:Nat}{cs:List AV}{v:AV}(h0:h[l]? = some cs)(h1:cs[k]? = some v):aW T t (.hp l k) h= .ok v h:=by
 simp[aW,ht,h0,ha,h1]
def FD{T:TT}{t:Nat}{ti:TI}(ht:T t=some ti)(ha:ti.agg=true){h:Hp}{l k:Nat}{cs:List AV}(h0:h[l]? = some cs)(hle:k+ti.size<=cs.length):aW T t (.hp l k) h= .ok (.agg ((cs.drop k).take ti.size)) h:=by
 simp[aW,ht,h0,ha,hle]
def vo{T:TT}{t:Nat}{ti:TI}(ht:T t=some ti){h:Hp}{l k:Nat}{cs:List AV}{v:AV}(h0:h[l]? = some cs)(hv:b9 ti.size v=true)(hle:k+ti.size<=cs.length)(hp:0<ti.size):
  bP T t (.hp l k) v h= .ok (.tup []) (h.set l (setCells cs k (ab v))):=by
 simp[bP,ht,h0,hv,hle,hp]
def LR{T:TT}{t e:Nat}{ti ei:TI}(ht:T t=some ti)(hk:ti.kind= .slice e)(he:T e=some ei){x:AV}(hx:b9 ei.size x=true)(hb:0<ei.bytes)(hs:0<ei.size)(hc:ei.bytes<=140737488355328)(h:Hp):
  appH T t false .hn (.sl [x]) h= .ok (.hs h.length 0 1 ei.size ei.agg) (h++[ab x]):=by
 have:di ei.size [x]=true:=by simp[di,hx]
 simp[appH,ht,hk,he,io,this,hb,hs,jU,hc]
def LS{T:TT}{t e:Nat}{ti ei:TI}(ht:T t=some ti)(hk:ti.kind= .slice e)(he:T e=some ei){x:AV}(hx:b9 ei.size x=true)(hb:0<ei.bytes)(hs:0<ei.size){h:Hp}{q n:Nat}{cs:List AV}(h0:h[q]? = some cs)(hok:cs.all ba=true)(hl:cs.length=n*ei.size)(hn:0<n)(hc:(n+1)*ei.bytes<=140737488355328):appH T t false (.hs q 0 n ei.size ei.agg) (.sl [x]) h= .ok (.hs h.length 0 (n+1) ei.size ei.agg) ((h.set q [])++[cs++ab x]):=by
 have h1:di ei.size [x]=true:=by simp[di,hx]
 have h2:List.all cs ba=true:=hok;have h3:0<n*ei.size:=Rm hn hs;have h4:cs.take (n*ei.size)=cs:=by rw[<- hl];exact Rc
 simp only[appH,ht,hk,he,io,h1,hb,hs,jU,h0,h2,hl,Qi,Ry,Pq,QG,QD,List.isEmpty_cons,Py,QM,List.flatMap_nil,Qm,h3,h4,Pw];rw[Q9 hc];simp
def xZ{e:Exp}(h:lH e=true):(e.op=0/\e.args.length=0)\/(e.op=1/\e.args.length=0/\(e.n=0\/e.n=1))\/(e.op=2/\e.args.length=0)\/((e.op=3\/e.op=4\/e.op=5\/e.op=6\/e.op=7)/\e.args.length=2)\/((e.op=8\/e.op=9)/\e.args.length=2)\/(e.op=10/\e.args.length=1)\/(e.op=11/\e.args.length=3)\/(e.op=12/\e.args.length=2)\/(e.op=13/\e.names.length=e.args.length/\rk e.names=true)\/(e.op=14/\e.args.length=1)\/e.op=15\/(e.op=16/\e.args.length=1/\(e.n=1\/e.n=2\/e.n=4\/e.n=8))\/(e.op=17/\e.args.length=0)\/(e.op=18/\e.args.length=1):=by
 have hb:0<=e.op/\e.op<19:=by
  unfold lH at h;simp only[Po,Pt]at h;exact⟨h.1.1.1.1.1.1.1,h.1.1.1.1.1.1.2⟩
 have ho:e.op=0\/e.op=1\/e.op=2\/e.op=3\/e.op=4\/e.op=5\/e.op=6\/e.op=7\/e.op=8\/e.op=9\/e.op=10\/e.op=11\/e.op=12\/e.op=13\/e.op=14\/e.op=15\/e.op=16\/e.op=17\/e.op=18:=by omega
 rcases ho with o|o|o|o|o|o|o|o|o|o|o|o|o|o|o|o|o|o|o<;>simp[lH,fC,fQ,o,-List.length_eq_zero_iff]at h|- <;> first|omega|grind
def bv(n:Int):BitVec 64:=BitVec.ofInt 64 n
def jy(a b:Int):Prop:=bv a ||| bv b=bv b
def jy.refl(a:Int):jy a a:=SD
def jy.trans{a b c:Int}(h1:jy a b)(h2:jy b c):jy a c:=by
 unfold jy at *;rw[<- h2,<- SC,h1]
theorem Aw(b:BitVec 64):bv (IntKind.i64.wrap b.toNat)=b:=by
 unfold bv;have h:IntKind.i64.wrap b.toNat=b.toInt:=by
  have h:=b.isLt;rw[BitVec.toInt_eq_toNat_cond];have h1:(2:Int) ^ IntKind.i64.bits=18446744073709551616:=rfl;have h2:(2:Int) ^ (IntKind.i64.bits-1)=9223372036854775808:=rfl;have h3:((2 ^ 64:Nat):Int)=18446744073709551616:=rfl;have h4:(b.toNat:Int) % 18446744073709551616=b.toNat:=by omega
  simp only[IntKind.wrap,h1,h2,h3,h4];have h5:IntKind.i64.signed=true:=rfl;rw[h5,QJ];by_cases hb:2*b.toNat<2 ^ 64
  ·rw[Ps hb,if_neg (by simp;omega)]
  ·rw[if_neg hb,Ps (by simp;omega)]
 rw[h,BitVec.ofInt_toInt]
def Jd(a b:Int):bv (nG a b)=bv a ||| bv b:=Aw _
def pW(a b:Int):jy a (nG a b):=by
 unfold jy;rw[Jd,<- SC,SD]
def Bw(a b:Int):jy b (nG a b):=by
 unfold jy;rw[Jd,BitVec.or_comm (bv a),<- SC,SD]
def wA{a b:Int}(h:eU a b=0):jy a b:=by
 have h1:bv (eU a b)=bv a &&& ~~~ bv b:=Aw _;rw[h]at h1;unfold jy;have h2:bv a &&& ~~~ bv b=0#64:=h1.symm
 ext i hi
 have:=Pp (fun x:BitVec 64=>x.getLsbD i) h2
 simp only[BitVec.getLsbD_and,BitVec.getLsbD_not,hi,Qi,QJ,BitVec.getLsbD_zero]at this;rw[BitVec.getElem_or];simp only[BitVec.getLsbD_eq_getElem hi]at this;cases h1:(bv a)[i]<;>cases h2:(bv b)[i]<;>simp[h1,h2]at this |-
mutual
def eN:Ty->Val->Prop
 |.mk k fs,v=>v.kind=k/\(fs≠[]->k=2)/\qK fs v
def qK:List (a7×Ty)->Val->Prop
 |[],_=>True
 |f:: fs,v=>Fj f v/\qK fs v
def Fj:a7×Ty->Val->Prop
 |(n,t),v=>∃x,dQ v.names v.values n=some x/\eN t x
end
theorem om(v:Val):(fs:List bd)->(qK fs v↔∀f∈fs,Fj f v)
 |[]=>by simp[qK]
 |f:: fs=>by simp[qK,om v fs]
def wY(f:bd)(v:Val):Fj f v↔∃x,dQ v.names v.values f.1=some x/\eN f.2 x:=by
 obtain⟨n,t⟩:=f;simp only[Fj]
def eF(t:Ty)(v:Val):eN t v↔v.kind=t.kind/\(t.fields≠[]->t.kind=2)/\∀f∈t.fields,∃x,dQ v.names v.values f.1=some x/\eN f.2 x:=by
 cases t with
 |mk k fs=>simp only[eN,om,wY,Ty.kind,Ty.fields]
theorem kf{α:Type}{p:α->Bool}:{l:List α} ->{z:α} ->bW p l=some z->z∈l/\p z=true
 |[],z,h=>by cases h
 | x:: l,z,h=>by
  simp only[bW]at h;split at h
  ·rename_i y hy;cases h
   have:=kf hy
   exact⟨PU _ this.1,this.2⟩
  ·cases hx:p x with
   |true=>
    rw[hx]at h;cases h;exact⟨P2,hx⟩
   |false=>rw[hx]at h;cases h
theorem iC:∀(d:Nat)(a b:Ty)(v:Val),dm d b=true->cd a b=true->eN a v->eN b v
 |0,_,_,_,h,_,_=>by cases h
 | d+1,a,b,v,h,hb,hv=>by
  rw[fR]at h;rw[sI]at hb;rw[eF]at hv |-;simp only[Po,PG,PR,Qn]at h hb;refine⟨hv.1.trans hb.1,fun hf=>?_,fun f hf=>?_⟩
  ·rcases h.1.2 with h1|h1
   ·exact h1
   ·exact absurd (PL h1) hf
  ·have h1:=hb.2 f hf;split at h1
   ·rename_i z hz;have h2:=kf hz;obtain⟨x,h3,h4⟩:=hv.2.2 z h2.1;rw[PR.1 h2.2]at h3;exact⟨x,h3,iC d z.2 f.2 x (h.2.1 f hf).2 h1 h4⟩
   ·cases h1
def GC{f:bd}{l:List bd}{g:bd}(h:Jt f l=some g):g.1=f.1/\∃z,z∈l/\z.1=f.1/\rU f.2 z.2=some g.2:=by
 obtain⟨n,t⟩:=f;simp only[Jt]at h;split at h
 ·rename_i z hz;split at h
  ·rename_i u hu;cases h
   have:=kf hz
   exact⟨rfl,z,this.1,PR.1 this.2,hu⟩
  ·cases h
 ·cases h
theorem yq(l:List bd)(g:bd):(fs:List bd)->g∈kM fs l->∃f∈fs,Jt f l=some g
 |[],h=>by simp[kM]at h
 | f:: fs,h=>by
  simp only[kM,PZ]at h;rcases h with h|h
  ·split at h
   ·rename_i x hx;simp only[Qd]at h;exact⟨f,P2,by rw[hx,h]⟩
   ·cases h
  ·obtain⟨f',h1,h2⟩:=yq l g fs h;exact⟨f',PU _ h1,h2⟩
def Ik{a b u:Ty}(h:rU a b=some u):a.kind=b.kind/\u.kind=a.kind/\∀g∈u.fields,∃f∈a.fields,∃z∈b.fields,g.1=f.1/\z.1=f.1/\rU f.2 z.2=some g.2:=by
 cases a with
 | mk k fs=>
  simp only[rU]at h;split at h
  ·rename_i hk;cases h;refine⟨hk,rfl,fun g hg=>?_⟩;obtain⟨f,h1,h2⟩:=yq _ g fs hg;obtain⟨h3,z,h4,h5,h6⟩:=GC h2;exact⟨f,h1,z,h4,h3,h5,h6⟩
  ·cases h
def uC(a:Ty)(b u:Ty)(h:rU a b=some u)(v:Val):(eN a v->eN u v)/\(eN b v->eN u v):=by
 obtain⟨h1,h2,h3⟩:=Ik h;constructor
 ·intro hv;rw[eF]at hv |-;refine⟨hv.1.trans h2.symm,fun hf=>?_,fun g hg=>?_⟩
  ·obtain⟨g,hg⟩:=Sn _ hf;obtain⟨f,hf',_⟩:=h3 g hg;rw[h2];exact hv.2.1 (Sf hf')
  ·obtain⟨f,hf,z,hz,e1,e2,e3⟩:=h3 g hg;obtain⟨x,g1,g2⟩:=hv.2.2 f hf
   have:=Fb hf
   exact⟨x,by rw[e1];exact g1,(uC f.2 z.2 g.2 e3 x).1 g2⟩
 ·intro hv;rw[eF]at hv |-;refine⟨hv.1.trans (h1.symm.trans h2.symm),fun hf=>?_,fun g hg=>?_⟩
  ·obtain⟨g,hg⟩:=Sn _ hf;obtain⟨f,_,z,hz,_⟩:=h3 g hg;rw[h2,h1];exact hv.2.1 (Sf hz)
  ·obtain⟨f,hf,z,hz,e1,e2,e3⟩:=h3 g hg;obtain⟨x,g1,g2⟩:=hv.2.2 z hz
   have:=Fb hf
   exact⟨x,by rw[e1,<- e2];exact g1,(uC f.2 z.2 g.2 e3 x).2 g2⟩
termination_by SizeOf.sizeOf a
def kA{α:Type}(x:dE α):Prop:=∀n a n',x n= .ok a n'->jy n n'
def nz{α:Type}(a:α):kA (.ok a):=fun n b n' h=>by cases h;exact jy.refl _
def ki{α:Type}(e:Int):kA (α:=α) (.er e):=fun n b n' h=>by cases h
def bind_ok{α β:Type}{x:dE α}{f:α->dE β}{n:Int}{b:β}{n':Int}(h:dE.bind x f n= .ok b n'):∃a m,x n= .ok a m/\f a m= .ok b n':=by
 unfold dE.bind at h;split at h
 ·rename_i a m hm;exact⟨a,m,hm,h⟩
 ·cases h
def iE{α β:Type}{x:dE α}{f:α->dE β}(hx:kA x)(hf:∀a,kA (f a)):kA (.bind x f):=fun n b n' h=>by
 obtain⟨a,m,h1,h2⟩:=bind_ok h;exact (hx _ _ _ h1).trans (hf a _ _ _ h2)
def g8{α:Type}{c:Prop}[Decidable c]{x y:dE α}(h1:kA x)(h2:kA y):kA (if c then x else y):=by
 split
 ·exact h1
 ·exact h2
theorem lX{r:Exp->dE Ty}(h:∀e,kA (r e)):∀l,kA (dh r l)
 |[]=>nz _
 |e:: l=>iE (h e) fun _=>iE (lX h l) fun _=>nz _
theorem oz(c:Tcx):∀(d:Nat)(ls:List bd)(e:Exp),kA (bL c d ls e)
 |0,_,_=>ki _
 | d+1,ls,e=>by
  have H:=oz c d;show kA (cr c (bL c d) ls e);unfold cr;refine g8 ?_ (g8 ?_ (g8 ?_ (g8 ?_ ?_)))
  ·split
   ·exact nz _
   ·exact ki _
  ·exact iE (H _ _) fun _=>H _ _
  ·split
   ·exact ki _
   ·exact g8 (iE (H _ _) fun _=>g8 (nz _) (ki _)) (nz _)
  ·split
   ·exact ki _
   ·refine g8 (iE (lX (H _) _) fun _=>g8 (fun n a n' h=>?_) (ki _)) (ki _);cases h;exact pW _ _
  ·refine iE (lX (H _) _) fun l n a n' h=>?_;split at h
   ·cases h;split
    ·exact pW _ _
    ·exact jy.refl _
   ·cases h
def jh:List bd->List a7->List Val->Prop
 |[],[],[]=>True
 |z:: ls,n:: ns,v:: vs=>z.1=n/\eN z.2 v/\jh ls ns vs
 |_,_,_=>False
theorem rK{s:a7}:{ls:List bd} ->{ns:List a7} ->{vs:List Val} ->jh ls ns vs->(∀z,bW (fun z=>z.1== s) ls=some z->∃v,gq ns vs s=some v/\eN z.2 v)/\(bW (fun z=>z.1== s) ls=none->gq ns vs s=none)
 |[],[],[],_=>⟨(fun z h=>by cases h),fun _=>rfl⟩
 | y :: ls,n:: ns,v:: vs,h=>by
  obtain⟨h1,h2,h3⟩:=h;obtain⟨i1,i2⟩:=rK (s:=s) h3;constructor
  ·intro z hz;simp only[bW]at hz;simp only[gq];split at hz
   ·rename_i w hw;cases hz;obtain⟨x,g1,g2⟩:=i1 z hw;exact⟨x,by rw[g1],g2⟩
   ·rename_i hw;rw[i2 hw];cases hy:y.1== s with
    |true=>
     rw[hy]at hz;cases hz;exact⟨v,by rw[Ps (h1.symm.trans (PR.1 hy))],h2⟩
    |false=>rw[hy]at hz;cases hz
  ·intro hz;simp only[bW]at hz;simp only[gq];split at hz
   ·cases hz
   ·rename_i hw;rw[i2 hw];cases hy:y.1== s with
    |true=>rw[hy]at hz;cases hz
    |false=>rw[if_neg (fun e=>by rw[h1,e,QG]at hy;cases hy)]
theorem tI{n:a7}{t:Ty}{v:Val}(hv:eN t v):{ls:List bd} ->{ns:List a7} ->{vs:List Val} ->jh ls ns vs->jh (ls++[(n,t)]) (ns++[n]) (vs++[v])
 |[],[],[],_=>⟨rfl,hv,trivial⟩
 |_:: _,_:: _,_:: _,h=>⟨h.1,h.2.1,tI hv h.2.2⟩
theorem xY:{ls:List bd} ->{vs:List Val} ->ls.length=vs.length->(∀(i:Nat)(z:bd)(v:Val),ls[i]? = some z->vs[i]? = some v->eN z.2 v)->jh ls (ls.map (·.1)) vs
 |[],[],_,_=>trivial
 |z:: ls,v:: vs,hl,h=>⟨rfl,h 0 z v rfl rfl,xY (by simpa using hl) fun i z v h1 h2=>h (i+1) z v (by simpa using h1) (by simpa using h2)⟩
def JG(p:List Mod)(st:List (List Val)):Prop:=st.length=p.length/\∀(i:Nat)(m:Mod)(l:List Val),p[i]? = some m->st[i]? = some l->l.length=m.vars.length/\∀(k:Nat)(z:bd)(v:Val),m.vars[k]? = some z->l[k]? = some v->eN z.2 v
def M1(b:Int)(d:Deed):Prop:=jy d.effect b/\(d.effect=1\/d.effect=2\/d.effect=4\/d.effect=8)
def SQ(p:List Mod)(b:Int){α:Type}(x:X α)(Q:α->Prop):Prop:=∀m,JG p m.state->JG p (x m).st.state/\(∃ds,(x m).st.deeds=m.deeds++ds/\∀d∈ds,M1 b d)/\(∀e s,x m= .er e s->e=16\/e=6)/\∀a s,x m= .ok a s->Q a
def gt{p:List Mod}{b:Int}{α:Type}{a:α}{Q:α->Prop}(h:Q a):SQ p b (.ok a) Q:=fun m hm=>⟨hm,⟨[],by simp[X.ok,Rs.st],by simp⟩,(fun e s h=>by cases h),fun b s e=>by cases e;exact h⟩
def Br{p:List Mod}{b:Int}{α:Type}{e:Int}{Q:α->Prop}(h:e=16\/e=6):SQ p b (.er e) Q:=fun m hm=>⟨hm,⟨[],by simp[X.er,Rs.st],by simp⟩,(fun e s h'=>by cases h';exact h),fun b s e=>by cases e⟩
def M1.mono{b c:Int}(h:jy b c){d:Deed}(hd:M1 b d):M1 c d:=⟨hd.1.trans h,hd.2⟩
def gl{p:List Mod}{b c:Int}{α:Type}{x:X α}{Q R:α->Prop}(h:SQ p b x Q)(hb:jy b c)(hq:∀a,Q a->R a):SQ p c x R:=fun m hm=>by
 obtain⟨h1,⟨ds,h2,h3⟩,h4,h5⟩:=h m hm;exact⟨h1,⟨ds,h2,fun d hd=>(h3 d hd).mono hb⟩,h4,fun a s e=>hq a (h5 a s e)⟩
def dX{p:List Mod}{b:Int}{α β:Type}{x:X α}{f:α->X β}{Q:α->Prop}{R:β->Prop}(hx:SQ p b x Q)(hf:∀a,Q a->SQ p b (f a) R):SQ p b (x.bind f) R:=by
 intro m hm;obtain⟨h1,⟨ds,h2,h3⟩,h4,h5⟩:=hx m hm;cases hr:x m with
 |er e s=>
  rw[hr]at h1 h2;simp only[X.bind,hr];exact⟨h1,⟨ds,h2,h3⟩,(fun e' s' h=>by cases h;exact h4 _ _ hr),fun b s e=>by cases e⟩
 |ok a s=>
  rw[hr]at h1 h2;obtain⟨g1,⟨es,g2,g3⟩,g4,g5⟩:=hf a (h5 a s hr) s h1;simp only[X.bind,hr];refine⟨g1,⟨ds++es,by rw[g2];simp only[Rs.st]at h2;rw[h2,Qq],fun d hd=>?_⟩,g4,g5⟩;rcases PZ.1 hd with h|h
  ·exact h3 d h
  ·exact g3 d h
def zU{p:List Mod}{b:Int}{α:Type}{c:Prop}[Decidable c]{x y:X α}{Q:α->Prop}(h1:c->SQ p b x Q)(h2:¬c->SQ p b y Q):SQ p b (if c then x else y) Q:=by
 split
 ·exact h1 ‹_›
 ·exact h2 ‹_›
structure Wt (p:List Mod) (C:Int->Tcx):Prop where
 call:∀(own:Int)(e:Exp)(s:List Ty×Ty×Int),dk (C own) e=some s->∃f,jI p (if e.m=[]then own else tn p e.m) e.s=some f/\(e.m=[]\/f.pub=true)/\f.params.map (·.2)=s.1/\f.result=s.2.1/\f.effects=s.2.2
 fn:∀(a:Int)(s:a7)(f:Fun),jI p a s=some f->(∀z∈f.params,bg z.2=true)/\bg f.result=true/\cB 12 f.body=true/\∃t n,bL (C a) 12 f.params f.body 0= .ok t n/\cd t f.result=true/\eU n f.effects=0
 var:∀(own:Int)(s:a7)(z:bd),bW (fun z=>z.1== s) (C own).vars=some z->¬own<0/\own.toNat<p.length/\∃i:Nat,eh (p[own.toNat]?.getD default).vars s=i/\(p[own.toNat]?.getD default).vars[i]? = some z/\bg z.2=true
def Ly(p:List Mod)(g:Nat)(c:Tcx)(own:Int)(d:Nat):Prop:=∀(ls:List bd)(e:Exp)(n n':Int)(t:Ty),cB d e=true->bL c d ls e n= .ok t n'->∀ns vs,jh ls ns vs->SQ p n' (bR p g own ns vs e) (eN t)
theorem Bt{p:List Mod}{g:Nat}{c:Tcx}{own:Int}{d:Nat}(S:Ly p g c own d){ls:List bd}{ns:List a7}{vs:List Val}(hs:jh ls ns vs):∀(l:List Exp)(n n':Int)(ts:List Ty),l.all (cB d)=true->dh (bL c d ls) l n= .ok ts n'->ts.length=l.length/\SQ p n' (listX (bR p g own ns vs) l) fun ws=>ws.length=ts.length/\∀(i:Nat)(t:Ty)(w:Val),ts[i]? = some t->ws[i]? = some w->eN t w
 |[],n,n',ts,_,h=>by
  cases h;exact⟨rfl,gt ⟨rfl,fun i t w h=>by simp at h⟩⟩
 |e:: l,n,n',ts,hr,h=>by
  simp only[P5,Po]at hr;obtain⟨t,m,h1,h2⟩:=bind_ok h;obtain⟨us,k,h3,h4⟩:=bind_ok h2;cases h4;obtain⟨h5,h6⟩:=Bt S hs l m n' us hr.2 h3;refine⟨by simp[h5],dX (gl (S ls e n m t hr.1 h1 ns vs hs) (lX (oz c d ls) l _ _ _ h3) fun _ h=>h) fun v hv=>dX h6 fun ws hws=>gt ⟨by simp[hws.1],fun i t w h7 h8=>?_⟩⟩;cases i with
  |zero=>simp at h7 h8;subst h7 h8;exact hv
  |succ i=>exact hws.2 i t w (by simpa using h7) (by simpa using h8)
def nj(n:Int):eN (.mk 0 []) (lu n):=by simp[eN,qK,lu]
def jK(b:Bool):eN (.mk 1 []) (fI b):=by simp[eN,qK,fI]
def pU{p:List Mod}{b:Int}{x:X Val}{Q:Val->Prop}(h:SQ p b x Q)(hk:∀v,Q v->v.kind=1):SQ p b (boolX x) fun _=>True:=dX h fun v hv=>by
 rw[Ps (hk v hv)];exact gt trivial
theorem pO{α:Type}:{l:List α} ->l.length=1->∃a,l=[a]
 |[a],_=>⟨a,rfl⟩
theorem uG{α:Type}:{l:List α} ->l.length=2->∃a b,l=[a,b]
 |[a,b],_=>⟨a,b,rfl⟩
theorem Cu{α:Type}:{l:List α} ->l.length=3->∃a b c,l=[a,b,c]
 |[a,b,c],_=>⟨a,b,c,rfl⟩
def A2{r:Exp->dE Ty}{a:Exp}{n n':Int}{ts:List Ty}(h:dh r [a] n= .ok ts n'):∃t,ts=[t]/\r a n= .ok t n':=by
 obtain⟨t,m,h1,h2⟩:=bind_ok h;obtain⟨us,k,h3,h4⟩:=bind_ok h2;cases h3;cases h4;exact⟨t,rfl,h1⟩
def FA{r:Exp->dE Ty}{a b:Exp}{n n':Int}{ts:List Ty}(h:dh r [a,b] n= .ok ts n'):∃t u m,ts=[t,u]/\r a n= .ok t m/\r b m= .ok u n':=by
 obtain⟨t,m,h1,h2⟩:=bind_ok h;obtain⟨us,k,h3,h4⟩:=bind_ok h2;cases h4;obtain⟨u,rfl,h5⟩:=A2 h3;exact⟨t,u,m,rfl,h1,h5⟩
def Mz{r:Exp->dE Ty}{a b c:Exp}{n n':Int}{ts:List Ty}(h:dh r [a,b,c] n= .ok ts n'):∃t u w m k,ts=[t,u,w]/\r a n= .ok t m/\r b m= .ok u k/\r c k= .ok w n':=by
 obtain⟨t,m,h1,h2⟩:=bind_ok h;obtain⟨us,k,h3,h4⟩:=bind_ok h2;cases h4;obtain⟨u,w,k',rfl,h5,h6⟩:=FA h3;exact⟨t,u,w,m,k',rfl,h1,h5,h6⟩
def Ia{p:List Mod}{b:Int}{y:X Val}{Q:Val->Prop}(h:SQ p b y Q):SQ p b (pz y) Q:=fun m hm=>by
 unfold pz X.get;by_cases hf:m.fuel<=0
 ·simp only[hf,PF];exact Br (.inl rfl) m hm
 ·simp only[hf,PE];exact h { m with fuel:=m.fuel-1 } hm
def Gp{p:List Mod}{C:Int->Tcx}(W:Wt p C){g:Nat}(hg:∀own d,Ly p g (C own) own d){a:Int}{s:a7}{f:Fun}(hf:jI p a s=some f){l:List Val}(hl:l.length=f.params.length)(hv:∀(i:Nat)(z:bd)(v:Val),f.params[i]? = some z->l[i]? = some v->eN z.2 v):SQ p f.effects (fD p (bR p g) a f l) (eN f.result):=by
 obtain⟨_,hr,hb,t,n,h1,h2,h3⟩:=W.fn a s f hf;have hs:=xY hl.symm hv;have hS:=hg a 12 f.params f.body 0 n t hb h1 _ _ hs;have key:SQ p f.effects ((bR p g a (f.params.map (·.1)) l f.body).bind fun v=>.upd (fun m=>{ m with frames:=m.frames-1 }) (.ok v)) (eN f.result):=dX (gl hS (wA h3) fun v hv=>iC 4 t f.result v hr h2 hv) fun v hv m hm=>gt (p:=p) (b:=f.effects) hv { m with frames:=m.frames-1 } hm;intro m hm;have e0:fD p (bR p g) a f l m=if m.frames<60 then((bR p g a (f.params.map (·.1)) l f.body).bind fun v=>.upd (fun m=>{ m with frames:=m.frames-1 }) (.ok v)) (kK p a f l m)else .er 6 m:=by
  unfold fD X.get;by_cases h:m.frames<60
  ·simp only[h,PF];rfl
  ·simp only[h,PE];rfl
 rw[e0];split
 ·exact key (kK p a f l m) hm
 ·exact Br (p:=p) (b:=f.effects) (.inr rfl) m hm
def Kl{p:List Mod}{st:List (List Val)}(h:JG p st){i k:Nat}(hi:i<p.length){z:bd}(hz:(p[i]?.getD default).vars[k]? = some z):eN z.2 (mj st i k):=by
 obtain⟨h1,h2⟩:=h;have hi':i<st.length:=by omega
 rw[Pv hi]at hz;obtain⟨h3,h4⟩:=h2 i p[i] st[i] (Pv hi) (Pv hi');have hk:k<st[i].length:=by rw[h3];exact (PK.1 hz).1
 have e:mj st i k=st[i][k]:=by
  unfold mj;simp[P4,Pv hi',Pv hk]
 rw[e];exact h4 k z _ hz (Pv hk)
def KT{p:List Mod}{st:List (List Val)}(h:JG p st){i k:Nat}{z:bd}(hz:(p[i]?.getD default).vars[k]? = some z){v:Val}(hv:eN z.2 v):JG p (setSt st i k v):=by
 refine⟨by unfold setSt;rw[List.length_modify];exact h.1,fun j m l hm hl=>?_⟩;unfold setSt at hl;rw[R6]at hl;cases h1:st[j]? with
 |none=>simp[h1]at hl
 | some l0=>
  rw[h1]at hl;simp only[Option.map_eq_map,Qw,Pn]at hl;obtain⟨h2,h3⟩:=h.2 j m l0 hm h1;split at hl
  ·rename_i e;subst e hl;refine⟨by simpa using h2,fun n y w hy hw=>?_⟩;rw[QH]at hw;split at hw
   ·rename_i e;subst e;split at hw
    ·cases hw;rw[hm,Rb,hy]at hz;cases hz;exact hv
    ·cases hw
   ·exact h3 n y w hy hw
  ·subst hl;exact⟨h2,h3⟩
theorem sQ{s:a7}{w:Val}:{ns:List a7} ->{ws:List Val} ->(ns.Pairwise fun x y=>bH x y=true)->{i:Nat} ->ns[i]? = some s->ws[i]? = some w->dQ ns ws s=some w
 |n:: ns,x:: ws,hp,0,h1,h2=>by
  simp at h1 h2;subst h1 h2;simp[dQ]
 |n:: ns,x:: ws,hp,i+1,h1,h2=>by
  rw[Se]at hp;have h3:=hp.1 s (Qf (by simpa using h1));have h4:¬n=s:=fun e=>by rw[e,gm]at h3;cases h3
  simp only[dQ,if_neg h4];exact sQ hp.2 (by simpa using h1) (by simpa using h2)
 |[],_,_,i,h1,_=>by simp at h1
 |_:: _,[],_,i,_,h2=>by simp at h2
theorem Ez:(l:List a7)->kV eH l=true->yH l=true
 |[],_=>rfl
 |[_],_=>rfl
 |x:: y:: l,h=>by
  simp only[kV,Po]at h;simp only[yH,Po];exact⟨(qf x y).1 h.1,Ez (y:: l) h.2⟩
def gE{c:Tcx}{r:List bd->Exp->dE Ty}{ls:List bd}{e:Exp}{n n':Int}{t:Ty}(hf:cr c r ls e n= .ok t n')(h2:¬e.op=2)(h12:¬e.op=12)(h17:¬(e.op=17\/e.op=18))(h15:¬e.op=15)(h16:¬e.op=16):dE.bind (dh (r ls) e.args) (fun l n=>match bU e l with|some t=>.ok t n|none=>.er 13 n) n= .ok t n':=by
 rw[<- hf];unfold cr;simp only[if_neg h2,if_neg h12,if_neg h17,if_neg h15,if_neg h16];all_goals rfl
def gF{e:Exp}{l:List Ty}{k n':Int}{t:Ty}(h:(match bU e l with|some t=>Tr.ok t k|none=>.er 13 k)= .ok t n'):bU e l=some t/\k=n':=by
 split at h
 ·cases h;exact⟨‹_›,rfl⟩
 ·cases h
def Gn{p:List Mod}{C:Int->Tcx}(W:Wt p C){g:Nat}(hg:∀own d,Ly p g (C own) own d)(own:Int)(d:Nat):Ly p (g+1) (C own) own (d+1):=by
 intro ls e n n' t hr hf ns vs hs;rw[lE,Po]at hr;obtain⟨hsh,ha⟩:=hr;have hf:cr (C own) (bL (C own) d) ls e n= .ok t n':=hf;have H:=hg own d;have M:=oz (C own) d;have L:=fun{l:List Exp} {a b:Int} {ts:List Ty}=>Bt H hs l a b ts;show SQ p n' (kF p (bR p g) own ns vs e) _;refine Ia ?_;rcases xZ hsh with⟨o,hl⟩|⟨o,hl,hn⟩|⟨o,hl⟩|⟨o,hl⟩|⟨o,hl⟩|⟨o,hl⟩|⟨o,hl⟩|⟨o,hl⟩|⟨o,hl,hnb⟩|⟨o,hl⟩|o|⟨o,hl,hn⟩|⟨o,hl⟩|⟨o,hl⟩
 ·-- a number
  obtain hl:=PL hl;simp[cr,o,hl,dh,dE.bind,dE.ok,bU]at hf;obtain⟨rfl,rfl⟩:=hf;simp only[aQ,o,hl];exact gt (nj _)
 ·obtain hl:=PL hl;simp[cr,o,hl,dh,dE.bind,dE.ok,bU]at hf;obtain⟨rfl,rfl⟩:=hf;simp[aQ,o,hl,hn];exact gt (jK _)
 ·obtain hl:=PL hl;have hf:(match bW (fun z:bd=>z.1== e.s) ls with|some z=>dE.ok z.2|none=>.er 12) n= .ok t n':=by
   rw[<- hf];unfold cr;rw[Ps o];all_goals rfl
  cases hz:bW (fun z:bd=>z.1== e.s) ls with
  |none=>rw[hz]at hf;cases hf
  |some z=>
   rw[hz]at hf;cases hf;obtain⟨v,h1,h2⟩:=(rK hs).1 z hz;simp[aQ,o,hl,h1];exact gt h2
 ·obtain⟨x,y,hl⟩:=uG hl;obtain⟨ts,k,h1,h2⟩:=bind_ok (gE hf (by omega) (by omega) (by omega) (by omega) (by omega));rw[hl]at h1;obtain⟨t1,t2,m,rfl,h3,h4⟩:=FA h1;rw[hl]at ha;simp only[P5,QZ,QB,Po]at ha;have s1:=H ls x n m t1 ha.1 h3 ns vs hs;have s2:=H ls y m k t2 ha.2 h4 ns vs hs;obtain⟨hp,rfl⟩:=gF h2;have a0:e.args[0]! = x:=by rw[hl];rfl
  have a1:e.args[1]! = y:=by rw[hl];rfl
  have g1:¬(aQ e.op= -2\/(aQ e.op≠-1/\aQ e.op≠e.args.length)):=by
   rw[hl];rcases o with o|o|o|o|o<;>rw[o]<;>simp[aQ]
  have g2:e.op=3\/e.op=4\/e.op=5\/e.op=6\/e.op=7:=o;simp only[if_neg g1,show ¬e.op=0 by omega,show ¬e.op=1 by omega,show ¬e.op=2 by omega,PE,Ps g2,a0,a1];refine dX (gl s1 (M _ _ _ _ _ h4) fun _ h=>h) fun v hv=>dX s2 fun w hw=>?_;have kv:=((eF t1 v).1 hv).1;have kw:=((eF t2 w).1 hw).1;unfold kJ;rcases o with o|o|o|o|o<;>simp[bU,o,jf]at hp<;>simp only[o,kv,kw]
  ·obtain⟨⟨q1,q2⟩,rfl⟩:=hp;simp[q1,q2];exact gt (nj _)
  ·obtain⟨⟨q1,q2⟩,rfl⟩:=hp;simp[q1,q2];exact gt (nj _)
  ·obtain⟨⟨q1,q2⟩,rfl⟩:=hp;simp[q1,q2];exact gt (nj _)
  ·obtain⟨⟨q1,q2⟩,rfl⟩:=hp;simp[q1,q2];exact gt (jK _)
  ·obtain⟨q,rfl⟩:=hp;rcases q with⟨q1,q2⟩|⟨q1,q2⟩<;>simp[q1,q2]<;>exact gt (jK _)
 ·obtain⟨x,y,hl⟩:=uG hl;obtain⟨ts,k,h1,h2⟩:=bind_ok (gE hf (by omega) (by omega) (by omega) (by omega) (by omega));rw[hl]at h1;obtain⟨t1,t2,m,rfl,h3,h4⟩:=FA h1;rw[hl]at ha;simp only[P5,QZ,QB,Po]at ha;have s1:=H ls x n m t1 ha.1 h3 ns vs hs;have s2:=H ls y m k t2 ha.2 h4 ns vs hs;obtain⟨hp,rfl⟩:=gF h2;have a0:e.args[0]! = x:=by rw[hl];rfl
  have a1:e.args[1]! = y:=by rw[hl];rfl
  have g1:¬(aQ e.op= -2\/(aQ e.op≠-1/\aQ e.op≠e.args.length)):=by
   rw[hl];rcases o with o|o<;>rw[o]<;>simp[aQ]
  have hp':(t1.kind=1/\t2.kind=1)/\t= .mk 1 []:=by
   rcases o with o|o<;>simp[bU,o,jf]at hp<;>exact⟨hp.1,hp.2.symm⟩
  obtain⟨⟨q1,q2⟩,rfl⟩:=hp';simp only[if_neg g1,show ¬e.op=0 by omega,show ¬e.op=1 by omega,show ¬e.op=2 by omega,show ¬(e.op=3\/e.op=4\/e.op=5\/e.op=6\/e.op=7) by omega,PE,Ps o,a0,a1];refine dX (pU (gl s1 (M _ _ _ _ _ h4) fun _ h=>h) fun v hv=>((eF t1 v).1 hv).1.trans q1) fun v _=>zU (fun _=>gt (jK _)) fun _=>?_;exact dX (pU s2 fun v hv=>((eF t2 v).1 hv).1.trans q2) fun w _=>gt (jK _)
 ·obtain⟨x,hl⟩:=pO hl;obtain⟨ts,k,h1,h2⟩:=bind_ok (gE hf (by omega) (by omega) (by omega) (by omega) (by omega));rw[hl]at h1;obtain⟨t1,rfl,h3⟩:=A2 h1;rw[hl]at ha;simp only[P5,QZ,QB]at ha;have s1:=H ls x n k t1 ha h3 ns vs hs;obtain⟨hp,rfl⟩:=gF h2;have a0:e.args[0]! = x:=by rw[hl];rfl
  have hp':t1.kind=1/\t= .mk 1 []:=by
   simp[bU,o,jf]at hp;exact⟨hp.1,hp.2.symm⟩
  obtain⟨q1,rfl⟩:=hp';simp[aQ,o,hl];exact dX (pU s1 fun v hv=>((eF t1 v).1 hv).1.trans q1) fun w _=>gt (jK _)
 ·obtain⟨x,y,z,hl⟩:=Cu hl;obtain⟨ts,k,h1,h2⟩:=bind_ok (gE hf (by omega) (by omega) (by omega) (by omega) (by omega));rw[hl]at h1;obtain⟨t1,t2,t3,m1,m2,rfl,h3,h4,h5⟩:=Mz h1;rw[hl]at ha;simp only[P5,QZ,QB,Po]at ha;have s1:=H ls x n m1 t1 ha.1 h3 ns vs hs;have s2:=H ls y m1 m2 t2 ha.2.1 h4 ns vs hs;have s3:=H ls z m2 k t3 ha.2.2 h5 ns vs hs;obtain⟨hp,rfl⟩:=gF h2;have a0:e.args[0]! = x:=by rw[hl];rfl
  have a1:e.args[1]! = y:=by rw[hl];rfl
  have a2:e.args[2]! = z:=by rw[hl];rfl
  have hp':t1.kind=1/\rU t2 t3=some t:=by
   have hp:(match rU t2 t3 with|some u=>if t1.kind=1 then some u else none|none=>none)=some t:=by
    rw[<- hp];unfold bU;simp only[o,Int.reduceEq,or_self,PE,PF];rfl
   split at hp
   ·rename_i u hu;split at hp
    ·cases hp;exact⟨‹_›,hu⟩
    ·cases hp
   ·cases hp
  obtain⟨q1,q2⟩:=hp';simp[aQ,o,hl];refine dX (pU (gl s1 ((M _ _ _ _ _ h4).trans (M _ _ _ _ _ h5)) fun _ h=>h) fun v hv=>((eF t1 v).1 hv).1.trans q1) fun v _=>zU (fun _=>?_) fun _=>?_
  ·exact gl s2 (M _ _ _ _ _ h5) fun v hv=>(uC t2 t3 t q2 v).1 hv
  ·exact gl s3 (jy.refl _) fun v hv=>(uC t2 t3 t q2 v).2 hv
 ·obtain⟨x,y,hl⟩:=uG hl;have a0:e.args[0]! = x:=by rw[hl];rfl
  have a1:e.args[1]! = y:=by rw[hl];rfl
  have hf:dE.bind (bL (C own) d ls e.args[0]!) (fun t=>bL (C own) d (ls++[(e.s,t)]) e.args[1]!) n= .ok t n':=by
   rw[<- hf];unfold cr;rw[if_neg (by omega),Ps o]
  rw[a0,a1]at hf;obtain⟨t1,k,h1,h2⟩:=bind_ok hf;rw[hl]at ha;simp only[P5,QZ,QB,Po]at ha;simp[aQ,o,hl];exact dX (gl (H ls x n k t1 ha.1 h1 ns vs hs) (M _ _ _ _ _ h2) fun _ h=>h) fun v hv=>H _ y k n' t ha.2 h2 _ _ (tI hv hs)
 ·obtain⟨ts,k,h1,h2⟩:=bind_ok (gE hf (by omega) (by omega) (by omega) (by omega) (by omega));obtain⟨hp,rfl⟩:=gF h2;obtain⟨g1,g2⟩:=L ha h1;have ht:t= .mk 2 (e.names.zip ts):=by simp[bU,o]at hp;exact hp.symm
  subst ht;unfold rk at hnb;simp only[Po,Pt]at hnb;have hpw:e.names.Pairwise fun x y=>bH x y=true:=sF (nm:=id) (fun x y h=>(qf x y).1 h) _ hnb.1.2;simp[aQ,o,-O5];unfold gV;rw[Ps ⟨hl,Ez _ hnb.1.2⟩,Ps hnb.2];refine dX g2 fun ws hws=>zU (fun _=>gt ?_) fun _=>Br (.inr rfl);rw[eF];refine⟨rfl,fun _=>rfl,fun f hf=>?_⟩;obtain⟨i,hi⟩:=List.mem_iff_getElem?.1 (show f∈e.names.zip ts from hf);rw[List.getElem?_zip_eq_some]at hi;have hiw:i<ws.length:=by rw[hws.1];exact (PK.1 hi.2).1
  exact⟨ws[i],sQ hpw hi.1 (Pv hiw),hws.2 i f.2 ws[i] hi.2 (Pv hiw)⟩
 ·obtain⟨x,hl⟩:=pO hl;obtain⟨ts,k,h1,h2⟩:=bind_ok (gE hf (by omega) (by omega) (by omega) (by omega) (by omega));rw[hl]at h1;obtain⟨t1,rfl,h3⟩:=A2 h1;rw[hl]at ha;simp only[P5,QZ,QB]at ha;have s1:=H ls x n k t1 ha h3 ns vs hs;obtain⟨hp,rfl⟩:=gF h2;have a0:e.args[0]! = x:=by rw[hl];rfl
  have hp:(match bW (fun z:bd=>z.1== e.s) t1.fields with|some z=>some z.2|none=>none)=some t:=by
   rw[<- hp];unfold bU;simp only[o,Int.reduceEq,or_self,PE,PF];rfl
  split at hp
  ·rename_i z hz;cases hp;have hz':=kf hz;simp[aQ,o,hl];refine dX s1 fun v hv=>?_;rw[eF]at hv;obtain⟨w,g1,g2⟩:=hv.2.2 z hz'.1;rw[PR.1 hz'.2]at g1;rw[g1];simp only[Ps (hv.1.trans (hv.2.1 (Sf hz'.1)))];exact gt g2
  ·cases hp
 ·have hf:(match dk (C own) e with
    |none=>dE.er 12
    |some s=>if s.1.length=e.args.length then .bind (dh (bL (C own) d ls) e.args) fun l=>if cj cd l s.1=true then fun n=>.ok s.2.1 (nG n s.2.2)else .er 13 else .er 13) n= .ok t n':=by
   rw[<- hf];unfold cr;rw[if_neg (by omega),if_neg (by omega),if_neg (by omega),Ps o];all_goals rfl
  cases hcs:dk (C own) e with
  |none=>rw[hcs]at hf;cases hf
  | some s=>
   rw[hcs]at hf;dsimp only at hf;split at hf
   ·rename_i hlen;obtain⟨ts,k,h1,h2⟩:=bind_ok hf;split at h2
    ·rename_i hbl;cases h2;obtain⟨f,f1,f2,f3,f4,f5⟩:=W.call own e s hcs;obtain⟨g1,g2⟩:=L ha h1;have hpl:e.args.length=f.params.length:=by rw[<- hlen,<- f3,Q1]
     simp[aQ,o];unfold me;simp only;have f1':=f1;simp only[f1,Ps f2,Ps hpl];refine dX (gl g2 (pW _ _) fun _ h=>h) fun l hlv=>?_;rw[<- f5,<- f4];obtain⟨w1,w2,_⟩:=W.fn _ _ f f1;obtain⟨b1,b2⟩:=sC hbl;refine gl (Gp W hg f1 (by rw[hlv.1,b1,<- f3,Q1]) fun i z v hz hv=>?_) (Bw _ _) fun _ h=>h;have hi:i<ts.length:=by rw[<- hlv.1];exact (PK.1 hv).1
     have hz':s.1[i]? = some z.2:=by rw[<- f3,Qp,hz];rfl
     exact iC 4 ts[i] z.2 v (w1 z (Qf hz)) (b2 i _ _ (Pv hi) hz') (hlv.2 i _ v (Pv hi) hv)
    ·cases h2
   ·cases hf
 ·obtain⟨x,hl⟩:=pO hl;have hf:dE.bind (dh (bL (C own) d ls) e.args) (fun l n=>match bU e l with|some t=>.ok t (if e.op=16 then nG n e.n else n)|none=>.er 13 (if e.op=16 then nG n e.n else n)) n= .ok t n':=by
   rw[<- hf];unfold cr;rw[if_neg (by omega),if_neg (by omega),if_neg (by omega),if_neg (by omega)];all_goals rfl
  obtain⟨ts,k,h1,h2⟩:=bind_ok hf;rw[hl]at h1;obtain⟨t1,rfl,h3⟩:=A2 h1;rw[hl]at ha;simp only[P5,QZ,QB]at ha;have s1:=H ls x n k t1 ha h3 ns vs hs;have hk:n'=nG k e.n/\bU e [t1]=some t:=by
   split at h2<;>cases h2;exact⟨by rw[Ps o],‹_›⟩
  obtain⟨rfl,hp⟩:=hk;have a0:e.args[0]! = x:=by rw[hl];rfl
  have hp':t1.kind=0/\t= .mk 0 []:=by
   simp[bU,o,jf]at hp;exact⟨hp.1,hp.2.symm⟩
  obtain⟨q1,rfl⟩:=hp';simp[aQ,o,hl];unfold r6;refine dX (gl s1 (pW _ _) fun _ h=>h) fun v hv=>?_;rw[Ps (((eF t1 v).1 hv).1.trans q1),Ps hn];intro m hm;exact⟨hm,⟨[⟨e.n,v.n,m.world.headD 0⟩],rfl,(fun d hd=>by rw[Qd]at hd;subst hd;exact⟨Bw _ _,hn⟩)⟩,(fun e s h=>by cases h),fun a s h=>by cases h;exact nj _⟩
 ·have hf:(match bW (fun z:bd=>z.1== e.s) (C own).vars with
    |none=>dE.er 12
    |some z=>if e.op=18 then .bind (bL (C own) d ls e.args[0]!) fun u=>if cd u z.2=true then .ok z.2 else .er 13 else .ok z.2) n= .ok t n':=by
   rw[<- hf];unfold cr;rw[if_neg (by omega),if_neg (by omega),Ps (.inl o)];all_goals rfl
  cases hz:bW (fun z:bd=>z.1== e.s) (C own).vars with
  |none=>rw[hz]at hf;cases hf
  |some z=>
   rw[hz]at hf;dsimp only at hf;rw[if_neg (by omega)]at hf;cases hf;obtain⟨w1,w2,i,w3,w4,_⟩:=W.var own e.s z hz;simp[aQ,o,hl];unfold rV;rw[if_neg w1];simp only[w3];rw[if_neg (by omega),if_neg (by omega)];intro m hm;exact gt (p:=p) (b:=n) (by rw[PH];exact Kl hm w2 w4) m hm
 ·obtain⟨x,hl⟩:=pO hl;have a0:e.args[0]! = x:=by rw[hl];rfl
  have hf:(match bW (fun z:bd=>z.1== e.s) (C own).vars with
    |none=>dE.er 12
    |some z=>if e.op=18 then .bind (bL (C own) d ls e.args[0]!) fun u=>if cd u z.2=true then .ok z.2 else .er 13 else .ok z.2) n= .ok t n':=by
   rw[<- hf];unfold cr;rw[if_neg (by omega),if_neg (by omega),Ps (.inr o)];all_goals rfl
  cases hz:bW (fun z:bd=>z.1== e.s) (C own).vars with
  |none=>rw[hz]at hf;cases hf
  | some z=>
   rw[hz]at hf;dsimp only at hf;rw[Ps o,a0]at hf;obtain⟨u,k,h1,h2⟩:=bind_ok hf;split at h2
   ·rename_i hb;cases h2;rw[hl]at ha;simp only[P5,QZ,QB]at ha;obtain⟨w1,w2,i,w3,w4,w5⟩:=W.var own e.s z hz;have g1:¬(aQ e.op= -2\/(aQ e.op≠-1/\aQ e.op≠e.args.length)):=by rw[hl,o];simp[aQ]
    simp[aQ,o,hl];unfold rV;rw[if_neg w1];simp only[w3];rw[if_neg (by omega),Ps o,a0];refine dX (H ls x n n' u ha h1 ns vs hs) fun v hv m hm=>?_;have hv':=iC 4 u z.2 v w5 hb hv;exact⟨KT hm (by rw[PH];exact w4) hv',⟨[],by simp[X.upd,X.ok,Rs.st],by simp⟩,(fun e s h=>by cases h),fun a s h=>by cases h;exact hv'⟩
   ·cases h2
theorem sound{p:List Mod}{C:Int->Tcx}(W:Wt p C):∀(g:Nat)(own:Int)(d:Nat),Ly p g (C own) own d
 |0,_,_=>fun _ _ _ _ _ _ _ _ _ _=>Br (.inl rfl)
 |g+1,own,0=>fun _ _ _ _ _ h=>by cases h
 |g+1,own,d+1=>Gn W (sound W g) own d
def BH(p:List Mod):List Df:=p.flatMap fun m=>m.funcs.map fun f=>(m.name,f.name)
theorem GG:Wt [] (fun _=>vw) where
 call:=fun own e s h=>by
  unfold dk vw at h;split at h<;>simp at h
 fn:=fun a s f h=>by
  unfold jI at h;split at h
  ·cases h
  ·have hd:(default:Mod).funcs=[]:=rfl;simp[kD,aV,hd]at h
 var:=fun own s z h=>by cases h
def tz{ls:List bd}{e:Exp}{want:Ty}(h:cY ls e want=0):∃t,bL vw 12 ls e 0= .ok t 0/\cd t want=true:=by
 unfold cY at h;cases hx:bL vw 12 ls e 0 with
 |er b n=>rw[hx]at h;exact absurd h (iy vw 12 ls e 0 b n hx)
 | ok t n=>
  rw[hx]at h;simp only at h;by_cases hn:n=0
  ·subst hn;rw[if_neg (by simp)]at h;by_cases hb:cd t want=true
   ·exact⟨t,rfl,hb⟩
   ·rw[if_neg hb]at h;cases h
  ·rw[Ps hn]at h;cases h
def Cc{e:Exp}{want:Ty}(hr:cB 12 e=true)(hw:bg want=true)(h:cY [] e want=0):(∀c s,fW e [] []= .er c s->c=16\/c=6)/\∀v s,fW e [] []= .ok v s->eN want v:=by
 obtain⟨t,h1,h2⟩:=tz h;have S:=sound GG 100000 (-1) 12 [] e 0 0 t hr h1 [] [] trivial;have e0:fW e [] []=bR [] 100000 (-1) [] [] e (de [] 100000 []):=by
  unfold fW;rw[Ps (by simp)]
 have hst:JG [] (de [] 100000 []).state:=⟨rfl,fun i m l h=>by simp at h⟩;obtain⟨_,_,s1,s2⟩:=S (de [] 100000 []) hst;rw[e0];exact⟨fun c s h=>s1 c s h,fun v s h=>iC 4 t want v hw h2 (s2 v s h)⟩
theorem qP:(es:List Exp)->(zs:List bd)->es.length=zs.length->(∀e∈es,cB 12 e=true)->(∀z∈zs,bg z.2=true)->(∀x∈dV [] zs es,x.2=0)->(∀c,fP es= .error c->c=16\/c=6)/\∀vs,fP es= .ok vs->vs.length=zs.length/\∀(k:Nat)(z:bd)(v:Val),zs[k]? = some z->vs[k]? = some v->eN z.2 v
 |[],[],_,_,_,_=>⟨(fun c h=>by cases h),fun vs h=>by cases h;exact⟨rfl,fun k z v h=>by simp at h⟩⟩
 | e:: es,z:: zs,hl,hr,hz,hp=>by
  obtain⟨a1,a2⟩:=Cc (hr e P2) (hz z P2) (hp (z.1,cY [] e z.2) (by simp[dV]));obtain⟨b1,b2⟩:=qP es zs (by simpa using hl) (fun x hx=>hr x (PU _ hx)) (fun x hx=>hz x (PU _ hx)) (fun x hx=>hp x (by unfold dV at hx |-;exact PU _ hx));unfold fP;cases hx:fW e [] []with
  |er c s=>exact⟨fun c' h=>by cases h;exact a1 _ _ hx,fun vs h=>by cases h⟩
  | ok v s=>
   cases hi:fP es with
   |error c=>exact⟨fun c' h=>by cases h;exact b1 _ hi,fun vs h=>by cases h⟩
   |ok vs=>
    obtain⟨c1,c2⟩:=b2 vs hi;refine⟨fun c' h=>(by cases h),fun ws h=>?_⟩;cases h;refine⟨by simp[c1],fun k z' v' h1 h2=>?_⟩;cases k with
    |zero=>simp at h1 h2;subst h1 h2;exact a2 _ _ hx
    |succ k=>exact c2 k z' v' (by simpa using h1) (by simpa using h2)
 |[],_:: _,hl,_,_,_=>by simp at hl
 |_:: _,[],hl,_,_,_=>by simp at hl
theorem Ci:∀ {n:Nat} {v:Val},bF n v=true->v.names.length=v.values.length/\v.names.length<=8/\∀x∈v.values,∃m,bF m x=true
 |0,v,h=>by simp[bF]at h
 | n+1,v,h=>by
  unfold bF at h;split at h
  ·simp only[Po,PR]at h;have h1:v.values=[]:=List.length_eq_zero_iff.1 h.1.2;refine⟨by omega,by omega,fun x hx=>by rw[h1]at hx;cases hx⟩
  ·simp only[Po,PR,Pt,PG]at h;exact⟨h.1.1.1.2,h.1.1.2,fun x hx=>⟨n,h.2 x hx⟩⟩
theorem iR{s:a7}:∀(ns:List a7)(vs:List Val)(i:Int),ns.length=vs.length->0<=i->(aV (fun x=>s== x) ns i= -1/\dQ ns vs s=none)\/∃k:Nat,aV (fun x=>s== x) ns i=i+k/\k<vs.length/\dQ ns vs s=vs[k]?
 |[],[],_,_,_=>.inl ⟨rfl,rfl⟩
 | n:: ns,v:: vs,i,h,hi=>by
  by_cases hn:n=s
  ·subst hn;exact .inr ⟨0,by simp[aV],by simp,by simp[dQ]⟩
  ·have hn':¬(s== n)=true:=by simpa using fun e=>hn e.symm
   rcases iR (s:=s) ns vs (i+1) (by simpa using h) (by omega)with⟨h1,h2⟩|⟨k,h1,h2,h3⟩
   ·exact .inl ⟨by simp only[aV];rw[if_neg hn',h1],by simp[dQ,hn,h2]⟩
   ·exact .inr ⟨k+1,by simp only[aV];rw[if_neg hn',h1];omega,by simpa using h2,by simp[dQ,hn,h3]⟩
 |[],_:: _,_,h,_=>by simp at h
 |_:: _,[],_,h,_=>by simp at h
theorem oh:∀(d:Nat)(t:Ty)(n:Nat)(v:Val),dm d t=true->bF n v=true->(li d t v=true↔eN t v)
 |0,_,_,_,h,_=>by cases h
 | d+1,t,n,v,h,hv=>by
  have hr:=h;rw[fR]at hr;simp only[Po,PG,Qn,PR]at hr;obtain⟨hl,_,hk⟩:=Ci hv;obtain⟨k,fs⟩:=t;rw[show li (d+1) (Ty.mk k fs) v=(k== v.kind&&fs.all fun f=>decide (0<=iU v.names f.1)&&li d f.2 v.values[(iU v.names f.1).toNat]!)from rfl];simp only[eN,om,Po,PR,PG,Pt];have key:∀f∈fs,(0<=iU v.names f.1/\li d f.2 v.values[(iU v.names f.1).toNat]! = true)↔Fj f v:=by
   intro f hf;rw[wY];unfold iU;rcases iR (s:=f.1) v.names v.values 0 hl (QX _)with⟨h1,h2⟩|⟨j,h1,h2,h3⟩
   ·rw[h1,h2];exact⟨fun h=>absurd h.1 (by decide),fun⟨x,h,_⟩=>by cases h⟩
   ·rw[h1,h3,Sv,PH,Pz v.values j h2,Pv h2];obtain⟨m,hm⟩:=hk _ (Px h2);have ih:=oh d f.2 m v.values[j] (hr.2.1 f hf).2 hm;exact⟨fun h=>⟨_,rfl,ih.1 h.2⟩,fun⟨x,hx,hh⟩=>by cases hx;exact⟨by omega,ih.2 hh⟩⟩
  refine⟨fun⟨h1,h2⟩=>⟨h1.symm,fun hne=>?_,fun f hf=>(key f hf).1 (h2 f hf)⟩,fun⟨h1,_,h3⟩=>⟨h1.symm,fun f hf=>(key f hf).2 (h3 f hf)⟩⟩;rcases hr.1.2 with h|h
  ·exact h
  ·exact absurd (PL h) hne
def Fl{t:Ty}{v:Val}(h:fp t v=true):eN t v:=by
 simp only[fp,Po]at h;exact (oh 4 t 4 v h.1 h.2.1).1 h.2.2
def wZ{t:Ty}{v:Val}(ht:bg t=true)(hv:bF 4 v=true)(h:eN t v):fp t v=true:=by
 simp only[fp,Po];exact⟨ht,hv,(oh 4 t 4 v ht hv).2 h⟩
theorem tJ:∀ {ls:List bd} {vs:List Val},cj (fun f v=>fp f.2 v) ls vs=true->jh ls (ls.map (·.1)) vs
 |[],[],_=>trivial
 |f:: ls,v:: vs,h=>by
  simp only[cj,Po]at h;exact⟨rfl,Fl h.1,tJ h.2⟩
 |[],_:: _,h=>by simp[cj]at h
 |_:: _,[],h=>by simp[cj]at h
def uu{ls:List bd}{vs:List Val}{e:Exp}{want:Ty}(hr:cB 12 e=true)(hw:bg want=true)(h:cY ls e want=0)(hv:cj (fun f v=>fp f.2 v) ls vs=true)(hf:vs.all (bF 4)=true):
  (∀c s,fW e (ls.map (·.1)) vs= .er c s->c=16\/c=6)/\∀v s,fW e (ls.map (·.1)) vs= .ok v s->eN want v:=by
 obtain⟨t,h1,h2⟩:=tz h;have S:=sound GG 100000 (-1) 12 ls e 0 0 t hr h1 (ls.map (·.1)) vs (tJ hv);have hlen:ls.length=vs.length:=by
  have key:∀(l:List bd)(r:List Val),cj (fun f v=>fp f.2 v) l r=true->l.length=r.length:=by
   intro l
   induction l with
   |nil=>intro r h;cases r with|nil=>rfl|cons=>simp[cj]at h
   |cons a l ih=>intro r h;cases r with|nil=>simp[cj]at h|cons b r=>simp only[cj,Po]at h;simp[ih r h.2]
  exact key ls vs hv
 have e0:fW e (ls.map (·.1)) vs=bR [] 100000 (-1) (ls.map (·.1)) vs e (de [] 100000 []):=by
  unfold fW;rw[Ps ⟨by simpa using hlen,hf⟩]
 have hst:JG [] (de [] 100000 []).state:=⟨rfl,fun i m l h=>by simp at h⟩;obtain⟨_,_,s1,s2⟩:=S (de [] 100000 []) hst;rw[e0];exact⟨fun c s h=>s1 c s h,fun v s h=>iC 4 t want v hw h2 (s2 v s h)⟩
def qx{e:Exp}{ns:List a7}{vs:List Val}{v:Val}{s:Ms}(h:fW e ns vs= .ok v s):Rv v:=by
 unfold fW at h;split at h
 ·rename_i hc;exact (kp 100000 (-1) ns vs e ⟨hc.1,fun v hv=>PG.1 hc.2 v hv⟩ (de [] 100000 []) ⟨fun l hl=>(by cases hl),fun c hc=>(by cases hc)⟩).2.2 v s h
 ·cases h
theorem mL{ls:List bd}{vs:List Val}(hv:cj (fun f v=>fp f.2 v) ls vs=true)(hf:vs.all (bF 4)=true):∀(zs:List bd)(es:List Exp)(acc:List Val),es.length=zs.length->(∀e∈es,cB 12 e=true)->(∀z∈zs,bg z.2=true)->(∀x∈dV ls zs es,x.2=0)->
  ∀c,dR (ls.map (·.1)) vs zs es acc= .error c->c=16\/c=6
 |[],_,_,_,_,_,_=>fun c h=>by simp[dR]at h
 |_:: _,[],_,hl,_,_,_=>by simp at hl
 | z:: zs,e:: es,acc,hl,hr,hz,hp=>fun c h=>by
  obtain⟨a1,a2⟩:=uu (hr e P2) (hz z P2) (hp (z.1,cY ls e z.2) (by simp[dV])) hv hf;rw[dR]at h;cases hx:fW e (ls.map (·.1)) vs with
  |er c' s=>rw[hx]at h;cases h;exact a1 _ _ hx
  |ok v s=>
   rw[hx]at h;simp only at h;rw[Ps (wZ (hz z P2) (qx hx) (a2 v s hx))]at h;exact mL hv hf zs es _ (by simpa using hl) (fun x hx=>hr x (PU _ hx)) (fun x hx=>hz x (PU _ hx)) (fun x hx=>hp x (by unfold dV at hx |-;exact PU _ hx)) c h
structure AccM (m:Mod):Prop where
 ok:ModOk m
 init:∀x∈dV [] m.vars m.init,x.2=0
 forw:m.moves=true->∀x∈dV m.old m.vars m.forward,x.2=0
 back:m.moves=true->∀x∈dV m.vars m.old m.back,x.2=0
def JI{m:Mod}(h:(kY m []).2=0):AccM m:=by
 unfold kY at h;by_cases hr:lF m=true
 ·rw[Ps (by simpa using hr)]at h;have h1:=uv h (jt m) (by simp);unfold jt at h1;have h2:=uv h1;refine⟨FL hr,fun x hx=>h2 x (Q7 _ hx),fun hm x hx=>h2 x ?_,fun hm x hx=>h2 x ?_⟩
  ·rw[Ps hm];exact QT _ (Q7 _ hx)
  ·rw[Ps hm];exact QT _ (QT _ hx)
 ·rw[if_neg (by simpa using hr)]at h;cases h
theorem oA{ns:List a7}{vs:List Val}:∀(zs:List bd)(es:List Exp)(acc:List Val),(∀e∈es,mn e<=50)->∀c,dR ns vs zs es acc= .error c->c≠16
 |[],_,_,_=>fun c h=>by simp[dR]at h
 |_:: _,[],_,_=>fun c h=>by simp[dR]at h
 | z:: zs,e:: es,acc,hs=>fun c h=>by
  rw[dR]at h;cases hx:fW e ns vs with
  |er c' s=>
   rw[hx]at h;cases h;exact wC (by have:=hs e P2;omega) hx
  | ok v s=>
   rw[hx]at h;simp only at h;by_cases hv:fp z.2 v=true
   ·rw[Ps hv]at h;exact oA zs es _ (fun x hx=>hs x (PU _ hx)) c h
   ·rw[if_neg hv]at h;cases h;decide
def Im(a b:List bd)(vars:List Val)(r:Except Int (List Val)):Prop:=
 (cL a vars=false/\r= .error 1)\/(cL a vars=true/\((∃l,r= .ok l/\cL b l=true)\/r= .error 6))
def tm{l:List bd}{vs:List Val}(h:cL l vs=true):cj (fun f v=>fp f.2 v) l vs=true/\vs.all (bF 4)=true:=by
 simp only[cL,Po,Pt]at h;refine⟨h.2,?_⟩;have key:∀(l:List bd)(vs:List Val),cj (fun f v=>fp f.2 v) l vs=true->vs.all (bF 4)=true:=by
  intro l
  induction l with
  |nil=>intro vs h;cases vs with|nil=>rfl|cons=>simp[cj]at h
  | cons f l ih=>
   intro vs h;cases vs with
   |nil=>rfl
   |cons v vs=>
    simp only[cj,Po]at h;rw[P5,ih vs h.2,QB]
    have:=h.1
    simp only[fp,Po]at this;exact this.2.1
 exact key l vs h.2
def ta{F:bd->bd->Bool}(hF:∀a b,bg a.2=true->(F a b=true↔a=b)){old now:Mod}(K:AccM now)(hm:now.moves=true)(ho:now.old=old.vars):ig F old now=true:=by
 have e1:=K.ok.wlen hm;have e2:=K.ok.blen;have key:∀l:List bd,(∀z∈l,bg z.2=true)->cj F l l=true:=by
  intro l
  induction l with
  |nil=>intro _;rfl
  |cons z l ih=>
   intro h;simp only[cj,Po];exact⟨(hF z z (h z P2)).2 rfl,ih fun x hx=>h x (PU _ hx)⟩
 simp only[ig,Po,Pt];rw[<- ho];exact⟨⟨e1,e2⟩,rfl,key _ K.ok.old⟩
def se{F:bd->bd->Bool}(hF:∀a b,bg a.2=true->(F a b=true↔a=b)){old now:Mod}(K:AccM now)(hm:now.moves=true)(ho:now.old=old.vars)(hs:∀e∈now.forward,mn e<=50)(vars:List Val):Im old.vars now.vars vars (fY F old now vars):=by
 cases hv:cL old.vars vars with
 |false=>exact .inl ⟨hv,by unfold fY;rw[Ps hv]⟩
 | true=>
  refine .inr ⟨hv,?_⟩;cases hf:fY F old now vars with
  |ok l=>exact .inl ⟨l,rfl,(wS hf).2⟩
  |error c=>
   right;unfold fY at hf;rw[if_neg (by simp[hv]),if_neg (by simp[hm]),if_neg (by simp[ta hF K hm ho])]at hf;obtain⟨h1,h2⟩:=tm hv;have h3:=mL h1 h2 now.vars now.forward [] (K.ok.wlen hm) K.ok.forw K.ok.vars (by have:=K.forw hm;rwa [ho]at this) c hf;have h4:=oA _ _ _ hs c hf;rcases h3 with h|h
   ·exact absurd h h4
   ·rw[h]
def yI{F:bd->bd->Bool}(hF:∀a b,bg a.2=true->(F a b=true↔a=b)){old now:Mod}(K:AccM now)(hm:now.moves=true)(ho:now.old=old.vars)(hs:∀e∈now.back,mn e<=50)(vars:List Val):Im now.vars old.vars vars (mU F old now vars):=by
 cases hv:cL now.vars vars with
 |false=>exact .inl ⟨hv,by unfold mU;rw[Ps hv]⟩
 | true=>
  refine .inr ⟨hv,?_⟩;cases hf:mU F old now vars with
  |ok l=>exact .inl ⟨l,rfl,(ED hf).2⟩
  |error c=>
   right;unfold mU at hf;rw[if_neg (by simp[hv]),if_neg (by simp[hm]),if_neg (by simp[ta hF K hm ho])]at hf;obtain⟨h1,h2⟩:=tm hv;have h3:=mL h1 h2 old.vars now.back [] (by rw[<- ho];exact K.ok.blen) K.ok.back (by rw[<- ho];exact K.ok.old) (by have:=K.back hm;rwa [ho]at this) c hf;have h4:=oA _ _ _ hs c hf;rcases h3 with h|h
   ·exact absurd h h4
   ·rw[h]
theorem s7:∀(es:List Exp),(∀e∈es,mn e<=50)->∀c,fP es= .error c->c≠16
 |[],_=>fun c h=>by cases h
 | e:: es,hs=>fun c h=>by
  unfold fP at h;cases hx:fW e [] []with
  |er c' s=>
   rw[hx]at h;cases h;exact wC (by have:=hs e P2;omega) hx
  | ok v s=>
   rw[hx]at h;simp only at h;cases hi:fP es with
   |error c'=>
    rw[hi]at h;cases h;exact s7 es (fun x hx=>hs x (PU _ hx)) c hi
   |ok vs=>rw[hi]at h;cases h
theorem qO:∀(es:List Exp)(vs:List Val),fP es= .ok vs->∀v∈vs,bF 4 v=true
 |[],vs,h=>by cases h;nofun
 | e:: es,vs,h=>by
  unfold fP at h;cases hx:fW e [] []with
  |er c' s=>rw[hx]at h;cases h
  | ok v s=>
   rw[hx]at h;simp only at h;cases hi:fP es with
   |error c'=>rw[hi]at h;cases h
   |ok ws=>
    rw[hi]at h;cases h;intro w hw;rcases P0.1 hw with rfl|hw
    ·exact qx hx
    ·exact qO es ws hi w hw
def wV{m:Mod}(K:AccM m)(hs:∀e∈m.init,mn e<=50):(∃vs,iT [m]= .ok [⟨m.name,vs⟩]/\cL m.vars vs=true)\/iT [m]= .error 6:=by
 obtain⟨a1,a2⟩:=qP m.init m.vars K.ok.ilen K.ok.init K.ok.vars K.init;have hn:ju [m]=0:=by
  unfold ju;rw[if_neg (by simp),if_neg (by simp[lJ])]
 unfold iT jp;rw[Ps hn,Ps K.ok.ilen];cases hi:fP m.init with
 |error c=>
  right;rcases a1 c hi with h|h
  ·exact absurd h (s7 _ hs c hi)
  ·rw[h]
 | ok vs=>
  left;refine⟨vs,rfl,?_⟩;obtain⟨b1,b2⟩:=a2 vs hi;have b3:=qO _ _ hi;simp only[cL,Po,Pt];refine⟨b1.symm,?_⟩;have key:∀(zs:List bd)(vs:List Val),vs.length=zs.length->(∀(k:Nat)(z:bd)(v:Val),zs[k]? = some z->vs[k]? = some v->eN z.2 v)->(∀z∈zs,bg z.2=true)->(∀v∈vs,bF 4 v=true)->cj (fun f v=>fp f.2 v) zs vs=true:=by
   intro zs
   induction zs with
   |nil=>intro vs hl _ _ _;cases vs with|nil=>rfl|cons=>simp at hl
   | cons z zs ih=>
    intro vs hl h1 h2 h3;cases vs with
    |nil=>simp at hl
    |cons v vs=>
     simp only[cj,Po];exact⟨wZ (h2 z P2) (h3 v P2) (h1 0 z v rfl rfl),ih vs (by simpa using hl) (fun k z' v' e1 e2=>h1 (k+1) z' v' (by simpa using e1) (by simpa using e2)) (fun x hx=>h2 x (PU _ hx)) (fun x hx=>h3 x (PU _ hx))⟩
  exact key _ _ b1 b2 K.ok.vars b3
end Go.Av.Ap
namespace Go.Av.Ap
variable {α:Type}
def AG(nm:α->a7)(l:List α)(s:a7):List α:=(l.find? fun x=>nm x== s).toList
end Go.Av.Ap
namespace Go.Av
end Go.Av
namespace Go.Av.Ap
variable {α:Type}
mutual
theorem oM:∀(a b:Ty),jT a b=true↔a=b
 |.mk k fs,.mk k' fs'=>by simp only[jT,Po,PR,rJ fs fs',Ty.mk.injEq]
theorem rJ:∀(a b:List bd),ku a b=true↔a=b
 |[],[]=>by simp[ku]
 |[],_:: _=>by simp[ku]
 |_:: _,[]=>by simp[ku]
 |f:: l,g:: m=>by simp only[ku,Po,zP f g,rJ l m,Ri]
theorem zP:∀(a b:a7×Ty),vg a b=true↔a=b
 |(s,t),(s',t')=>by simp only[vg,Po,PR,oM t t',Qt]
end
mutual
theorem CU:∀(a b:Exp),Gf a b=true↔a=b
 |.mk o n s m ns es,.mk o' n' s' m' ns' es'=>by simp only[Gf,Po,PR,rI es es',Exp.mk.injEq,and_assoc]
theorem rI:∀(a b:List Exp),mP a b=true↔a=b
 |[],[]=>by simp[mP]
 |[],_:: _=>by simp[mP]
 |_:: _,[]=>by simp[mP]
 |f:: l,g:: m=>by simp only[mP,Po,CU f g,rI l m,Ri]
end
def pick(nm:α->a7)(same:α->α->Bool)(a b c:List α)(s:a7):List α:=if cj same (AG nm a s) (AG nm b s)=true then AG nm c s else AG nm b s
end Go.Av.Ap
