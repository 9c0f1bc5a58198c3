/- The abstract evaluator and plain laws, part 4. Condition: the table of types is the program's. -/
import Derived.Test.YtbndmpiddinalacGreatDoorLc
set_option linter.defProp false
set_option linter.unusedSimpArgs false
set_option linter.unusedVariables false
namespace Go.Av.Ap
def vA(p:List Mod):Bool:=(List.range p.length).any fun i=>(p.take i).any fun m=>m.name== (p[i]?.getD default).name
def jR(p:List Mod):Int:=if 20<p.length then 6 else if vA p=true then 5 else 0
def fQ(world:List Int)(fuel:Int)(st:List (List Val)):Ms:=⟨fuel,0,world,[],[],st⟩
def yl(e:Exp)(ns:List ba)(vs:List Val):Rs Val:=
 if ns.length=vs.length/\vs.all (cQ 4)=true then cP [] 100000 (-1) ns vs e (fQ [] 100000 [])else .er 1 (fQ [] 100000 [])
def oM:List Exp->Except Int (List Val)
 |[]=>.ok []
 | e:: es=>match yl e [] []with
  |.er c _=>.error c
  |.ok v _=>match oM es with
   |.error c=>.error c
   |.ok vs=>.ok (v:: vs)
def lC:List Mod->Except Int (List Vars)
 |[]=>.ok []
 | m:: ms=>if m.init.length=m.vars.length then(match oM m.init with
   |.error c=>.error c
   |.ok vs=>match lC ms with
    |.error c=>.error c
    |.ok r=>.ok (⟨m.name,vs⟩:: r))
  else .error 13
def lD(p:List Mod):Except Int (List Vars):=if jR p=0 then lC p else .error (jR p)
def eF(p:List Mod)(st:List Vars):Bool:=iW (fun(m:Mod) (v:Vars)=>v.module== m.name&&(v.values.length== m.vars.length&&v.values.all (cQ 4))) p st
theorem wo{α β:Type}{F:α->β->Bool}:{a:List α} ->{b:List β} ->iW F a b=true->a.length=b.length/\∀(i:Nat)(x:α)(y:β),a[i]? = some x->b[i]? = some y->F x y=true
 |[],[],_=>⟨rfl,fun i x y h=>by simp at h⟩
 |[],_:: _,h=>by simp[iW]at h
 |_:: _,[],h=>by simp[iW]at h
 |x:: a,y:: b,h=>by
  simp only[iW,XJ]at h;obtain⟨h1,h2⟩:=wo h.2
  grind
def ly{p:List Mod}{st:List Vars}(h:eF p st=true):st.length=p.length/\(∀x∈st,∀v∈x.values,Rv v)/\∀(i:Nat)(m:Mod)(x:Vars),p[i]? = some m->st[i]? = some x->x.module=m.name/\x.values.length=m.vars.length:=by
 obtain⟨h1,h2⟩:=wo h;refine⟨h1.symm,fun x hx v hv=>?_,fun i m x hm hx=>?_⟩
 ·obtain⟨i,hi⟩:=ZC.1 hx;have hlt:i<st.length:=(XQ.1 hi).1
  have:=h2 i (p[i]'(Z5)) x (XW _) hi
  grind
 grind
theorem sa:(l:List Exp)->(vs:List Val)->oM l= .ok vs->vs.length=l.length/\∀v∈vs,Rv v
 |[],vs,h=>by cases h;grind
 | e :: es,vs,h=>by
  unfold oM at h;split at h
  ·cases h
  ·rename_i v s hv;split at h
   ·cases h
   ·rename_i ws hws;cases h;obtain⟨h1,h2⟩:=sa es ws hws;refine⟨by simp[h1],fun w hw=>?_⟩;rcases Yn.1 hw with rfl|hw
    ·unfold yl at hv;rw[XK Z8]at hv;exact (py 100000 (-1) [] [] e ⟨rfl,fun v hv=>by cases hv⟩ (fQ [] 100000 []) ⟨fun l hl=>by simp[fQ]at hl,fun l hl=>by simp[fQ]at hl⟩).2.2 _ _ hv
    grind
theorem nD:(p:List Mod)->(st:List Vars)->lC p= .ok st->eF p st=true
 |[],st,h=>by cases h;rfl
 | m :: ms,st,h=>by
  unfold lC at h;split at h
  ·rename_i hl;split at h
   ·cases h
   ·rename_i vs hvs;split at h
    ·cases h
    ·rename_i r hr;cases h;obtain⟨h1,h2⟩:=sa _ _ hvs
     have:=nD ms r hr
     simp_all[eF,iW]
  ·cases h
def ub{p:List Mod}{st:List Vars}(h:lD p= .ok st):eF p st=true:=by
 grind [lD,nD]
theorem w9:(l:List Exp)->(c:Int)->oM l= .error c->c≠0
 |[],c,h=>by cases h
 | e:: es,c,h=>by
  unfold oM at h;split at h
  ·grind [yl,zV]
  ·split at h
   ·rename_i c' hc;cases h;exact w9 es _ hc
   ·cases h
theorem ua:(p:List Mod)->(c:Int)->lC p= .error c->c≠0
 |[],c,h=>by cases h
 | m :: ms,c,h=>by
  unfold lC at h;split at h
  ·split at h
   ·grind [w9]
   ·split at h
    ·rename_i c' hc;cases h;exact ua ms _ hc
    ·cases h
  grind
def Ct{p:List Mod}{c:Int}(h:lD p= .error c):c≠0:=by
 grind [lD,ua]
end Go.Av.Ap
namespace Go.Av.Ap
open Go Go.Av
abbrev FV(e:Exp):Bool:=cS 12 e
def AY:List ba->List fu->Bool
 |_,[]=>true
 |seen,f:: l=>!(seen.contains f.1)&&cw f.1&&jS f.2&&AY (seen++[f.1]) l
def iK(l:List fu)(most:Int):Bool:=AY [] l&&decide ((l.length:Int)<=most)
def Fq(f:Fun):Bool:=cw f.name&&iK f.params 6&&jS f.result&&FV f.body&&(mE f.effects 15== 0)
def sk:List ba->List Fun->Bool
 |_,[]=>true
 |seen,f:: l=>!(seen.contains f.name)&&Fq f&&sk (seen++[f.name]) l
def HZ:List ba->List ba->Bool
 |_,[]=>true
 |seen,s:: l=>!(seen.contains s)&&cw s&&HZ (seen++[s]) l
def xv(m:Mod):Bool:=cw m.name&&decide (m.uses.length<=12)&&decide (m.funcs.length<=30)&&iK m.vars 8&&(m.init.all FV&&((m.init.length:Int)== m.vars.length))&&(m.moves||decide (m.old.length=0)) &&
 (iK m.old 8&&(m.forward.all FV&&((m.forward.length:Int)== (if m.moves=true then(m.vars.length:Int)else 0)))&&(m.back.all FV&&((m.back.length:Int)== m.old.length)))
def ij(m:Mod):Bool:=HZ [] m.uses&&(sk [] m.funcs&&xv m)
theorem qh:(l:List fu)->(seen:List ba)->AY seen l=true->(∀f∈l,cw f.1=true/\jS f.2=true/\f.1 ∉ seen)/\(l.map (·.1)).Nodup
 |[],seen,_=>⟨fun f h=>(by cases h),List.nodup_nil⟩
 |f:: l,seen,h=>by
  simp only[AY,XJ,Yh]at h;obtain⟨⟨⟨h1,h2⟩,h3⟩,h4⟩:=h;obtain⟨i1,i2⟩:=qh l _ h4
  grind
theorem xn:(l:List Fun)->(seen:List ba)->sk seen l=true->(∀f∈l,Fq f=true/\f.name ∉ seen)/\(l.map (·.name)).Nodup
 |[],seen,_=>⟨fun f h=>(by cases h),List.nodup_nil⟩
 |f:: l,seen,h=>by
  simp only[sk,XJ,Yh]at h;obtain⟨⟨h1,h2⟩,h4⟩:=h;obtain⟨i1,i2⟩:=xn l _ h4
  grind
structure FunOk (f:Fun):Prop where
 name:cw f.name=true
 plen:f.params.length<=6
 pars:∀z∈f.params,jS z.2=true
 pnames:(f.params.map (·.1)).Nodup
 res:jS f.result=true
 body:cS 12 f.body=true
 eff:mE f.effects 15=0
def NS{f:Fun}(h:Fq f=true):FunOk f:=by
 unfold Fq iK at h;simp only[XJ,XI,Yt]at h;obtain⟨⟨⟨⟨h1,h2,h3⟩,h4⟩,h5⟩,h6⟩:=h;obtain⟨i1,i2⟩:=qh _ _ h2;exact⟨h1,Z5,fun z hz=>(i1 z hz).2.1,i2,h4,h5,h6⟩
structure ModOk (m:Mod):Prop where
 name:cw m.name=true
 ulen:m.uses.length<=12
 flen:m.funcs.length<=30
 fns:∀f∈m.funcs,FunOk f
 fnames:(m.funcs.map (·.name)).Nodup
 vlen:m.vars.length<=8
 vars:∀z∈m.vars,jS z.2=true
 vnames:(m.vars.map (·.1)).Nodup
 ilen:m.init.length=m.vars.length
 init:∀e∈m.init,cS 12 e=true
 olen:m.old.length<=8
 old:∀z∈m.old,jS z.2=true
 wlen:m.moves=true->m.forward.length=m.vars.length
 forw:∀e∈m.forward,cS 12 e=true
 blen:m.back.length=m.old.length
 back:∀e∈m.back,cS 12 e=true
def uJ{m:Mod}(h:ij m=true):ModOk m:=by
 unfold ij xv iK at h;simp only[XJ,XI,Yt,XY,Yy]at h;obtain⟨h1,h2,⟨⟨⟨⟨⟨h3,h4⟩,h5⟩,h6,h7⟩,h8,h9⟩,h10⟩,⟨⟨h11,h12⟩,h13,h14⟩,h15,h16⟩:=h;obtain⟨f1,f2⟩:=xn _ _ h2;obtain⟨v1,v2⟩:=qh _ _ h6;obtain⟨o1,_⟩:=qh _ _ h11;exact⟨h3,h4,h5,fun f hf=>NS (f1 f hf).1,f2,Z5,fun z hz=>(v1 z hz).2.1,v2,Z5,h8,Z5,fun z hz=>(o1 z hz).2.1,fun hm=>Z7,h13,Z5,h15⟩
structure Frm where
 mod:ba
 fn:ba
 pc:Int
 locals:List Val
 stack:List Val
 deriving Inhabited
def Frm.cells(f:Frm):List AV:=[.str f.mod,.str f.fn,.int .i64 f.pc,vals f.locals,vals f.stack]
def Frm.av(f:Frm):AV:=.agg f.cells
def gT(l:List Frm):AV:=.sl (l.map Frm.av)
structure Proc where
 mods:List Mod
 state:List Vars
 frames:List Frm
 world:List Int
 out:Out
 ended:Bool
structure Fnc where
 at_:Int
 pub:Bool
 cod:Cod
 hts:List Int
def fj(p:List Mod)(s t:ba):Option Fnc:=
 match lS p (dI p s) t with
 |none=>none
 |some f=>match dq (dx (p[(dI p s).toNat]?.getD default).vars f)with
  |none=>none
  |some h=>some ⟨dI p s,f.pub,dx (p[(dI p s).toNat]?.getD default).vars f,h⟩
def jw(p:List Mod):Int:=
 if jR p≠0 then jR p else if p.all ij=false then 1
 else if p.all (fun m=>m.funcs.all fun f=>(dq (dx m.vars f)).isSome)=false then 13 else 0
def fp(l:List Val)(n:Int):Bool:=decide ((l.length:Int)=n)&&l.all (cQ 4)
def vY(s t:ba):ba:=if s=[]then t else s
def i7(p:List Mod)(f:Frm)(next:Option Frm):Bool:=
 match fj p f.mod f.fn with
 |none=>false
 | some x=>(decide (0<=f.pc)&&decide (f.pc<x.cod.code.length))&&fp f.locals x.cod.locals &&
  match next with
  |none=>decide (0<=x.hts[f.pc.toNat]!)&&fp f.stack x.hts[f.pc.toNat]!
  |some g=>decide (f.pc≠0)&&fp f.stack (x.hts[f.pc.toNat]! - 1) &&
   (decide (x.cod.code[(f.pc-1).toNat]!.op=14)&&decide (vY x.cod.code[(f.pc-1).toNat]!.m f.mod=g.mod)&&decide (x.cod.code[(f.pc-1).toNat]!.s=g.fn))
def eu(p:List Mod):List Frm->Option Frm->Bool
 |[],_=>true
 |f:: l,nx=>i7 p f (l.head?.or nx)&&eu p l nx
def gW(p:List Mod)(l:List Frm):Bool:=eu p l none
def qb(o:Out):Bool:=o.err== 0&&o.value.kind== 0&&o.value.n== 0&&decide (o.value.names.length+o.value.values.length+o.state.length=0)
def dV(p:Proc):Bool:=decide (jw p.mods=0)&&eF p.mods p.state&&(p.ended== p.frames.isEmpty)&&decide (p.frames.length<=60)&&(p.ended||qb p.out)&&gW p.mods p.frames
def yh(p:Proc)(e:Int)(v:Val):Proc:={ p with ended:=true,frames:=[],out:={ p.out with err:=e,value:=v,state:=p.state } }
def Gl(p:Proc)(fs:List Frm)(s:ba)(x:Fnc)(args:List Val):Proc:=
 { p with
  frames:=fs++[⟨s,x.cod.func,0,args++List.replicate (x.cod.locals.toNat-args.length) (cg 0),[]⟩]
  out:={ p.out with calls:=if x.pub=true then p.out.calls++[⟨s,x.cod.func,args⟩]else p.out.calls } }
def BP(op:Int)(a b:Val):Option Val:=
 if(a.kind=0/\b.kind=0)\/(op=8/\a.kind=1/\b.kind=1)then
  some (if op=4 then cg (wr (a.n+b.n))else if op=5 then cg (wr (a.n-b.n))else if op=6 then cg (wr (a.n*b.n))else if op=7 then dW (decide (a.n<b.n))else dW (a.n== b.n))
 else none
def mX(p:Proc)(fs:List Frm)(f:Frm)(i:Ins):Except Int Proc:=
 let n:=f.stack.length;let put:=fun(g:Frm)=>Except.ok (ε:=Int) { p with frames:=fs++[g] };let push:=fun(k:Nat) (v:Val)=>put { f with stack:=f.stack.take (n-k)++[v] };let v:=f.stack[n-1]!
 if i.op=0 then push 0 (cg i.a)
 else if i.op=1 then push 0 (dW (i.a== 1))
 else if i.op=2 then push 0 f.locals[i.a.toNat]!
 else if i.op=3 then put { f with locals:=f.locals.set i.a.toNat v,stack:=f.stack.take (n-1) }
 else if i.op=19 then put { f with stack:=f.stack.take (n-1) }
 else if i.op=10 then put { f with pc:=i.a }
 else if i.op=11 then(if v.kind=1 then put { f with stack:=f.stack.take (n-1),pc:=if v.n=0 then i.a else f.pc }else .error 13)
 else if i.op=12 then
  (if dS (.mk 2 0 i.names (f.stack.drop (n-i.names.length)))<=4 then push i.names.length (.mk 2 0 i.names (f.stack.drop (n-i.names.length)))else .error 6)
 else if i.op=14 then
  (match fj p.mods (vY i.m f.mod) i.s with
  |none=>.error 12
  |some x=>if i.m≠[]/\x.pub=false then .error 12
   else if x.cod.params≠i.a then .error 13
   else if 60<=fs.length+1 then .error 6
   else .ok (Gl p (fs++[{ f with stack:=f.stack.take (n-i.a.toNat) }]) (vY i.m f.mod) x (f.stack.drop (n-i.a.toNat))))
 else if i.op=16 then
  (if i.a<(p.state[(dI p.mods f.mod).toNat]?.getD default).values.length then push 0 (p.state[(dI p.mods f.mod).toNat]?.getD default).values[i.a.toNat]! else .error 12)
 else if i.op=17 then
  (if i.a<(p.state[(dI p.mods f.mod).toNat]?.getD default).values.length then .ok { p with frames:=fs++[f],state:=p.state.modify (dI p.mods f.mod).toNat fun w=>{ w with values:=w.values.set i.a.toNat v } }else .error 12)
 else if i.op=9 then(if v.kind=1 then push 1 (dW (v.n== 0))else .error 13)
 else if i.op=13 then
  (match gO v.names v.values i.s with
  |some x=>if v.kind=2 then push 1 x else .error 13
  |none=>.error 13)
 else if i.op=15 then
  (if v.kind=0 then .ok { p with
   frames:=fs++[{ f with stack:=f.stack.take (n-1)++[cg (p.world.headD 0)] }]
   world:=p.world.tail
   out:={ p.out with deeds:=p.out.deeds++[⟨i.a,v.n,p.world.headD 0⟩] } }else .error 13)
 else(match BP i.op f.stack[n-2]! v with
  |some x=>push 2 x
  |none=>.error 13)
def vq(p:Proc)(fs:List Frm)(f:Frm):Proc:=
 let i:=((fj p.mods f.mod f.fn).map fun x=>x.cod.code[f.pc.toNat]!).getD default
 if i.op=18 then
  (if fs=[]then yh p 0 f.stack[f.stack.length-1]!
  else{ p with frames:=fs.dropLast++[{ fs[fs.length-1]! with stack:=fs[fs.length-1]!.stack++[f.stack[f.stack.length-1]!] }] })
 else match mX p fs { f with pc:=f.pc+1 } i with
  |.ok q=>q
  |.error e=>yh p e default
def j0(p:Proc):Proc:=if p.frames=[]then p else vq p p.frames.dropLast p.frames[p.frames.length-1]!
def jG:Nat->Proc->Proc
 |0,p=>p
 |n+1,p=>if p.ended=true then p else jG n (j0 p)
def iN(p:List Mod)(module fn:ba)(args:List Val)(world:List Int):Except Int Proc:=
 if jw p≠0 then .error (jw p)else
 match lD p with
 |.error e=>.error e
 |.ok st=>match fj p module fn with
  |none=>.error 4
  |some x=>if fp args x.cod.params=true then .ok (Gl ⟨p,st,[],world,⟨0,default,[],[],[]⟩,false⟩ [] module x args)else .error 13
end Go.Av.Ap
namespace Go.Av.Ap
theorem ap{α β:Type}{m:M α}{f:α->M β}{h h':Hp}{a:α}(e:m h= .ok a h'):ar m f h=f a h':=by simp only[ar,e]
def DC{α β:Type}{m:M α}{f:α->M β}{h h':Hp}{v:AV}(e:m h= .pan v h'):ar m f h= .pan v h':=by simp only[ar,e]
def aw(l:List Val):List AV:=l.flatMap fun v=>aa v.av
theorem aZ(l:List Val):(aw l).length=l.length*4:=by
 induction l with
 |nil=>rfl
 |cons v l ih=>simp only[aw,YK,X1]at ih |-;rw[ih];simp;omega
theorem kv(a b:List Val):aw (a++b)=aw a++aw b:=by simp[aw]
def iO{l:List Val}{k:Nat}(h:k<l.length):((aw l).drop (k*4)).take 4=aa (l[k]).av:=by
 induction l generalizing k with
 |nil=>simp at h
 | cons v l ih=>
  cases k with
  |zero=>simp[aw]
  |succ k=>
   have:=ih (k:=k) (by simpa using h)
   simp only[aw,YK]at this |-;have e:(k+1)*4=(aa v.av).length+k*4:=by simp;omega
   rw[e,Zy,List.getElem_cons_succ]
   grind [List.drop_of_length_le]
def kw{l:List Val}{k:Nat}(h:k<l.length)(v:Val):setCells (aw l) (k*4) (aa v.av)=aw (l.set k v):=by
 induction l generalizing k with
 |nil=>simp at h
 | cons w l ih=>
  cases k with
  |zero=>
   simp only[setCells,aw,YK,ZF,Yq,Ye,List.set_cons_zero];simp_all
  |succ k=>
   have:=ih (k:=k) (by simpa using h)
   simp only[setCells,aw,YK,List.set_cons_succ]at this |-;have e:(k+1)*4=(aa w.av).length+k*4:=by simp;omega
   have e2:(aa w.av).length+k*4+(aa v.av).length-(aa w.av).length=k*4+(aa v.av).length:=Z5
   simp_all
def cR(l:List Deed):List AV:=l.flatMap fun d=>[.int .i64 d.effect,.int .i64 d.arg,.int .i64 d.answer]
def xM(tag:Nat->Nat)(k:Nat)(h:Hp)(l:List Val)(v:AV):Prop:=(v=vals l\/l=[]/\v= .he)\/∃r,v= .hs r 0 l.length 4 true/\tag r=k/\h[r]? = some (aw l)
def g8(tag:Nat->Nat)(h:Hp):List Call->List AV->Prop
 |[],cs=>cs=[]
 |c:: l,cs=>∃av rest,cs= .str c.module:: .str c.func:: av:: rest/\xM tag 4 h c.args av/\g8 tag h l rest
def dD(tag:Nat->Nat)(h:Hp):Nat->List ba->List (List Val)->List AV->Prop
 |_,[],[],cs=>cs=[]
 |i,n:: ns,l:: st,cs=>∃av rest,cs= .str n:: av:: rest/\((l=[]/\(av= .sl []\/av= .he))\/∃r,av= .hs r 0 l.length 4 true/\tag r=6+i/\h[r]? = some (aw l))/\dD tag h (i+1) ns st rest
 |_,_,_,_=>False
def Ja(tag:Nat->Nat)(k sz n:Nat)(cells:List AV->Prop)(v:AV)(h:Hp):Prop:=(n=0/\v= .hn)\/∃q cs,v= .hs q 0 n sz true/\0<n/\tag q=k/\h[q]? = some cs/\cs.length=n*sz/\cells cs
structure SNm where
 names:List ba
 sv:AV
 cells:List AV
 told:Bool
structure RepT (row:Ms->AV->AV->AV->List AV) (nm:SNm) (tag:Nat->Nat) (dv cv sv:AV) (m:Ms) (h:Hp):Prop where
 r0:h[0]? = some (row m dv cv sv)
 t0:tag 0=0
 ds:Ja tag 2 3 m.deeds.length (fun cs=>cs=cR m.deeds) dv h
 cs:Ja tag 3 3 m.calls.length (fun cs=>g8 tag h m.calls cs) cv h
 st:Ja tag 5 2 m.state.length (fun cs=>cs=nm.cells/\dD tag h 0 nm.names m.state cs) sv h
 sve:sv=nm.sv
 wok:nm.told=true->m.world=[]
def WV(row:Ms->AV->AV->AV->List AV)(nm:SNm)(m:Ms)(h:Hp):Prop:=∃tag dv cv sv,RepT row nm tag dv cv sv m h
def Kp(tag tag':Nat->Nat)(ks:Nat->Prop)(h h':Hp):Prop:=∀r cs,h[r]? = some cs->¬ks (tag r)->h'[r]? = some cs/\tag' r=tag r
def xM.keep{tag tag':Nat->Nat}{ks:Nat->Prop}{h h':Hp}(K:Kp tag tag' ks h h'){k:Nat}(hk:¬ks k){l:List Val}{v:AV}(H:xM tag k h l v):xM tag' k h' l v:=by
 rcases H with H|⟨r,h1,h2,h3⟩
 ·exact .inl H
 ·have:=K r _ h3 Z7
  exact .inr ⟨r,h1,this.2.trans h2,this.1⟩
theorem g8.keep{tag tag':Nat->Nat}{ks:Nat->Prop}{h h':Hp}(K:Kp tag tag' ks h h')(hk:¬ks 4):{l:List Call} ->{cs:List AV} ->g8 tag h l cs->g8 tag' h' l cs
 |[],_,H=>H
 |_:: _,_,⟨av,rest,h1,h2,h3⟩=>⟨av,rest,h1,h2.keep K hk,h3.keep K hk⟩
theorem dD.keep{tag tag':Nat->Nat}{ks:Nat->Prop}{h h':Hp}(K:Kp tag tag' ks h h')(hk:∀i,¬ks (6+i)):{i:Nat} ->{nm:List ba} ->{st:List (List Val)} ->{cs:List AV} ->dD tag h i nm st cs->dD tag' h' i nm st cs
 |_,[],[],_,H=>H
 | i,_:: _,_:: _,_,⟨av,rest,h1,h2,h3⟩=>⟨av,rest,h1,by
   rcases h2 with h2|⟨r,g1,g2,g3⟩
   ·exact .inl h2
   ·have:=K r _ g3 Z7
    grind,dD.keep K hk h3⟩
 |_,[],_:: _,_,H=>H.elim
 |_,_:: _,[],_,H=>H.elim
def Ja.keep{tag tag':Nat->Nat}{ks:Nat->Prop}{h h':Hp}(K:Kp tag tag' ks h h'){k sz n:Nat}{c c':List AV->Prop}{v:AV}(hk:¬ks k)(hc:∀cs,c cs->c' cs)(H:Ja tag k sz n c v h):Ja tag' k sz n c' v h':=by
 rcases H with H|⟨q,cs,h1,h2,h3,h4,h5,h6⟩
 ·exact .inl H
 ·have:=K q _ h4 Z7
  exact .inr ⟨q,cs,h1,h2,this.2.trans h3,this.1,h5,hc _ h6⟩
def RepT.set0{row:Ms->AV->AV->AV->List AV}{nm:SNm}{tag:Nat->Nat}{dv cv sv:AV}{m m':Ms}{h:Hp}(R:RepT row nm tag dv cv sv m h)(h1:m'.deeds=m.deeds)(h2:m'.calls=m.calls)(h3:m'.state=m.state)(h4:m.world=[]->m'.world=[]):
  RepT row nm tag dv cv sv m' (h.set 0 (row m' dv cv sv)):=by
 have hlt:0<h.length:=(XQ.1 R.r0).1;have K:Kp tag tag (fun k=>k=0) h (h.set 0 (row m' dv cv sv)):=fun r cs hr hk=>by
  have:r≠0:=fun e=>hk (by rw[e];exact R.t0)
  grind
 refine⟨Z7,R.t0,?_,?_,?_,R.sve,fun t=>h4 (R.wok t)⟩
 ·rw[h1];exact R.ds.keep K Z6 fun _ h=>h
 ·rw[h2];exact R.cs.keep K Z6 fun _ h=>h.keep K Z6
 ·rw[h3];exact R.st.keep K Z6 fun _ h=>⟨h.1,h.2.keep K Z5⟩
def RepT.more{row:Ms->AV->AV->AV->List AV}{nm:SNm}{tag:Nat->Nat}{dv cv sv:AV}{m:Ms}{h:Hp}(R:RepT row nm tag dv cv sv m h)(x:List AV)(k:Nat):
  RepT row nm (fun i=>if i=h.length then k else tag i) dv cv sv m (h++[x])/\Kp tag (fun i=>if i=h.length then k else tag i) (fun _=>False) h (h++[x]):=by
 have K:Kp tag (fun i=>if i=h.length then k else tag i) (fun _=>False) h (h++[x]):=fun r cs hr _=>by
  grind
 exact⟨⟨(K 0 _ R.r0 id).1,(K 0 _ R.r0 id).2.trans R.t0,R.ds.keep K id fun _ h=>h,R.cs.keep K id fun _ h=>h.keep K id,R.st.keep K id fun _ h=>⟨h.1,h.2.keep K (fun _=>id)⟩,R.sve,R.wok⟩,K⟩
def Xr{tag:Nat->Nat}{h:Hp}{q:Nat}{k:Nat}(hq:tag q=k)(x:List AV):Kp tag tag (fun j=>j=k) h (h.set q x):=fun r cs hr hk=>by
 grind
def bT{T:TT}{t:Nat}{ti:TI}(ht:T t=some ti)(ha:ti.agg=false){h:Hp}{l k:Nat}{cs:List AV}{v:AV}(h0:h[l]? = some cs)(h1:cs[k]? = some v):bg T t (.hp l k) h= .ok v h:=by
 simp[bg,ht,h0,ha,h1]
def lW{T:TT}{t:Nat}{ti:TI}(ht:T t=some ti)(ha:ti.agg=true){h:Hp}{l k:Nat}{cs:List AV}(h0:h[l]? = some cs)(hle:k+ti.size<=cs.length):bg T t (.hp l k) h= .ok (.agg ((cs.drop k).take ti.size)) h:=by
 simp[bg,ht,h0,ha,hle]
def bU{T:TT}{t:Nat}{ti:TI}(ht:T t=some ti){h:Hp}{l k:Nat}{cs:List AV}{v:AV}(h0:h[l]? = some cs)(hv:bY ti.size v=true)(hle:k+ti.size<=cs.length)(hp:0<ti.size):
  bN T t (.hp l k) v h= .ok (.tup []) (h.set l (setCells cs k (aa v))):=by
 simp[bN,ht,h0,hv,hle,hp]
def Gx{T:TT}{t e:Nat}{ti ei:TI}(ht:T t=some ti)(hk:ti.kind= .slice e)(he:T e=some ei){x:AV}(hx:bY ei.size x=true)(hb:0<ei.bytes)(hs:0<ei.size)(hc:ei.bytes<=140737488355328)(h:Hp):
  appH T t false .hn (.sl [x]) h= .ok (.hs h.length 0 1 ei.size ei.agg) (h++[aa x]):=by
 simp_all[db,appH,fY,gU]
def Gy{T:TT}{t e:Nat}{ti ei:TI}(ht:T t=some ti)(hk:ti.kind= .slice e)(he:T e=some ei){x:AV}(hx:bY ei.size x=true)(hb:0<ei.bytes)(hs:0<ei.size){h:Hp}{q n:Nat}{cs:List AV}(h0:h[q]? = some cs)(hok:cs.all ay=true)(hl:cs.length=n*ei.size)(hn:0<n)(hc:(n+1)*ei.bytes<=140737488355328):appH T t false (.hs q 0 n ei.size ei.agg) (.sl [x]) h= .ok (.hs h.length 0 (n+1) ei.size ei.agg) ((h.set q [])++[cs++aa x]):=by
 have h1:db ei.size [x]=true:=by simp[db,hx]
 have h2:List.all cs ay=true:=hok;simp only[appH,ht,hk,he,fY,h1,hb,hs,gU,h0,h2,hl,hn,X8,YL,XL,Yf,List.length_singleton,ZP,XT,YK,ZW,X9]
 grind [Nat.mul_pos]
theorem g8.ok{tag:Nat->Nat}{h:Hp}:{l:List Call} ->{cs:List AV} ->g8 tag h l cs->cs.all ay=true/\cs.length=l.length*3
 |[],cs,H=>by cases H;grind
 | c:: l,_,⟨av,rest,h1,h2,h3⟩=>by
  subst h1;obtain⟨g1,g2⟩:=h3.ok;have:ay av=true:=by
   rcases h2 with(rfl|⟨_,rfl⟩)|⟨r,rfl,_⟩<;>rfl
  refine⟨?_,Z7⟩;rw[X7,X7,X7,this,g1];rfl
theorem g8.snoc{tag:Nat->Nat}{h:Hp}{c:Call}{av:AV}(ha:xM tag 4 h c.args av):{l:List Call} ->{cs:List AV} ->g8 tag h l cs->g8 tag h (l++[c]) (cs++[.str c.module,.str c.func,av])
 |[],cs,H=>by cases H;exact⟨av,[],rfl,ha,rfl⟩
 |d:: l,_,⟨av',rest,h1,h2,h3⟩=>⟨av',rest++[.str c.module,.str c.func,av],by rw[h1];rfl,h2,g8.snoc ha h3⟩
def yg(l:List Deed):(cR l).all ay=true:=by simp[cR,ay]
theorem dD.at{tag:Nat->Nat}{h:Hp}:{i:Nat} ->{nm:List ba} ->{st:List (List Val)} ->{cs:List AV} ->dD tag h i nm st cs->∀(j:Nat)(l:List Val),st[j]? = some l->
  ∃av,cs[j*2+1]? = some av/\((l=[]/\(av= .sl []\/av= .he))\/∃r,av= .hs r 0 l.length 4 true/\tag r=6+(i+j)/\h[r]? = some (aw l))
 |_,[],[],_,_,j,l,hj=>by simp at hj
 | i,_:: _,_:: _,_,⟨av,rest,h1,h2,h3⟩,j,l,hj=>by
  subst h1;cases j with
  |zero=>grind
  |succ j=>
   obtain⟨av',g1,g2⟩:=h3.at j l (by simpa using hj)
   grind
 |_,[],_:: _,_,H,_,_,_=>H.elim
 |_,_:: _,[],_,H,_,_,_=>H.elim
theorem dD.len{tag:Nat->Nat}{h:Hp}:{i:Nat} ->{nm:List ba} ->{st:List (List Val)} ->{cs:List AV} ->dD tag h i nm st cs->nm.length=st.length
 |_,[],[],_,_=>rfl
 |_,_:: _,_:: _,_,⟨_,_,_,_,h3⟩=>by simp[h3.len]
 |_,[],_:: _,_,H=>H.elim
 |_,_:: _,[],_,H=>H.elim
theorem dD.set{tag:Nat->Nat}{h:Hp}{r k:Nat}{v:Val}:{i:Nat} ->{nm:List ba} ->{st:List (List Val)} ->{cs:List AV} ->dD tag h i nm st cs->∀(j:Nat)(l:List Val),st[j]? = some l->tag r=6+(i+j)->h[r]? = some (aw l)->cs[j*2+1]? = some (.hs r 0 l.length 4 true)->
  k<l.length->dD tag (h.set r (aw (l.set k v))) i nm (setSt st j k v) cs
 |_,[],[],_,_,j,l,hj,_,_,_,_=>by simp at hj
 | i, n:: ns,l0:: st,_,⟨av,rest,h1,h2,h3⟩,j,l,hj,ht,hr,hc,hk=>by
  subst h1;have hlt:r<h.length:=(XQ.1 hr).1;cases j with
  | zero=>
   simp only[List.getElem?_cons_zero,XF]at hj;subst hj;simp only[ZF,XX,Yv,List.getElem?_cons_zero,XF]at hc;have e:setSt (l0:: st) 0 k v=l0.set k v:: st:=by simp[setSt]
   rw[e];refine⟨av,rest,rfl,.inr ⟨r,Z7,ht,Yg hlt⟩,?_⟩;have K:Kp tag tag (fun t=>t=6+i) h (h.set r (aw (l0.set k v))):=Xr (by rw[ht];rfl) _;have key:∀ {i':Nat} {nm':List ba} {st':List (List Val)} {cs':List AV},i<i'->dD tag h i' nm' st' cs'->dD tag (h.set r (aw (l0.set k v))) i' nm' st' cs':=by
    intro i' nm' st'
    induction st' generalizing i' nm' with
    |nil=>intro cs' hi H;cases nm' with
     |nil=>exact H
     |cons _ _=>exact H.elim
    | cons a st' ih=>intro cs' hi H;cases nm' with
     |nil=>exact H.elim
     |cons b nm'=>
      obtain⟨av2,rest2,k1,k2,k3⟩:=H;refine⟨av2,rest2,k1,?_,ih Z5 k3⟩
      grind
   grind
  | succ j=>
   have e:setSt (l0:: st) (j+1) k v=l0:: setSt st j k v:=by simp[setSt]
   rw[e];have hc':rest[j*2+1]? = some (.hs r 0 l.length 4 true):=by
    rw[show (j+1)*2+1=j*2+1+2 by omega]at hc;simpa using hc
   refine⟨av,rest,rfl,?_,h3.set j l (by simpa using hj) (by rw[ht];omega) hr hc' hk⟩
   grind
 |_,[],_:: _,_,H,_,_,_,_,_,_,_=>H.elim
 |_,_:: _,[],_,H,_,_,_,_,_,_,_=>H.elim
def Kp.trans{a b c:Nat->Nat}{ks js:Nat->Prop}{h h1 h2:Hp}(K:Kp a b ks h h1)(J:Kp b c js h1 h2):Kp a c (fun k=>ks k\/js k) h h2:=fun r cs hr hk=>by
 obtain⟨k1,k2⟩:=K r cs hr fun h=>hk (.inl h);obtain⟨j1,j2⟩:=J r cs k1 fun h=>hk (.inr (by rwa [k2]at h))
 grind
def Kp.new(tag:Nat->Nat)(h:Hp)(x:List AV)(k:Nat):Kp tag (fun i=>if i=h.length then k else tag i) (fun _=>False) h (h++[x]):=fun r cs hr _=>by
 grind
theorem Kp.mono{a b:Nat->Nat}{ks js:Nat->Prop}{h h1:Hp}(K:Kp a b ks h h1)(hj:∀k,ks k->js k):Kp a b js h h1:=fun r cs hr hk=>K r cs hr fun h=>hk (hj _ h)
def A3{T:TT}{t e:Nat}{ti ei:TI}(ht:T t=some ti)(hk:ti.kind= .slice e)(he:T e=some ei){sz:Nat}(h3:ei.size=sz)(hsz:0<sz)(hag:ei.agg=true)(hb:0<ei.bytes){tag:Nat->Nat}{k n:Nat}{P:List AV->Prop}{v x:AV}{h:Hp}(H:Ja tag k sz n P v h)(hP0:n=0->P [])(hok:∀cs,P cs->cs.all ay=true)(hx:bY sz x=true)(hc:(n+1)*ei.bytes<=140737488355328):
  ∃h1 v' tag',appH T t false v (.sl [x]) h= .ok v' h1/\Kp tag tag' (fun j=>j=k) h h1/\Ja tag' k sz (n+1) (fun cs'=>∃cs,P cs/\cs'=cs++aa x) v' h1/\ay v'=true:=by
 have hxl:(aa x).length=sz:=by
  unfold bY at hx;simp only[XJ,Yt]at hx;have h1:=hx.1;cases x<;>simp only[dC,XF,reduceCtorEq]at h1<;>simp only[aa,List.length_singleton]<;>exact h1
 have hx':bY ei.size x=true:=by rw[h3];exact hx
 rcases H with⟨hn,rfl⟩|⟨q,cs,rfl,hn,hq,hcs,hl,hp⟩
 ·subst hn;refine⟨_,_,_,Gx ht hk he hx' hb Z5 Z5 h,(Kp.new tag h (aa x) k).mono fun _ h=>h.elim,.inr ⟨h.length,aa x,by rw[h3,hag],Z5,Z8,Z8,by simpa using hxl,[],hP0 rfl,rfl⟩,rfl⟩
 ·have e1:=Gy ht hk he hx' hb Z5 hcs (hok cs hp) Z7 hn hc;rw[h3,hag]at e1;have K1:Kp tag tag (fun j=>j=k) h (h.set q []):=Xr hq [];have K2:=Kp.new tag (h.set q []) (cs++aa x) k;refine⟨_,_,_,e1,(K1.trans K2).mono fun j h=>h.elim id False.elim,.inr ⟨h.length,cs++aa x,rfl,Z5,Z8,?_,Z7,cs,hp,rfl⟩,rfl⟩
  grind
def RepT.pushDeed{row:Ms->AV->AV->AV->List AV}{nm:SNm}{tag tag':Nat->Nat}{dv dv' cv sv:AV}{m m':Ms}{h h1:Hp}{d:Deed}(R:RepT row nm tag dv cv sv m h)(K:Kp tag tag' (fun j=>j=2) h h1)(H:Ja tag' 2 3 (m.deeds.length+1) (fun cs'=>∃cs,cs=cR m.deeds/\cs'=cs++aa d.av) dv' h1)(hd:m'.deeds=m.deeds++[d])(hc:m'.calls=m.calls)(hs:m'.state=m.state)(h4:m.world=[]->m'.world=[]):RepT row nm tag' dv' cv sv m' (h1.set 0 (row m' dv' cv sv)):=by
 obtain⟨k1,k2⟩:=K 0 _ R.r0 (by rw[R.t0];decide);have hlt:0<h1.length:=(XQ.1 k1).1;have t0:=k2.trans R.t0;have K0:Kp tag' tag' (fun j=>j=0) h1 (h1.set 0 (row m' dv' cv sv)):=Xr t0 _;refine⟨Yg hlt,t0,?_,?_,?_,R.sve,fun t=>h4 (R.wok t)⟩
 ·rw[hd,X1];refine H.keep K0 Z6 ?_;rintro cs' ⟨cs,rfl,rfl⟩;show cR m.deeds++[AV.int .i64 d.effect,.int .i64 d.arg,.int .i64 d.answer]=_;simp[cR]
 ·rw[hc];exact (R.cs.keep K (c':=g8 tag' h1 m.calls) Z6 fun _ h=>h.keep K Z6).keep K0 Z6 fun _ h=>h.keep K0 Z6
 ·rw[hs];exact (R.st.keep K (c':=fun cs=>cs=nm.cells/\dD tag' h1 0 nm.names m.state cs) Z6 fun _ h=>⟨h.1,h.2.keep K Z5⟩).keep K0 Z6 fun _ h=>⟨h.1,h.2.keep K0 Z5⟩
def RepT.pushCall{row:Ms->AV->AV->AV->List AV}{nm:SNm}{tag tag':Nat->Nat}{dv cv cv' sv:AV}{m m':Ms}{h h1:Hp}{c:Call}{av:AV}(R:RepT row nm tag dv cv sv m h)(K:Kp tag tag' (fun j=>j=3) h h1)(ha:xM tag 4 h c.args av)(H:Ja tag' 3 3 (m.calls.length+1) (fun cs'=>∃cs,g8 tag h m.calls cs/\cs'=cs++[.str c.module,.str c.func,av]) cv' h1)(hd:m'.deeds=m.deeds)(hc:m'.calls=m.calls++[c])(hs:m'.state=m.state)(h4:m.world=[]->m'.world=[]):RepT row nm tag' dv cv' sv m' (h1.set 0 (row m' dv cv' sv)):=by
 obtain⟨k1,k2⟩:=K 0 _ R.r0 (by rw[R.t0];decide);have hlt:0<h1.length:=(XQ.1 k1).1;have t0:=k2.trans R.t0;have K0:Kp tag' tag' (fun j=>j=0) h1 (h1.set 0 (row m' dv cv' sv)):=Xr t0 _;refine⟨Yg hlt,t0,?_,?_,?_,R.sve,fun t=>h4 (R.wok t)⟩
 ·rw[hd];exact (R.ds.keep K (c':=fun cs=>cs=cR m.deeds) Z6 fun _ h=>h).keep K0 Z6 fun _ h=>h
 ·rw[hc,X1];refine H.keep K0 Z6 ?_;rintro cs' ⟨cs,hcs,rfl⟩;exact ((hcs.keep K Z6).snoc (ha.keep K Z6)).keep K0 Z6
 ·rw[hs];exact (R.st.keep K (c':=fun cs=>cs=nm.cells/\dD tag' h1 0 nm.names m.state cs) Z6 fun _ h=>⟨h.1,h.2.keep K Z5⟩).keep K0 Z6 fun _ h=>⟨h.1,h.2.keep K0 Z5⟩
def RepT.var{row:Ms->AV->AV->AV->List AV}{nm:SNm}{tag:Nat->Nat}{dv cv sv:AV}{m:Ms}{h:Hp}(R:RepT row nm tag dv cv sv m h)(hrow:∀st,row { m with state:=st } dv cv sv=row m dv cv sv){i:Nat}{l:List Val}(hl:m.state[i]? = some l)(hne:l≠[]):
  ∃q r,nm.sv= .hs q 0 m.state.length 2 true/\h[q]? = some nm.cells/\nm.cells[i*2+1]? = some (.hs r 0 l.length 4 true)/\nm.cells.length=m.state.length*2/\h[r]? = some (aw l)/\
   ∀(k:Nat)(v:Val),k<l.length->RepT row nm tag dv cv sv { m with state:=setSt m.state i k v } (h.set r (aw (l.set k v))):=by
 have hi:i<m.state.length:=(XQ.1 hl).1;rcases R.st with⟨h0,_⟩|⟨q,cs,h1,h2,h3,h4,h5,rfl,h6⟩
 ·omega
 ·obtain⟨av,g1,g2⟩:=h6.at i l hl;rcases g2 with⟨g2,_⟩|⟨r,rfl,g3,g4⟩
  ·grind
  ·rw[XX]at g3;refine⟨q,r,by rw[<- R.sve,h1],h4,g1,h5,g4,fun k v hk=>?_⟩;have K:Kp tag tag (fun j=>j=6+i) h (h.set r (aw (l.set k v))):=Xr g3 _;refine⟨?_,R.t0,?_,?_,?_,R.sve,R.wok⟩
   ·rw[hrow];exact (K 0 _ R.r0 (by rw[R.t0];omega)).1
   ·exact R.ds.keep K Z5 fun _ h=>h
   ·exact R.cs.keep K Z5 fun _ h=>h.keep K Z5
   ·right;have hq:r≠q:=fun e=>Z7
    refine⟨q,nm.cells,by rw[h1];simp[setSt],by simpa [setSt]using h2,h3,Z7,by simpa [setSt]using h5,rfl,?_⟩;exact h6.set i l hl Z7 g4 g1 hk
theorem dD.snoc{tag:Nat->Nat}{h:Hp}{n:ba}{l:List Val}{av:AV}:{i:Nat} ->{nm:List ba} ->{st:List (List Val)} ->{cs:List AV} ->dD tag h i nm st cs->
  ((l=[]/\(av= .sl []\/av= .he))\/∃r,av= .hs r 0 l.length 4 true/\tag r=6+(i+st.length)/\h[r]? = some (aw l))->dD tag h i (nm++[n]) (st++[l]) (cs++[.str n,av])
 |i,[],[],cs,H,ha=>by
  have H':cs=[]:=H;subst H';exact⟨av,[],rfl,ha,rfl⟩
 |i,_:: _,l0:: st,_,⟨av',rest,h1,h2,h3⟩,ha=>by
  refine⟨av',rest++[.str n,av],by rw[h1];rfl,h2,h3.snoc ?_⟩
  grind
 |_,[],_:: _,_,H,_=>H.elim
 |_,_:: _,[],_,H,_=>H.elim
theorem dD.ok{tag:Nat->Nat}{h:Hp}:{i:Nat} ->{nm:List ba} ->{st:List (List Val)} ->{cs:List AV} ->dD tag h i nm st cs->cs.all ay=true
 |_,[],[],cs,H=>by
  have H':cs=[]:=H
  grind
 | _,_:: _,_:: _,_,⟨av,rest,h1,h2,h3⟩=>by
  subst h1;have:ay av=true:=by
   rcases h2 with⟨_,rfl|rfl⟩|⟨r,rfl,_⟩<;>rfl
  rw[X7,X7,this,h3.ok];rfl
 |_,[],_:: _,_,H=>H.elim
 |_,_:: _,[],_,H=>H.elim
def qU(d:Nat)(h:Hp):Nat->Nat->Nat->Nat->Bool->AV:=fun l off len sz ag=>match h[l]? with
 | some cs=>bif decide (off+len*sz<=cs.length)&&decide (0<sz)&&(ag||(Nat.beq sz 1&&cs.all ay))then
   .sl ((List.range len).map fun i=>frz d h (bif ag then .agg ((cs.drop (off+i*sz)).take sz)else ab cs (off+i*sz)))else .any
 |none=>.any
theorem gn(d:Nat)(h:Hp)(a:AV):frz (d+1) h a=cl (qU d h) a:=rfl
def iz{α β:Type}{l:List α}{f:Nat->β}{g:α->β}(h:∀i x,l[i]? = some x->f i=g x):(List.range l.length).map f=l.map g:=by
 apply YY
 grind
def DZ{d:Nat}{h:Hp}{q n sz:Nat}{cs:List AV}(h0:h[q]? = some cs)(hl:cs.length=n*sz)(hz:0<sz):qU d h q 0 n sz true= .sl ((List.range n).map fun i=>frz d h (.agg ((cs.drop (i*sz)).take sz))):=by
 simp_all[qU]
def D1(d:Nat)(h:Hp)(v:Val):frz d h v.av=v.av:=by
 cases d with
 |zero=>exact yb _ v
 |succ d=>exact yb _ v
def Hk{d:Nat}{h:Hp}{r:Nat}{l:List Val}(h0:h[r]? = some (aw l)):qU d h r 0 l.length 4 true=vals l:=by
 rw[DZ h0 (aZ l) Z6];unfold vals;rw[dX];congr 1;refine iz fun i v hv=>?_;have hi:=(XQ.1 hv).1;rw[iO hi,(XQ.1 hv).2];have:AV.agg (aa v.av)=v.av:=Z8
 rw[this,D1]
theorem g8.at{tag:Nat->Nat}{h:Hp}:{l:List Call} ->{cs:List AV} ->g8 tag h l cs->∀(i:Nat)(c:Call),l[i]? = some c->∃av,(cs.drop (i*3)).take 3=[.str c.module,.str c.func,av]/\xM tag 4 h c.args av
 |[],_,_,i,c,hc=>by simp at hc
 | d:: l,_,⟨av,rest,h1,h2,h3⟩,i,c,hc=>by
  subst h1;cases i with
  |zero=>grind
  |succ i=>
   obtain⟨av',g1,g2⟩:=h3.at i c (by simpa using hc)
   grind
def yf{l:List Deed}{i:Nat}{d:Deed}(h:l[i]? = some d):((cR l).drop (i*3)).take 3=[.int .i64 d.effect,.int .i64 d.arg,.int .i64 d.answer]:=by
 induction l generalizing i with
 |nil=>simp at h
 | cons x l ih=>
  cases i with
  |zero=>simp at h;subst h;simp[cR]
  |succ i=>
   grind [cR]
theorem dD.at2{tag:Nat->Nat}{h:Hp}:{i:Nat} ->{nm:List ba} ->{st:List (List Val)} ->{cs:List AV} ->dD tag h i nm st cs->∀(j:Nat)(x:Vars),(List.zipWith Vars.mk nm st)[j]? = some x->
  ∃av,(cs.drop (j*2)).take 2=[.str x.module,av]/\((x.values=[]/\(av= .sl []\/av= .he))\/∃r,av= .hs r 0 x.values.length 4 true/\h[r]? = some (aw x.values))
 |_,[],[],_,_,j,x,hx=>by simp at hx
 | i,n:: ns,l:: st,_,⟨av,rest,h1,h2,h3⟩,j,x,hx=>by
  subst h1;cases j with
  |zero=>
   grind
  |succ j=>
   obtain⟨av',g1,g2⟩:=h3.at2 j x (by simpa using hx)
   grind
 |_,[],_:: _,_,H,_,_,_=>H.elim
 |_,_:: _,[],_,H,_,_,_=>H.elim
def kN{v:AV}(h:ay v=true):bY 1 v=true/\aa v=[v]/\dC v=some 1:=by
 cases v with
 |any=>cases h
 |agg _=>cases h
 |tup _=>cases h
 |nilb _=>cases h
 |byt _ _=>cases h
 |it _=>cases h
 |_=>exact⟨rfl,rfl,rfl⟩
end Go.Av.Ap
namespace Go.Av.Ap
open Go Go.Av
def gb(tag:Nat->Nat)(k sz n:Nat)(P:List AV->Prop)(v:AV)(h:Hp):Prop:=
 (n=0/\(v= .hn\/v= .he)/\P [])\/∃r cs rest,v= .hs r 0 n sz true/\tag r=k/\h[r]? = some (cs++rest)/\cs++rest≠[]/\cs.length=n*sz/\(cs++rest).all ay=true/\P cs
def gb.keep{tag tag':Nat->Nat}{ks:Nat->Prop}{h h':Hp}(K:Kp tag tag' ks h h'){k sz n:Nat}{c c':List AV->Prop}{v:AV}(hk:¬ks k)(hc:∀cs,c cs->c' cs)(H:gb tag k sz n c v h):gb tag' k sz n c' v h':=by
 rcases H with⟨h1,h2,h3⟩|⟨r,cs,rest,h1,h2,h3,h4,h5,h6,h7⟩
 ·exact .inl ⟨h1,h2,hc _ h3⟩
 ·have:=K r _ h3 Z7
  exact .inr ⟨r,cs,rest,h1,this.2.trans h2,this.1,h4,h5,h6,hc _ h7⟩
theorem gb.mono{tag:Nat->Nat}{h:Hp}{k sz n:Nat}{c c':List AV->Prop}{v:AV}(hc:∀cs,c cs->c' cs)(H:gb tag k sz n c v h):gb tag k sz n c' v h:=by
 rcases H with⟨h1,h2,h3⟩|⟨r,cs,rest,h1,h2,h3,h4,h5,h6,h7⟩
 ·exact .inl ⟨h1,h2,hc _ h3⟩
 ·exact .inr ⟨r,cs,rest,h1,h2,h3,h4,h5,h6,hc _ h7⟩
def gb.okC{tag:Nat->Nat}{h:Hp}{k sz n:Nat}{c:List AV->Prop}{v:AV}(H:gb tag k sz n c v h):ay v=true:=by
 rcases H with⟨_,rfl|rfl,_⟩|⟨r,cs,rest,rfl,_⟩<;>rfl
def gb.len{tag:Nat->Nat}{h:Hp}{k sz n:Nat}{c:List AV->Prop}{v:AV}{T:TT}{t e:Nat}{ti ei:TI}(ht:T t=some ti)(hk:ti.kind= .slice e)(he:T e=some ei)(h0:∀n',bu T t (.hs n' 0 n sz true)=some (.int .i64 n))(h1:bu T t .hn=some (.int .i64 0))(h2:bu T t .he=some (.int .i64 0))(H:gb tag k sz n c v h):bu T t v=some (.int .i64 n):=by
 rcases H with⟨rfl,rfl|rfl,_⟩|⟨r,cs,rest,rfl,_⟩
 all_goals grind
def oL(v:AV)(h:Hp):Hp:=match v with
 |.hs r _ _ _ _=>h.set r []
 |_=>h
def gb.push{T:TT}{t e:Nat}{ti ei:TI}(ht:T t=some ti)(hk:ti.kind= .slice e)(he:T e=some ei){sz:Nat}(h3:ei.size=sz)(hsz:0<sz)(hag:ei.agg=true)(hb:0<ei.bytes){tag:Nat->Nat}{k n:Nat}{P:List AV->Prop}{v x:AV}{h:Hp}(H:gb tag k sz n P v h)(hx:bY sz x=true)(hc:(n+1)*ei.bytes<=140737488355328):
  ∃cs tag',P cs/\cs.length=n*sz/\appH T t false v (.sl [x]) h= .ok (.hs h.length 0 (n+1) sz true) (((oL v h)++[cs++aa x]))/\Kp tag tag' (fun j=>j=k) h ((oL v h)++[cs++aa x])/\
   tag' h.length=k/\gb tag' k sz (n+1) (fun cs'=>cs'=cs++aa x) (.hs h.length 0 (n+1) sz true) ((oL v h)++[cs++aa x]):=by
 have hx':bY ei.size x=true:=by rw[h3];exact hx
 have hsx:db ei.size [x]=true:=by simp[db,hx']
 unfold bY at hx;simp only[XJ,Yt]at hx;have hxl:(aa x).length=sz:=by
  have h1:=hx.1;cases x<;>simp only[dC,XF,reduceCtorEq]at h1<;>simp only[aa,List.length_singleton]<;>exact h1
 rcases H with⟨rfl,hv,hP⟩|⟨r,cs,rest,rfl,hr,hcs,hne,hl,hok,hP⟩
 ·have hc1:ei.bytes<=140737488355328:=Z5
  have key:appH T t false v (.sl [x]) h= .ok (.hs h.length 0 1 ei.size ei.agg) (h++[aa x]):=by
   rcases hv with rfl|rfl<;>simp[appH,ht,hk,he,fY,hsx,hb,h3,hsz,gU,hc1,hxl]
   all_goals grind
  have e:oL v h=h:=by rcases hv with rfl|rfl<;>rfl
  rw[e];refine⟨[],_,hP,Z8,Z7,(Kp.new tag h _ k).mono fun _ h=>h.elim,Z8,.inr ⟨h.length,[]++aa x,[],rfl,Z8,Z8,?_,by simpa using hxl,Z7,rfl⟩⟩
  grind
 ·have hlt:r<h.length:=(XQ.1 hcs).1;have hpos:0<(cs++rest).length:=YE.2 hne;have key:appH T t false (.hs r 0 n sz true) (.sl [x]) h= .ok (.hs h.length 0 (n+1) sz true) ((h.set r [])++[cs++aa x]):=by
   have hsx':db sz [x]=true:=by rw[<- h3];exact hsx
   simp only[appH,ht,hk,he,fY,hsx',hb,h3,hsz,gU,hcs,X8,YL,XL,Yf,hag,hok,List.length_singleton,ZP,XT,YK,ZW,X9];rw[Yd hc,Yd (show n*sz<=(cs++rest).length by grind),Yd hpos];rw[<- hl,List.take_left];simp
  refine⟨cs,fun i=>if i=(h.set r []).length then k else tag i,hP,hl,key,?_,Z8,?_⟩
  ·show Kp _ _ _ h (h.set r []++[cs++aa x]);exact ((Xr hr []).trans (Kp.new tag (h.set r []) (cs++aa x) k)).mono fun j h=>h.elim id False.elim
  ·refine .inr ⟨h.length,cs++aa x,[],rfl,Z8,?_,?_,Z7,?_,rfl⟩
   ·show (h.set r []++[cs++aa x])[h.length]? = _
    grind
   all_goals grind
def dm(tag:Nat->Nat)(k:Nat)(h:Hp)(l:List Val)(v:AV):Prop:=gb tag k 4 l.length (fun cs=>cs=aw l) v h
def dm.keep{tag tag':Nat->Nat}{ks:Nat->Prop}{h h':Hp}(K:Kp tag tag' ks h h'){k:Nat}(hk:¬ks k){l:List Val}{v:AV}(H:dm tag k h l v):dm tag' k h' l v:=gb.keep K hk (fun _ h=>h) H
theorem iA(l:List Val):(aw l).all ay=true:=by
 have:=xo l
 induction l with
 |nil=>rfl
 |cons v l ih=>
  simp only[d5,db,X7,XJ,bY]at this;simp_all[aw]
def zf(tag:Nat->Nat)(h:Hp)(l:List Val)(v:AV):Prop:=v=vals l\/dm tag 4 h l v
def eX(tag:Nat->Nat)(h:Hp):List Call->List AV->Prop
 |[],cs=>cs=[]
 |c:: l,cs=>∃av rest,cs= .str c.module:: .str c.func:: av:: rest/\zf tag h c.args av/\eX tag h l rest
def ep(tag:Nat->Nat)(h:Hp):Nat->List Frm->List AV->Prop
 |_,[],cs=>cs=[]
 |i,f:: l,cs=>∃lv sv rest,cs= .str f.mod:: .str f.fn:: .int .i64 f.pc:: lv:: sv:: rest/\dm tag (11+3*i) h f.locals lv/\dm tag (12+3*i) h f.stack sv/\ep tag h (i+1) l rest
def oA(tag:Nat->Nat)(h:Hp):Nat->List Vars->List AV->Prop
 |_,[],cs=>cs=[]
 |i,w:: l,cs=>∃av rest,cs= .str w.module:: av:: rest/\dm tag (10+3*i) h w.values av/\oA tag h (i+1) l rest
def zf.keep{tag tag':Nat->Nat}{ks:Nat->Prop}{h h':Hp}(K:Kp tag tag' ks h h')(hk:¬ks 4){l:List Val}{v:AV}(H:zf tag h l v):zf tag' h' l v:=H.imp id (dm.keep K hk)
theorem eX.keep{tag tag':Nat->Nat}{ks:Nat->Prop}{h h':Hp}(K:Kp tag tag' ks h h')(hk:¬ks 4):{l:List Call} ->{cs:List AV} ->eX tag h l cs->eX tag' h' l cs
 |[],_,H=>H
 |_:: _,_,⟨av,rest,h1,h2,h3⟩=>⟨av,rest,h1,h2.keep K hk,h3.keep K hk⟩
theorem ep.keep{tag tag':Nat->Nat}{ks:Nat->Prop}{h h':Hp}(K:Kp tag tag' ks h h'):{i:Nat} ->{l:List Frm} ->{cs:List AV} ->(∀j,i<=j->j<i+l.length->¬ks (11+3*j)/\¬ks (12+3*j))->ep tag h i l cs->ep tag' h' i l cs
 |_,[],_,_,H=>H
 |i,f:: l,_,hk,⟨lv,sv,rest,h1,h2,h3,h4⟩=>
  ⟨lv,sv,rest,h1,h2.keep K (hk i Z5 Z8).1,h3.keep K (hk i Z5 Z8).2,h4.keep K fun j h1 h2=>hk j Z5 WD⟩
theorem oA.keep{tag tag':Nat->Nat}{ks:Nat->Prop}{h h':Hp}(K:Kp tag tag' ks h h')(hk:∀j,¬ks (10+3*j)):{i:Nat} ->{l:List Vars} ->{cs:List AV} ->oA tag h i l cs->oA tag' h' i l cs
 |_,[],_,H=>H
 |i,w:: l,_,⟨av,rest,h1,h2,h3⟩=>⟨av,rest,h1,h2.keep K (hk i),h3.keep K hk⟩
theorem ep.len{tag:Nat->Nat}{h:Hp}:{i:Nat} ->{l:List Frm} ->{cs:List AV} ->ep tag h i l cs->cs.length=l.length*5
 |_,[],_,H=>by cases H;rfl
 |i,f:: l,_,⟨lv,sv,rest,h1,h2,h3,h4⟩=>by rw[h1];simp[h4.len];omega
theorem ep.snoc{tag:Nat->Nat}{h:Hp}{f:Frm}{lv sv:AV}:{i:Nat} ->{l:List Frm} ->{cs:List AV} ->ep tag h i l cs->dm tag (11+3*(i+l.length)) h f.locals lv->dm tag (12+3*(i+l.length)) h f.stack sv->ep tag h i (l++[f]) (cs++[.str f.mod,.str f.fn,.int .i64 f.pc,lv,sv])
 |i,[],_,H,h1,h2=>by cases H;exact⟨lv,sv,[],rfl,h1,h2,rfl⟩
 |i,g:: l,_,⟨lv',sv',rest,k1,k2,k3,k4⟩,h1,h2=>
  ⟨lv',sv',rest++[.str f.mod,.str f.fn,.int .i64 f.pc,lv,sv],by rw[k1];rfl,k2,k3,k4.snoc Z7 Z7⟩
theorem ep.last{tag:Nat->Nat}{h:Hp}{f:Frm}:{i:Nat} ->{l:List Frm} ->{cs:List AV} ->ep tag h i (l++[f]) cs->∃c0 lv sv,cs=c0++[.str f.mod,.str f.fn,.int .i64 f.pc,lv,sv]/\ep tag h i l c0/\dm tag (11+3*(i+l.length)) h f.locals lv/\dm tag (12+3*(i+l.length)) h f.stack sv
 |i,[],cs,⟨lv,sv,rest,k1,k2,k3,k4⟩=>by cases k4;exact⟨[],lv,sv,k1,rfl,k2,k3⟩
 |i,g:: l,cs,⟨lv',sv',rest,k1,k2,k3,k4⟩=>by
  obtain⟨c0,lv,sv,j1,j2,j3,j4⟩:=k4.last;refine⟨_:: _:: _:: lv':: sv':: c0,lv,sv,Z7,⟨lv',sv',c0,rfl,k2,k3,j2⟩,?_,?_⟩
  all_goals grind
theorem ep.ok{tag:Nat->Nat}{h:Hp}:{i:Nat} ->{l:List Frm} ->{cs:List AV} ->ep tag h i l cs->cs.all ay=true
 |_,[],_,H=>by cases H;rfl
 |i,f:: l,_,⟨lv,sv,rest,h1,h2,h3,h4⟩=>by
  rw[h1,X7,X7,X7,X7,X7,h2.okC,h3.okC,h4.ok];rfl
theorem eX.ok{tag:Nat->Nat}{h:Hp}:{l:List Call} ->{cs:List AV} ->eX tag h l cs->cs.all ay=true/\cs.length=l.length*3
 |[],cs,H=>by cases H;grind
 | c:: l,_,⟨av,rest,h1,h2,h3⟩=>by
  subst h1;obtain⟨g1,g2⟩:=h3.ok;have:ay av=true:=by
   rcases h2 with rfl|h2
   ·rfl
   ·exact h2.okC
  refine⟨?_,Z7⟩;rw[X7,X7,X7,this,g1];rfl
theorem eX.snoc{tag:Nat->Nat}{h:Hp}{c:Call}{av:AV}(ha:zf tag h c.args av):{l:List Call} ->{cs:List AV} ->eX tag h l cs->eX tag h (l++[c]) (cs++[.str c.module,.str c.func,av])
 |[],cs,H=>by cases H;exact⟨av,[],rfl,ha,rfl⟩
 |d:: l,_,⟨av',rest,h1,h2,h3⟩=>⟨av',rest++[.str c.module,.str c.func,av],by rw[h1];rfl,h2,eX.snoc ha h3⟩
def iR(f:Frm)(lv sv:AV):List AV:=[.str f.mod,.str f.fn,.int .i64 f.pc,lv,sv]
structure FrAt (tag:Nat->Nat) (h:Hp) (q:Nat) (A B:List AV) (i:Nat) (f:Frm) (lv sv:AV):Prop where
 row:h[q]? = some (A++iR f lv sv++B)
 tq:tag q=7
 lo:dm tag (11+3*i) h f.locals lv
 st:dm tag (12+3*i) h f.stack sv
theorem FrAt.get{tag:Nat->Nat}{h:Hp}{q:Nat}{A B:List AV}{i:Nat}{f:Frm}{lv sv:AV}(H:FrAt tag h q A B i f lv sv){T:TT}{t:Nat}{ti:TI}(ht:T t=some ti)(ha:ti.agg=false){k:Nat}{v:AV}(hv:(iR f lv sv)[k]? = some v):
  bg T t (.hp q (A.length+k)) h= .ok v h:=by
 refine bT ht ha H.row ?_
 grind
def set_mid{A C D B:List AV}{k:Nat}{v:AV}(h:k<C.length)(hD:C.set k v=D)(h1:(aa v).length=1:=by rfl)(h2:aa v=[v]:=by rfl):setCells (A++C++B) (A.length+k) (aa v)=A++D++B:=by
 rw[<- hD,h2];have:setCells (A++C++B) (A.length+k) [v]=(A++C++B).set (A.length+k) v:=by
  rw[List.set_eq_take_append_cons_drop,XK WD];simp[setCells]
 grind
theorem nv{T:TT}{t e:Nat}{ti ei:TI}(ht:T t=some ti)(hk:ti.kind= .slice e)(he:T e=some ei)(h4:ei.size=4)(hag:ei.agg=true)(hb:0<ei.bytes)(call:FuncId->List AV->M AV)(l:List Val)(hc:l.length*ei.bytes<=140737488355328)(h:Hp):
  cz T t call [vals l] h=if l=[]then .ok .he h else .ok (.hs h.length 0 l.length 4 true) (h++[aw l]):=by
 have h1:db 4 (d5 l)=true:=xo l;have hlen:(d5 l).length=l.length:=by simp[dX]
 have hfl:(d5 l).flatMap aa=aw l:=by simp[dX,aw,List.flatMap_map]
 show appH T t false .he (.sl (d5 l)) h=_;cases l with
 |nil=>simp_all[appH,fY,gU,db]
 |cons v l=>
  have hne:(d5 (v:: l)).isEmpty=false:=rfl;unfold appH;simp only[ht,hk,he,fY,h4,h1,hb,gU,X8,YL,YH,XL,hne,XT,hlen,hfl,hag]
  grind
theorem rO(rest:List AV):∀(n:Nat)(l:List Val),n<=l.length->kd true 4 n (aw l++rest)=d5 (l.take n)
 |0,_,_=>rfl
 |n+1,[],h=>by simp at h
 |n+1,v:: l,h=>by
  have e:aw (v:: l)++rest=aa v.av++(aw l++rest):=by simp[aw]
  have hl:(aa v.av).length=4:=Z8
  rw[e];simp only[kd,XL];rw[Zg Z5,YO Z5,YZ Z5,List.drop_of_length_le Z5,Ye,rO rest n l (by simpa using h)];simp[dX]
def we(l:List Val)(k:Nat):(aw l).drop (k*4)=aw (l.drop k):=by
 by_cases h:k<=l.length
 ·have e:aw l=aw (l.take k)++aw (l.drop k):=by rw[<- kv,List.take_append_drop]
  grind [aZ]
 ·rw[List.drop_of_length_le (by rw[aZ];omega),List.drop_of_length_le (l:=l) Z5];rfl
theorem oZ{T:TT}{t e:Nat}{ti ei:TI}(ht:T t=some ti)(hk:ti.kind= .slice e)(he:T e=some ei)(h4:ei.size=4)(hag:ei.agg=true)(hb:0<ei.bytes)(call:FuncId->List AV->M AV){h:Hp}{r:Nat}{l:List Val}{rest:List AV}(h0:h[r]? = some (aw l++rest))(hok:(aw l++rest).all ay=true){k n:Nat}(hkn:k+n<=l.length)(hc:n*ei.bytes<=140737488355328):
  cz T t call [.hs r (k*4) n 4 true] h=if n=0 then .ok .he h else .ok (.hs h.length 0 n 4 true) (h++[aw ((l.drop k).take n)]):=by
 cases n with
 |zero=>
  show appH T t false .he (.sl []) h=_
  grind [appH,fY,gU,db]
 | succ n=>
  have hl:((l.drop k).take (n+1)).length=n+1:=by simp;omega
  have hs:oH h (.hs r (k*4) (n+1) 4 true)=some (d5 ((l.drop k).take (n+1))):=by
   have hd:(aw l++rest).drop (k*4)=aw (l.drop k)++rest:=by
    rw[YZ (by rw[aZ];omega),we]
   simp only[oH,h0,hd];have o1:((aw (l.drop k)++rest).take ((n+1)*4)).all ay=true:=by
    rw[XY]at hok |-;intro x hx;refine hok x ?_;have:x∈(aw l++rest).drop (k*4):=by rw[hd];exact List.mem_of_mem_take hx
    exact Za this
   have o2:k*4+(n+1)*4<=(aw l++rest).length:=by rw[X1,aZ];omega
   rw[o1,Yd o2];simp only[Bool.true_or,YL,XL];rw[rO rest (n+1) (l.drop k) WD]
  have e1:cz T t call [.hs r (k*4) (n+1) 4 true] h=appH T t false .he (.sl (d5 ((l.drop k).take (n+1)))) h:=by
   show (match oH h (.hs r (k*4) (n+1) 4 true)with|some es=>appH T t false .he (.sl es) h|none=>.fail)=_;rw[hs]
  have e2:=nv ht hk he h4 hag hb call ((l.drop k).take (n+1)) Z7 h;rw[e1];have e3:cz T t call [vals ((l.drop k).take (n+1))] h=appH T t false .he (.sl (d5 ((l.drop k).take (n+1)))) h:=rfl
  grind
def nI{T:TT}{t:Nat}{ti:TI}(ht:T t=some ti)(ha:ti.agg=true)(h4:ti.size=4){h:Hp}{r:Nat}{l:List Val}{rest:List AV}(h0:h[r]? = some (aw l++rest)){j:Nat}(hj:j<l.length):bg T t (.hp r (j*4)) h= .ok (l[j]).av h:=by
 rw[lW ht ha h0 (by grind [aZ]),h4];have:((aw l++rest).drop (j*4)).take 4=aa (l[j]).av:=by
  rw[YZ (by rw[aZ];omega),Zg (by grind [aZ])];exact iO hj
 simp_all
def wg(l:List Val)(k:Nat):∃rest,aw l=aw (l.take k)++rest/\rest.all ay=true:=by
 grind [kv,List.take_append_drop,iA]
structure MLay where
 rm:Nat
 ri:Nat
 rf:Nat
 ci:List AV
 cf:List AV
def fF(L:MLay)(p:Proc)(sv fv dv cv:AV)(vc:List AV):List AV:=[mods p.mods,sv,fv,ints p.world,.int .i64 p.out.err]++vc++[dv,cv,.hn,.bool p.ended,.mp L.ri,.mp L.rf]
def VC(v:Val)(vc:List AV):Prop:=vc=aa v.av\/v=default/\vc=[.int .i64 0,.int .i64 0,.hn,.hn]
def VC.len{v:Val}{vc:List AV}(H:VC v vc):vc.length=4:=by rcases H with rfl|⟨_,rfl⟩<;>simp
structure StP where
 ok:(Nat->Nat)->Hp->List Vars->AV->Prop
 keep:∀ {tag tag':Nat->Nat} {ks:Nat->Prop} {h h':Hp} {l:List Vars} {v:AV},Kp tag tag' ks h h'->¬ks 5->(∀j,¬ks (10+3*j))->ok tag h l v->ok tag' h' l v
abbrev Wk:StP:=⟨fun tag h l v=>gb tag 5 2 l.length (fun cs=>oA tag h 0 l cs) v h,fun K h5 hj H=>gb.keep K h5 (fun _ h=>h.keep K hj) H⟩
abbrev Xl:StP:=⟨fun _ _ l v=>v=bn l,fun _ _ _ H=>H⟩
structure MRG (Q:StP) (L:MLay) (tag:Nat->Nat) (sv fv dv cv:AV) (vc:List AV) (p:Proc) (h:Hp):Prop where
 row:h[L.rm]? = some (fF L p sv fv dv cv vc)
 tm:tag L.rm=0
 ri:h[L.ri]? = some L.ci
 ti:tag L.ri=1
 rf:h[L.rf]? = some L.cf
 tf:tag L.rf=1
 st:Q.ok tag h p.state sv
 fr:gb tag 7 5 p.frames.length (fun cs=>ep tag h 0 p.frames cs) fv h
 ds:gb tag 2 3 p.out.deeds.length (fun cs=>cs=cR p.out.deeds) dv h
 cs:gb tag 3 3 p.out.calls.length (fun cs=>eX tag h p.out.calls cs) cv h
 vo:VC p.out.value vc
 so:p.out.state=[]
abbrev MR:=MRG Wk
def MRG.sth{L:MLay}{tag:Nat->Nat}{sv fv dv cv:AV}{vc:List AV}{p:Proc}{h:Hp}(H:MR L tag sv fv dv cv vc p h):gb tag 5 2 p.state.length (fun cs=>oA tag h 0 p.state cs) sv h:=H.st
def MRG.focus{L:MLay}{tag:Nat->Nat}{sv fv dv cv:AV}{vc:List AV}{p:Proc}{h:Hp}(H:MR L tag sv fv dv cv vc p h){fs:List Frm}{f:Frm}(hf:p.frames=fs++[f]):
  ∃q A B lv stv,fv= .hs q 0 (fs.length+1) 5 true/\A.length=fs.length*5/\ep tag h 0 fs A/\FrAt tag h q A B fs.length f lv stv/\B.all ay=true:=by
 rcases H.fr with⟨h0,_⟩|⟨q,cs,rest,rfl,hq,hr,_,hl,hok,HF⟩
 ·grind
 ·rw[hf]at HF;obtain⟨A,lv,stv,rfl,k1,k2,k3⟩:=HF.last;rw[XX]at k2 k3;refine⟨q,A,rest,lv,stv,by rw[hf];simp,k1.len,k1,⟨hr,hq,k2,k3⟩,?_⟩
  grind
def MRG.unfocus{L:MLay}{tag tag':Nat->Nat}{sv dv cv:AV}{vc:List AV}{p:Proc}{h h':Hp}{q:Nat}{fs:List Frm}{f':Frm}{A B:List AV}{lv' sv':AV}(H:MR L tag sv (.hs q 0 (fs.length+1) 5 true) dv cv vc p h)(hA:ep tag h 0 fs A)(K:Kp tag tag' (fun k=>k=7\/k=11+3*fs.length\/k=12+3*fs.length) h h')(F:FrAt tag' h' q A B fs.length f' lv' sv')(hB:B.all ay=true):
  MR L tag' sv (.hs q 0 (fs.length+1) 5 true) dv cv vc { p with frames:=fs++[f'] } h':=by
 have km:=K _ _ H.row (by rw[H.tm];omega);have ki:=K _ _ H.ri (by rw[H.ti];omega);have kf:=K _ _ H.rf (by rw[H.tf];omega);have hA':ep tag' h' 0 fs A:=hA.keep K fun j h1 h2=>Z7
 refine⟨km.1,km.2.trans H.tm,ki.1,ki.2.trans H.ti,kf.1,kf.2.trans H.tf,H.sth.keep K Z5 fun _ h=>h.keep K Z5,?_,H.ds.keep K Z5 fun _ h=>h,H.cs.keep K Z5 fun _ h=>h.keep K Z5,H.vo,H.so⟩;refine .inr ⟨q,A++iR f' lv' sv',B,Z8,F.tq,F.row,by simp[iR],by simp[iR,hA.len];omega,?_,?_⟩
 ·rw[Ze,Ze,hA'.ok,hB];simp only[iR,X7,ZH,F.lo.okC,F.st.okC];rfl
 ·exact hA'.snoc (by rw[XX];exact F.lo) (by rw[XX];exact F.st)
theorem MRG.setRow{L:MLay}{tag:Nat->Nat}{sv fv dv cv:AV}{vc:List AV}{p p':Proc}{h:Hp}{vc':List AV}(H:MR L tag sv fv dv cv vc p h)(h1:p'.state=p.state)(h2:p'.frames=p.frames)(h3:p'.out.deeds=p.out.deeds)(h4:p'.out.calls=p.out.calls)(h5:p'.out.state=[])(h6:VC p'.out.value vc'):
  MR L tag sv fv dv cv vc' p' (h.set L.rm (fF L p' sv fv dv cv vc')):=by
 have hlt:L.rm<h.length:=(XQ.1 H.row).1;have K:Kp tag tag (fun k=>k=0) h (h.set L.rm (fF L p' sv fv dv cv vc')):=Xr H.tm _;have ki:=K _ _ H.ri (by rw[H.ti];omega);have kf:=K _ _ H.rf (by rw[H.tf];omega);refine⟨Yg hlt,H.tm,ki.1,H.ti,kf.1,H.tf,?_,?_,?_,?_,h6,h5⟩
 ·rw[h1];exact H.sth.keep K Z5 fun _ h=>h.keep K Z5
 ·rw[h2];exact H.fr.keep K Z5 fun _ h=>h.keep K fun j _ _=>Z7
 ·rw[h3];exact H.ds.keep K Z5 fun _ h=>h
 ·rw[h4];exact H.cs.keep K Z5 fun _ h=>h.keep K Z5
theorem oA.at{tag:Nat->Nat}{h:Hp}:{i:Nat} ->{l:List Vars} ->{cs:List AV} ->oA tag h i l cs->∀(j:Nat)(w:Vars),l[j]? = some w->∃av,cs[j*2+1]? = some av/\dm tag (10+3*(i+j)) h w.values av
 |_,[],_,_,j,w,hj=>by simp at hj
 | i,_:: _,_,⟨av,rest,h1,h2,h3⟩,j,w,hj=>by
  subst h1;cases j with
  |zero=>grind
  |succ j=>
   obtain⟨av',g1,g2⟩:=h3.at j w (by simpa using hj)
   grind
theorem oA.len{tag:Nat->Nat}{h:Hp}:{i:Nat} ->{l:List Vars} ->{cs:List AV} ->oA tag h i l cs->cs.length=l.length*2
 |_,[],_,H=>by cases H;rfl
 |i,w:: l,_,⟨av,rest,h1,h2,h3⟩=>by rw[h1];simp[h3.len];omega
theorem oA.ok{tag:Nat->Nat}{h:Hp}:{i:Nat} ->{l:List Vars} ->{cs:List AV} ->oA tag h i l cs->cs.all ay=true
 |_,[],_,H=>by cases H;rfl
 |i,w:: l,_,⟨av,rest,h1,h2,h3⟩=>by rw[h1,X7,X7,h2.okC,h3.ok];rfl
theorem oA.keepTo{tag tag':Nat->Nat}{ks:Nat->Prop}{h h':Hp}(K:Kp tag tag' ks h h'):{i:Nat} ->{l:List Vars} ->{cs:List AV} ->(∀j,i<=j->¬ks (10+3*j))->oA tag h i l cs->oA tag' h' i l cs
 |_,[],_,_,H=>H
 |i,w:: l,_,hk,⟨av,rest,h1,h2,h3⟩=>⟨av,rest,h1,h2.keep K (hk i (XM i)),h3.keepTo K fun j hj=>hk j Z5⟩
def oA.set{tag:Nat->Nat}{h h':Hp}{ws:List Val}:{i:Nat} ->{l:List Vars} ->{cs:List AV} ->oA tag h i l cs->∀(j:Nat)(w:Vars)(av:AV),l[j]? = some w->cs[j*2+1]? = some av->Kp tag tag (fun k=>k=10+3*(i+j)) h h'->dm tag (10+3*(i+j)) h' ws av->
  oA tag h' i (l.modify j fun w=>{ w with values:=ws }) cs
 |_,[],_,_,j,w,_,hj,_,_,_=>by simp at hj
 | i,u:: l,_,⟨av0,rest,h1,h2,h3⟩,j,w,av,hj,hc,K,hv=>by
  subst h1;cases j with
  |zero=>
   simp at hj hc;subst hj;subst hc;exact⟨av0,rest,rfl,hv,h3.keepTo K fun j hj=>Z5⟩
  | succ j=>
   have hc':rest[j*2+1]? = some av:=by
    rw[show (j+1)*2+1=j*2+1+2 by omega]at hc;simpa using hc
   rw[show i+(j+1)=i+1+j by omega]at K hv;exact⟨av0,rest,rfl,h2.keep K Z5,h3.set j w av (by simpa using hj) hc' K hv⟩
def Fnc.av(x:Fnc):AV:=.agg ([.int .i64 x.at_,.bool x.pub]++aa x.cod.av++[ints x.hts])
def kK:Option Fnc->AV
 |some x=>x.av
 |none=>.agg [.int .i64 0,.bool false,.str [],.int .i64 0,.int .i64 0,.sl [],.sl []]
structure MapOk (T:TT) (tI tF:Nat) (L:MLay) (p:List Mod):Prop where
 idx:∀h:Hp,h[L.ri]? = some L.ci->∀s,0<=dI p s->d8 T tI (.mp L.ri) (.str s) false h= .ok (.int .i64 (dI p s)) h
 fn:∀h:Hp,h[L.rf]? = some L.cf->∀s t,d8 T tF (.mp L.rf) (.agg [.str s,.str t]) true h= .ok (.tup [kK (fj p s t),.bool (fj p s t).isSome]) h
 fn1:∀h:Hp,h[L.rf]? = some L.cf->∀s t x,fj p s t=some x->d8 T tF (.mp L.rf) (.agg [.str s,.str t]) false h= .ok x.av h
theorem MRG.get{Q:StP}{L:MLay}{tag:Nat->Nat}{sv fv dv cv:AV}{vc:List AV}{p:Proc}{h:Hp}(H:MRG Q L tag sv fv dv cv vc p h){T:TT}{t:Nat}{ti:TI}(ht:T t=some ti)(ha:ti.agg=false){k:Nat}{v:AV}(hv:(fF L p sv fv dv cv vc)[k]? = some v):
  bg T t (.hp L.rm k) h= .ok v h:=bT ht ha H.row hv
def oh{L:MLay}{p:Proc}{sv fv dv cv:AV}{vc:List AV}(h:vc.length=4)(j:Nat):(fF L p sv fv dv cv vc)[9+j]? = [dv,cv,.hn,.bool p.ended,.mp L.ri,.mp L.rf][j]?:=by
 match vc,h with
 |[a,b,c,d],_=>simp_all[fF,Nat.add_comm]
def FrAt.keep{tag tag':Nat->Nat}{ks:Nat->Prop}{h h':Hp}(K:Kp tag tag' ks h h'){q:Nat}{A B:List AV}{i:Nat}{f:Frm}{lv sv:AV}(hk:¬ks 7/\¬ks (11+3*i)/\¬ks (12+3*i))(F:FrAt tag h q A B i f lv sv):FrAt tag' h' q A B i f lv sv:=by
 have k:=K _ _ F.row (by rw[F.tq];exact hk.1);exact⟨k.1,k.2.trans F.tq,F.lo.keep K hk.2.1,F.st.keep K hk.2.2⟩
def MRG.mk2{Q:StP}{L:MLay}{tag tag':Nat->Nat}{ks:Nat->Prop}{sv fv dv cv sv' fv' dv' cv':AV}{vc vc':List AV}{p p':Proc}{h h':Hp}(H:MRG Q L tag sv fv dv cv vc p h)(K:Kp tag tag' ks h h')(h0:¬ks 0)(h1:¬ks 1)(st:Q.ok tag' h' p'.state sv')(fr:gb tag' 7 5 p'.frames.length (fun cs=>ep tag' h' 0 p'.frames cs) fv' h')(ds:gb tag' 2 3 p'.out.deeds.length (fun cs=>cs=cR p'.out.deeds) dv' h')(cs:gb tag' 3 3 p'.out.calls.length (fun cs=>eX tag' h' p'.out.calls cs) cv' h')(vo:VC p'.out.value vc')(so:p'.out.state=[]):
  h'[L.rm]? = some (fF L p sv fv dv cv vc)/\MRG Q L tag' sv' fv' dv' cv' vc' p' (h'.set L.rm (fF L p' sv' fv' dv' cv' vc')):=by
 have km:=K _ _ H.row (by rw[H.tm];exact h0);have ki:=K _ _ H.ri (by rw[H.ti];exact h1);have kf:=K _ _ H.rf (by rw[H.tf];exact h1);have tm:=km.2.trans H.tm;have ti:=ki.2.trans H.ti;have tf:=kf.2.trans H.tf;have hlt:L.rm<h'.length:=(XQ.1 km.1).1;have K':Kp tag' tag' (fun k=>k=0) h' (h'.set L.rm (fF L p' sv' fv' dv' cv' vc')):=Xr tm _;have ki':=K' _ _ ki.1 (by rw[ti];omega);have kf':=K' _ _ kf.1 (by rw[tf];omega);exact⟨km.1,Yg hlt,tm,ki'.1,ti,kf'.1,tf,Q.keep K' Z5 (fun j=>Z5) st,fr.keep K' Z5 fun _ h=>h.keep K' fun j _ _=>Z7,
  ds.keep K' Z5 fun _ h=>h,cs.keep K' Z5 fun _ h=>h.keep K' Z5,vo,so⟩
def Oj{L:MLay}{p:Proc}{sv fv dv cv x:AV}{vc:List AV}(h:vc.length=4):setCells (fF L p sv fv dv cv vc) 9 [x]=fF L p sv fv x cv vc:=by
 match vc,h with
 |[a,b,c,d],_=>rfl
def Kj{L:MLay}{p:Proc}{sv fv dv cv x:AV}{vc:List AV}(h:vc.length=4):setCells (fF L p sv fv dv cv vc) 10 [x]=fF L p sv fv dv x vc:=by
 match vc,h with
 |[a,b,c,d],_=>rfl
theorem Oi{L:MLay}{p:Proc}{sv fv dv cv x:AV}{vc:List AV}:setCells (fF L p sv fv dv cv vc) 2 [x]=fF L p sv x dv cv vc:=rfl
def l6{L:MLay}{p:Proc}{sv fv dv cv:AV}{vc:List AV}(h:vc.length=4):(fF L p sv fv dv cv vc).length=15:=by
 match vc,h with
 |[a,b,c,d],_=>rfl
def MRG.deed{Q:StP}{L:MLay}{tag:Nat->Nat}{sv fv dv cv:AV}{vc:List AV}{p:Proc}{h:Hp}(H:MRG Q L tag sv fv dv cv vc p h){T:TT}{t e:Nat}{ti ei:TI}(ht:T t=some ti)(hk:ti.kind= .slice e)(he:T e=some ei)(h3:ei.size=3)(hag:ei.agg=true)(hb:0<ei.bytes)(d:Deed)(hc:(p.out.deeds.length+1)*ei.bytes<=140737488355328):
  ∃h1 tag' dv',appH T t false dv (.sl [d.av]) h= .ok dv' h1/\Kp tag tag' (fun k=>k=2) h h1/\bY 1 dv'=true/\aa dv'=[dv']/\h1[L.rm]? = some (fF L p sv fv dv cv vc)/\
   MRG Q L tag' sv fv dv' cv vc { p with out:={ p.out with deeds:=p.out.deeds++[d] } } (h1.set L.rm (fF L p sv fv dv' cv vc)):=by
 obtain⟨cs,tag',rfl,hl,happ,K,_,HS⟩:=gb.push ht hk he h3 Z6 hag hb H.ds (x:=d.av) rfl hc
 have:=H.mk2 (p':={ p with out:={ p.out with deeds:=p.out.deeds++[d] } }) (sv':=sv) (fv':=fv) (cv':=cv) (vc':=vc) K Z5 Z5 (Q.keep K Z5 (fun j=>Z5) H.st) (H.fr.keep K Z5 fun _ h=>h.keep K fun j _ _=>Z7)
  (dv':=.hs h.length 0 (p.out.deeds.length+1) 3 true) (by
   simp_all[cR]) (H.cs.keep K Z5 fun _ h=>h.keep K Z5) H.vo H.so
 exact⟨_,tag',_,happ,K,rfl,rfl,this.1,this.2⟩
def MRG.keep{Q:StP}{L:MLay}{tag tag':Nat->Nat}{ks:Nat->Prop}{sv fv dv cv:AV}{vc:List AV}{p:Proc}{h h':Hp}(H:MRG Q L tag sv fv dv cv vc p h)(K:Kp tag tag' ks h h')(hk:∀k,ks k->k=11+3*p.frames.length\/k=12+3*p.frames.length):MRG Q L tag' sv fv dv cv vc p h':=by
 have km:=K _ _ H.row (by rw[H.tm];grind);have ki:=K _ _ H.ri (by rw[H.ti];grind);have kf:=K _ _ H.rf (by rw[H.tf];grind);have n:∀k,k≠11+3*p.frames.length->k≠12+3*p.frames.length->¬ks k:=fun k h1 h2 hh=>Z7
 exact⟨km.1,km.2.trans H.tm,ki.1,ki.2.trans H.ti,kf.1,kf.2.trans H.tf,Q.keep K (n _ Z5 Z5) (fun j=>n _ Z5 Z5) H.st,
  H.fr.keep K (n _ Z5 Z5) fun _ h=>h.keep K fun j _ hj=>⟨n _ Z5 Z5,n _ Z5 Z5⟩,H.ds.keep K (n _ Z5 Z5) fun _ h=>h,H.cs.keep K (n _ Z5 Z5) fun _ h=>h.keep K (n _ Z5 Z5),H.vo,H.so⟩
def tC{T:TT}{t e:Nat}{ti ei:TI}(ht:T t=some ti)(hk:ti.kind= .slice e)(he:T e=some ei)(h4:ei.size=4)(hag:ei.agg=true)(hb:0<ei.bytes)(call:FuncId->List AV->M AV){tag:Nat->Nat}{k:Nat}{h:Hp}{l:List Val}{v:AV}(H:dm tag k h l v)(hc:l.length*ei.bytes<=140737488355328)(kt:Nat):
  ∃h1 tag1 rv,cz T t call [v] h= .ok rv h1/\Kp tag tag1 (fun _=>False) h h1/\dm tag1 kt h1 l rv:=by
 have emp:∀x:AV,(x= .hn\/x= .he)->cz T t call [x] h= .ok .he h:=by
  rintro x (rfl|rfl)
  ·show appH T t false .he (.sl []) h=_
   grind [appH,fY,gU,db]
  ·show appH T t false .he (.sl []) h=_
   grind [appH,fY,gU,db]
 rcases H with⟨h0,hv,hP⟩|⟨r,cs,rest,rfl,hr,hcs,hne,hl,hok,rfl⟩
 ·exact⟨h,tag,.he,emp v hv,fun r cs hr _=>⟨hr,rfl⟩,.inl ⟨h0,.inr rfl,hP⟩⟩
 ·have:=oZ ht hk he h4 hag hb call hcs hok (k:=0) (n:=l.length) Z5 hc
  rw[ZF]at this;by_cases h0:l.length=0
  ·rw[XK h0]at this;exact⟨h,tag,.he,this,fun r cs hr _=>⟨hr,rfl⟩,.inl ⟨h0,.inr rfl,Z9⟩⟩
  ·rw[XG h0,X0,Zz]at this;refine⟨_,_,_,this,Kp.new tag h _ kt,.inr ⟨h.length,aw l,[],rfl,Z8,Z8,?_,Z7,Z7,rfl⟩⟩
   grind
def MRG.call{Q:StP}{L:MLay}{tag:Nat->Nat}{sv fv dv cv:AV}{vc:List AV}{p:Proc}{h:Hp}(H:MRG Q L tag sv fv dv cv vc p h){T:TT}{t e:Nat}{ti ei:TI}(ht:T t=some ti)(hk:ti.kind= .slice e)(he:T e=some ei)(h3:ei.size=3)(hag:ei.agg=true)(hb:0<ei.bytes)(c:Call){av:AV}(ha:zf tag h c.args av)(hc:(p.out.calls.length+1)*ei.bytes<=140737488355328):
  ∃h1 tag' cv',appH T t false cv (.sl [.agg [.str c.module,.str c.func,av]]) h= .ok cv' h1/\Kp tag tag' (fun k=>k=3) h h1/\bY 1 cv'=true/\aa cv'=[cv']/\h1[L.rm]? = some (fF L p sv fv dv cv vc)/\
   MRG Q L tag' sv fv dv cv' vc { p with out:={ p.out with calls:=p.out.calls++[c] } } (h1.set L.rm (fF L p sv fv dv cv' vc)):=by
 have hav:ay av=true:=by
  rcases ha with rfl|ha
  ·rfl
  ·exact ha.okC
 obtain⟨cs,tag',hP,hl,happ,K,_,HS⟩:=gb.push ht hk he h3 Z6 hag hb H.cs (x:=.agg [.str c.module,.str c.func,av]) (by
  show (_&&(ay (.str c.module)&&(ay (.str c.func)&&(ay av&&true))))=true;rw[hav];rfl) hc
 have hP':=hP.keep K Z5;have ha':=ha.keep K Z5
 have:=H.mk2 (p':={ p with out:={ p.out with calls:=p.out.calls++[c] } }) (sv':=sv) (fv':=fv) (dv':=dv) (vc':=vc) K Z5 Z5 (Q.keep K Z5 (fun j=>Z5) H.st) (H.fr.keep K Z5 fun _ h=>h.keep K fun j _ _=>Z7)
  (H.ds.keep K Z5 fun _ h=>h) (cv':=.hs h.length 0 (p.out.calls.length+1) 3 true) (by
   have:=HS.mono (c':=fun cs=>eX tag' _ (p.out.calls++[c]) cs) (fun cs' h=>by rw[h];exact hP'.snoc ha')
   grind) H.vo H.so
 exact⟨_,tag',_,happ,K,rfl,rfl,this.1,this.2⟩
def MRG.frame{Q:StP}{L:MLay}{tag:Nat->Nat}{sv fv dv cv:AV}{vc:List AV}{p:Proc}{h:Hp}(H:MRG Q L tag sv fv dv cv vc p h){T:TT}{t e:Nat}{ti ei:TI}(ht:T t=some ti)(hk:ti.kind= .slice e)(he:T e=some ei)(h3:ei.size=5)(hag:ei.agg=true)(hb:0<ei.bytes)(f:Frm){lv stv:AV}(hl:dm tag (11+3*p.frames.length) h f.locals lv)(hs:dm tag (12+3*p.frames.length) h f.stack stv)(hc:(p.frames.length+1)*ei.bytes<=140737488355328):
  ∃h1 tag' fv',appH T t false fv (.sl [.agg (iR f lv stv)]) h= .ok fv' h1/\Kp tag tag' (fun k=>k=7) h h1/\bY 1 fv'=true/\aa fv'=[fv']/\h1[L.rm]? = some (fF L p sv fv dv cv vc)/\
   MRG Q L tag' sv fv' dv cv vc { p with frames:=p.frames++[f] } (h1.set L.rm (fF L p sv fv' dv cv vc)):=by
 obtain⟨cs,tag',hP,hll,happ,K,_,HS⟩:=gb.push ht hk he h3 Z6 hag hb H.fr (x:=.agg (iR f lv stv)) (by
  show (_&&(ay (.str f.mod)&&(ay (.str f.fn)&&(ay (.int .i64 f.pc)&&(ay lv&&(ay stv&&true))))))=true;rw[hl.okC,hs.okC];rfl) hc
 have hP':=hP.keep K (fun j _ _=>Z7)
 have:=H.mk2 (p':={ p with frames:=p.frames++[f] }) (sv':=sv) (cv':=cv) (dv':=dv) (vc':=vc) K Z5 Z5 (Q.keep K Z5 (fun j=>Z5) H.st) (fv':=.hs h.length 0 (p.frames.length+1) 5 true) (by
   have:=HS.mono (c':=fun cs=>ep tag' _ 0 (p.frames++[f]) cs) (fun cs' h=>by rw[h];exact hP'.snoc (by rw[XX];exact hl.keep K Z5) (by rw[XX];exact hs.keep K Z5))
   grind)
  (H.ds.keep K Z5 fun _ h=>h) (H.cs.keep K Z5 fun _ h=>h.keep K Z5) H.vo H.so
 exact⟨_,tag',_,happ,K,rfl,rfl,this.1,this.2⟩
def vI(tag:Nat->Nat)(h:Hp):List Vars->List AV->Prop
 |[],cs=>cs=[]
 |w:: l,cs=>∃av rest,cs= .str w.module:: av:: rest/\dm tag 8 h w.values av/\vI tag h l rest
theorem vI.keep{tag tag':Nat->Nat}{ks:Nat->Prop}{h h':Hp}(K:Kp tag tag' ks h h')(hk:¬ks 8):{l:List Vars} ->{cs:List AV} ->vI tag h l cs->vI tag' h' l cs
 |[],_,H=>H
 |_:: _,_,⟨av,rest,h1,h2,h3⟩=>⟨av,rest,h1,h2.keep K hk,h3.keep K hk⟩
theorem vI.snoc{tag:Nat->Nat}{h:Hp}{w:Vars}{av:AV}(ha:dm tag 8 h w.values av):{l:List Vars} ->{cs:List AV} ->vI tag h l cs->vI tag h (l++[w]) (cs++[.str w.module,av])
 |[],cs,H=>by cases H;exact⟨av,[],rfl,ha,rfl⟩
 |d:: l,_,⟨av',rest,h1,h2,h3⟩=>⟨av',rest++[.str w.module,av],by rw[h1];rfl,h2,vI.snoc ha h3⟩
theorem oA.at2{tag:Nat->Nat}{h:Hp}:{i:Nat} ->{l:List Vars} ->{cs:List AV} ->oA tag h i l cs->∀(j:Nat)(w:Vars),l[j]? = some w->∃av,(cs.drop (j*2)).take 2=[.str w.module,av]/\dm tag (10+3*(i+j)) h w.values av
 |_,[],_,_,j,w,hj=>by simp at hj
 | i,_:: _,_,⟨av,rest,h1,h2,h3⟩,j,w,hj=>by
  subst h1;cases j with
  |zero=>grind
  |succ j=>
   obtain⟨av',g1,g2⟩:=h3.at2 j w (by simpa using hj)
   grind
structure EQ (L:MLay) (tag:Nat->Nat) (row:List AV) (sv dv cv:AV) (p:Proc) (h:Hp):Prop where
 row:h[L.rm]? = some row
 tm:tag L.rm=0
 st:gb tag 5 2 p.state.length (fun cs=>oA tag h 0 p.state cs) sv h
 ds:gb tag 2 3 p.out.deeds.length (fun cs=>cs=cR p.out.deeds) dv h
 cs:gb tag 3 3 p.out.calls.length (fun cs=>eX tag h p.out.calls cs) cv h
def MRG.eq{L:MLay}{tag:Nat->Nat}{sv fv dv cv:AV}{vc:List AV}{p:Proc}{h:Hp}(H:MR L tag sv fv dv cv vc p h):EQ L tag (fF L p sv fv dv cv vc) sv dv cv p h:=⟨H.row,H.tm,H.st,H.ds,H.cs⟩
def EQ.keep{L:MLay}{tag tag':Nat->Nat}{ks:Nat->Prop}{row:List AV}{sv dv cv:AV}{p:Proc}{h h':Hp}(H:EQ L tag row sv dv cv p h)(K:Kp tag tag' ks h h')(hk:∀k,ks k->k=9):EQ L tag' row sv dv cv p h':=by
 have n:∀k,k≠9->¬ks k:=fun k h1 hh=>h1 (hk _ hh);have km:=K _ _ H.row (by rw[H.tm];grind);exact⟨km.1,km.2.trans H.tm,H.st.keep K (n _ Z5) fun _ h=>h.keep K fun j=>n _ Z5,H.ds.keep K (n _ Z5) fun _ h=>h,H.cs.keep K (n _ Z5) fun _ h=>h.keep K (n _ Z5)⟩
def EQ.set{L:MLay}{tag:Nat->Nat}{row:List AV}{sv dv cv:AV}{p:Proc}{h:Hp}(H:EQ L tag row sv dv cv p h)(row':List AV):EQ L tag row' sv dv cv p (h.set L.rm row'):=by
 have hlt:L.rm<h.length:=(XQ.1 H.row).1;have K:Kp tag tag (fun k=>k=0) h (h.set L.rm row'):=Xr H.tm _;exact⟨Yg hlt,H.tm,H.st.keep K Z5 fun _ h=>h.keep K Z5,H.ds.keep K Z5 fun _ h=>h,H.cs.keep K Z5 fun _ h=>h.keep K Z5⟩
def EQ.store{L:MLay}{tag:Nat->Nat}{row:List AV}{sv dv cv:AV}{p:Proc}{h:Hp}(H:EQ L tag row sv dv cv p h){T:TT}{t:Nat}{ti:TI}(ht:T t=some ti){k:Nat}{x:AV}(hx:bY ti.size x=true)(hl:k+ti.size<=row.length)(hp:0<ti.size){row':List AV}(hr:setCells row k (aa x)=row'):
  bN T t (.hp L.rm k) x h= .ok (.tup []) (h.set L.rm row')/\EQ L tag row' sv dv cv p (h.set L.rm row'):=by
 rw[bU ht H.row hx hl hp,hr];exact⟨rfl,H.set row'⟩
def vQ(L:MLay)(p:Proc)(sv dv cv ov:AV):List AV:=[mods p.mods,sv,.sl [],ints p.world,.int .i64 p.out.err]++aa p.out.value.av++[dv,cv,ov,.bool true,.mp L.ri,.mp L.rf]
def I9(L:MLay)(p:Proc)(h:Hp):Prop:=∃tag sv dv cv ov,EQ L tag (vQ L p sv dv cv ov) sv dv cv p h/\gb tag 9 2 p.out.state.length (fun cs=>vI tag h p.out.state cs) ov h/\p.ended=true/\p.frames=[]
def od{d:Nat}{h:Hp}{q n sz:Nat}{cs rest:List AV}(h0:h[q]? = some (cs++rest))(hl:cs.length=n*sz)(hz:0<sz):qU d h q 0 n sz true= .sl ((List.range n).map fun i=>frz d h (.agg ((cs.drop (i*sz)).take sz))):=by
 unfold qU;rw[h0];simp only[X1,hl,XX,hz,Bool.true_or,X8,YH,YL];rw[Yd (show n*sz<=n*sz+rest.length by omega)];simp only[XL];congr 1;refine Y0 fun i hi=>?_;have hi:=List.mem_range.1 hi;have h2:(i+1)*sz<=n*sz:=XR sz hi
 grind
theorem pK{d:Nat}{tag:Nat->Nat}{k:Nat}{h:Hp}{l:List Val}{v:AV}(H:dm tag k h l v):cl (qU d h) v=vals l:=by
 rcases H with⟨h0,hv,_⟩|⟨r,cs,rest,rfl,_,hcs,_,hl,_,rfl⟩
 ·rw[XV h0];rcases hv with rfl|rfl<;>rfl
 ·show qU d h r 0 l.length 4 true=_;rw[od hcs hl Z6];unfold vals;rw[dX];congr 1;refine iz fun i v hv=>?_;have hi:=(XQ.1 hv).1;rw[iO hi,(XQ.1 hv).2];have:AV.agg (aa v.av)=v.av:=Z8
  rw[this,D1]
theorem ep.at{tag:Nat->Nat}{h:Hp}:{i:Nat} ->{l:List Frm} ->{cs:List AV} ->ep tag h i l cs->∀(j:Nat)(f:Frm),l[j]? = some f->∃lv sv,(cs.drop (j*5)).take 5=iR f lv sv/\dm tag (11+3*(i+j)) h f.locals lv/\dm tag (12+3*(i+j)) h f.stack sv
 |_,[],_,_,j,f,hj=>by simp at hj
 | i,g:: l,_,⟨lv,sv,rest,h1,h2,h3,h4⟩,j,f,hj=>by
  subst h1;cases j with
  |zero=>simp at hj;subst hj;exact⟨lv,sv,rfl,h2,h3⟩
  |succ j=>
   obtain⟨lv',sv',g1,g2,g3⟩:=h4.at j f (by simpa using hj)
   grind
def wJ{d:Nat}{tag:Nat->Nat}{h:Hp}{l:List Frm}{v:AV}(H:gb tag 7 5 l.length (fun cs=>ep tag h 0 l cs) v h):cl (qU (d+1) h) v=gT l:=by
 rcases H with⟨h0,hv,_⟩|⟨r,cs,rest,rfl,_,hcs,_,hl,_,HF⟩
 ·rw[XV h0];rcases hv with rfl|rfl<;>rfl
 ·show qU (d+1) h r 0 l.length 5 true=_;rw[od hcs hl Z6];unfold gT;congr 1;refine iz fun i f hf=>?_;obtain⟨lv,sv,e,h1,h2⟩:=HF.at i f hf;rw[e,gn];simp only[cl,fk,iR,pK h1,pK h2];rfl
def qL{d:Nat}{tag:Nat->Nat}{h:Hp}{l:List Deed}{v:AV}(H:gb tag 2 3 l.length (fun cs=>cs=cR l) v h):cl (qU (d+1) h) v=deeds l:=by
 rcases H with⟨h0,hv,_⟩|⟨r,cs,rest,rfl,_,hcs,_,hl,_,rfl⟩
 ·rw[XV h0];rcases hv with rfl|rfl<;>rfl
 ·show qU (d+1) h r 0 l.length 3 true=_;rw[od hcs hl Z6];simp_all[deeds,iz,yf,gn]
theorem eX.at{tag:Nat->Nat}{h:Hp}:{l:List Call} ->{cs:List AV} ->eX tag h l cs->∀(i:Nat)(c:Call),l[i]? = some c->∃av,(cs.drop (i*3)).take 3=[.str c.module,.str c.func,av]/\zf tag h c.args av
 |[],_,_,i,c,hc=>by simp at hc
 | d:: l,_,⟨av,rest,h1,h2,h3⟩,i,c,hc=>by
  subst h1;cases i with
  |zero=>grind
  |succ i=>
   obtain⟨av',g1,g2⟩:=h3.at i c (by simpa using hc)
   grind
def JD{d:Nat}{tag:Nat->Nat}{h:Hp}{l:List Val}{av:AV}(H:zf tag h l av):cl (qU d h) av=vals l:=by
 rcases H with rfl|H
 all_goals grind [ke,pK]
def qK{d:Nat}{tag:Nat->Nat}{h:Hp}{l:List Call}{v:AV}(H:gb tag 3 3 l.length (fun cs=>eX tag h l cs) v h):cl (qU (d+1) h) v=calls l:=by
 rcases H with⟨h0,hv,_⟩|⟨r,cs,rest,rfl,_,hcs,_,hl,_,HC⟩
 ·rw[XV h0];rcases hv with rfl|rfl<;>rfl
 ·show qU (d+1) h r 0 l.length 3 true=_;rw[od hcs hl Z6];unfold calls;congr 1;refine iz fun i c hc=>?_;obtain⟨av,g1,g2⟩:=HC.at i c hc;rw[g1,gn];show AV.agg [.str c.module,.str c.func,cl (qU d h) av]=_;rw[JD g2];rfl
def pJ{d:Nat}{tag:Nat->Nat}{h:Hp}{l:List Vars}{v:AV}(H:gb tag 5 2 l.length (fun cs=>oA tag h 0 l cs) v h):cl (qU (d+1) h) v=bn l:=by
 rcases H with⟨h0,hv,_⟩|⟨r,cs,rest,rfl,_,hcs,_,hl,_,HS⟩
 ·rw[XV h0];rcases hv with rfl|rfl<;>rfl
 ·show qU (d+1) h r 0 l.length 2 true=_;rw[od hcs hl Z6];unfold bn;congr 1;refine iz fun i c hc=>?_;obtain⟨av,g1,g2⟩:=HS.at2 i c hc;rw[g1,gn];show AV.agg [.str c.module,cl (qU d h) av]=_;rw[pK g2];rfl
theorem vI.at2{tag:Nat->Nat}{h:Hp}:{l:List Vars} ->{cs:List AV} ->vI tag h l cs->∀(j:Nat)(w:Vars),l[j]? = some w->∃av,(cs.drop (j*2)).take 2=[.str w.module,av]/\dm tag 8 h w.values av
 |[],_,_,j,w,hj=>by simp at hj
 | _:: _,_,⟨av,rest,h1,h2,h3⟩,j,w,hj=>by
  subst h1;cases j with
  |zero=>grind
  |succ j=>
   obtain⟨av',g1,g2⟩:=h3.at2 j w (by simpa using hj)
   grind
def Le{d:Nat}{tag:Nat->Nat}{h:Hp}{l:List Vars}{v:AV}(H:gb tag 9 2 l.length (fun cs=>vI tag h l cs) v h):cl (qU (d+1) h) v=bn l:=by
 rcases H with⟨h0,hv,_⟩|⟨r,cs,rest,rfl,_,hcs,_,hl,_,HS⟩
 ·rw[XV h0];rcases hv with rfl|rfl<;>rfl
 ·show qU (d+1) h r 0 l.length 2 true=_;rw[od hcs hl Z6];unfold bn;congr 1;refine iz fun i c hc=>?_;obtain⟨av,g1,g2⟩:=HS.at2 i c hc;rw[g1,gn];show AV.agg [.str c.module,cl (qU d h) av]=_;rw[pK g2];rfl
def Proc.cells(p:Proc):List AV:=[Go.Av.Ap.mods p.mods,bn p.state,gT p.frames,ints p.world,.int .i64 p.out.err,.int .i64 p.out.value.kind,.int .i64 p.out.value.n,strs p.out.value.names,vals p.out.value.values,deeds p.out.deeds,calls p.out.calls,bn p.out.state,.bool p.ended]
def Proc.av(p:Proc):AV:=.agg p.cells
def MRG.frzQ{Q:StP}{L:MLay}{tag:Nat->Nat}{sv fv dv cv:AV}{vc:List AV}{p:Proc}{h:Hp}(H:MRG Q L tag sv fv dv cv vc p h)(c1:cl (qU 5 h) sv=bn p.state):frz 6 h (.agg ((fF L p sv fv dv cv vc).take 13))=p.av:=by
 have c2:=wJ (d:=4) H.fr;have c3:=qL (d:=4) H.ds;have c4:=qK (d:=4) H.cs;have ho:=H.so;rcases H.vo with rfl|⟨e,rfl⟩
 ·rw[gn];simp only[fF,bQ,Yx,Ye,Yr,Yq,cl,fk,lh,nX,my,ke,c1,c2,c3,c4];unfold Proc.av Proc.cells;rw[ho];rfl
 ·rw[gn];simp only[fF,Yx,Ye,Yr,Yq,cl,fk,lh,nX,c1,c2,c3,c4];unfold Proc.av Proc.cells;rw[ho,e];rfl
theorem MRG.frz{L:MLay}{tag:Nat->Nat}{sv fv dv cv:AV}{vc:List AV}{p:Proc}{h:Hp}(H:MR L tag sv fv dv cv vc p h):frz 6 h (.agg ((fF L p sv fv dv cv vc).take 13))=p.av:=H.frzQ (pJ (d:=4) H.sth)
theorem I9.frz{L:MLay}{p:Proc}{h:Hp}(H:I9 L p h):∃row,h[L.rm]? = some row/\13<=row.length/\frz 6 h (.agg (row.take 13))=p.av:=by
 obtain⟨tag,sv,dv,cv,ov,E,S,he,hf⟩:=H;have c1:=pJ (d:=4) E.st;have c3:=qL (d:=4) E.ds;have c4:=qK (d:=4) E.cs;have c5:=Le (d:=4) S;refine⟨_,E.row,by simp[vQ],?_⟩;rw[gn];simp only[vQ,bQ,Yx,Ye,Yr,Yq,cl,fk,lh,nX,my,ke,c1,c3,c4,c5];unfold Proc.av Proc.cells;rw[he,hf];rfl
def jH{e:Exp}(h:im e=true):(e.op=0/\e.args.length=0)\/(e.op=1/\e.args.length=0/\(e.n=0\/e.n=1))\/(e.op=2/\e.args.length=0)\/((e.op=3\/e.op=4\/e.op=5\/e.op=6\/e.op=7)/\e.args.length=2)\/((e.op=8\/e.op=9)/\e.args.length=2)\/(e.op=10/\e.args.length=1)\/(e.op=11/\e.args.length=3)\/(e.op=12/\e.args.length=2)\/(e.op=13/\e.names.length=e.args.length/\jQ e.names=true)\/(e.op=14/\e.args.length=1)\/e.op=15\/(e.op=16/\e.args.length=1/\(e.n=1\/e.n=2\/e.n=4\/e.n=8))\/(e.op=17/\e.args.length=0)\/(e.op=18/\e.args.length=1):=by
 have hb:0<=e.op/\e.op<19:=by
  unfold im at h;simp only[XJ,XI]at h;exact⟨h.1.1.1.1.1.1.1,h.1.1.1.1.1.1.2⟩
 have ho:e.op=0\/e.op=1\/e.op=2\/e.op=3\/e.op=4\/e.op=5\/e.op=6\/e.op=7\/e.op=8\/e.op=9\/e.op=10\/e.op=11\/e.op=12\/e.op=13\/e.op=14\/e.op=15\/e.op=16\/e.op=17\/e.op=18:=Z5
 rcases ho with o|o|o|o|o|o|o|o|o|o|o|o|o|o|o|o|o|o|o<;>simp[im,iY,iH,o,-List.length_eq_zero_iff]at h|- <;> first|omega|grind
def oD:Nat->Nat
 |0=>0
 |n+1=>3+8*oD n
theorem nS(c:List Ins)(k:Nat)(n:Int):(rB c k n).length=c.length:=by simp[rB]
theorem dt(i:Ins)(c:jW):(gJ i c).1.length=c.1.length+1:=by simp[gJ]
def Js{e:Exp}(h:im e=true)(h6:e.op=15->e.args.length<=6):e.args.length<=8:=by
 rcases jH h with h|h|h|h|h|h|h|h|⟨h1,h2,h3⟩|h|h|h|h|h
 all_goals try omega
 simp_all[jQ]
def Q0{e:Exp}(h:im e=true)(ho:e.op=15):e.args.length<=6:=by
 simp_all[im,iH]
def Dw{e:Exp}(h:im e=true):e.args.length<=8:=Js h (Q0 h)
theorem pf(vars:List fu)(n:Nat)(t:Int)(names:List ba)(c:jW):bK vars (n+1) (lJ t) names c=gJ (cD 1 t) c:=rfl
def oT(em:jW->jW)(L:Nat):Prop:=∀c:jW,c.1.length<=(em c).1.length/\(em c).1.length<=c.1.length+L
def iX{em:Exp->jW->jW}{yes no:Exp}{L1 L2:Nat}(h1:oT (em yes) L1)(h2:oT (em no) L2):oT (iF em yes no) (L1+L2+2):=by
 intro c;unfold iF;simp only[nS];have a:=h1 (gJ (cD 11 0) c);have e1:=dt (cD 11 0) c;generalize em yes (gJ (cD 11 0) c)=c2 at *;have e2:=dt (cD 10 0) c2;have b:=h2 (rB (gJ (cD 10 0) c2).1 c.1.length (gJ (cD 10 0) c2).1.length,(gJ (cD 10 0) c2).2);simp only[nS]at b;omega
theorem tX(em:Exp->jW->jW)(L:Nat):∀(l:List Exp),(∀x∈l,oT (em x) L)->oT (fun c=>l.foldl (fun c x=>em x c) c) (l.length*L)
 |[],_=>fun c=>Z8
 |x:: l,h=>fun c=>by
  have a:=h x Z8 c;have b:=tX em L l (fun y hy=>h y (by simp[hy])) (em x c)
  grind [Nat.succ_mul]
theorem gB{n:Nat}{e x:Exp}(h:cS (n+1) e=true)(hx:x∈e.args):cS n x=true:=by
 simp_all[fG]
def fe{n:Nat}{e:Exp}(h:cS n e=true):∃m,n=m+1:=by
 cases n with
 |zero=>simp[cS]at h
 |succ m=>grind
theorem dw{n:Nat}{e:Exp}(h:cS (n+1) e=true){k:Nat}(hk:k<e.args.length):cS n e.args[k]! = true:=by
 grind [gB]
theorem cJ(vars:List fu):∀(n:Nat)(e:Exp),cS n e=true->∀names,oT (bK vars n e names) (oD n)
 |0,e,h,names=>by simp[cS]at h
 | n+1,e,h,names=>by
  have hs:im e=true:=by rw[fG,XJ]at h;exact h.1
  have hc:=jH hs;have ha:=Dw hs;intro c;unfold bK;simp only[oD];have htr:∀t,1<=n->oT (bK vars n (lJ t) names) 1:=fun t hn c=>by
   obtain⟨m,rfl⟩:∃m,n=m+1:=⟨n-1,Z5⟩;rw[pf,dt];omega
  split
  ·rw[dt];omega
  split
  ·rw[dt];omega
  split
  ·rw[dt];omega
  split
  ·rw[dt];omega
  split
  ·rename_i ho;have hl:e.args.length=2:=Z5
   obtain⟨m,rfl⟩:=fe (dw h (k:=0) Z5);have a:=cJ vars _ _ (dw h (k:=0) Z5) names c;have b:=iX (em:=fun x=>bK vars (m+1) x names) (cJ vars _ _ (dw h (k:=1) Z5) names) (htr 0 Z5) (bK vars (m+1) e.args[0]! names c)
   grind
  split
  ·rename_i ho;have hl:e.args.length=2:=Z5
   obtain⟨m,rfl⟩:=fe (dw h (k:=0) Z5);have a:=cJ vars _ _ (dw h (k:=0) Z5) names c;have b:=iX (em:=fun x=>bK vars (m+1) x names) (htr 1 Z5) (cJ vars _ _ (dw h (k:=1) Z5) names) (bK vars (m+1) e.args[0]! names c)
   grind
  split
  ·rename_i ho;have hl:e.args.length=3:=Z5
   obtain⟨m,rfl⟩:=fe (dw h (k:=0) Z5);have a:=cJ vars _ _ (dw h (k:=0) Z5) names c;have b:=iX (em:=fun x=>bK vars (m+1) x names) (cJ vars _ _ (dw h (k:=1) Z5) names) (cJ vars _ _ (dw h (k:=2) Z5) names) (bK vars (m+1) e.args[0]! names c)
   grind
  split
  ·rename_i ho;have hl:e.args.length=2:=Z5
   obtain⟨m,rfl⟩:=fe (dw h (k:=0) Z5);have a:=cJ vars _ _ (dw h (k:=0) Z5) names c;have e1:=dt (cD 3 names.length) (bK vars (m+1) e.args[0]! names c);have b:=cJ vars _ _ (dw h (k:=1) Z5) (names++[e.s]) ((gJ (cD 3 names.length) (bK vars (m+1) e.args[0]! names c)).1,max (gJ (cD 3 names.length) (bK vars (m+1) e.args[0]! names c)).2 (names.length+1))
   grind
  ·have b:=tX (fun x=>bK vars n x names) (oD n) e.args (fun x hx=>cJ vars n x (gB h hx) names) c;rw[dt];have hm:e.args.length*oD n<=8*oD n:=XR _ ha
   grind
section
variable {α:Type} {f:α->AV} {sz:Nat}
def rowOf(f:α->AV)(l:List α):List AV:=(l.map f).flatMap aa
theorem jf(x:α)(l:List α):rowOf f (x:: l)=aa (f x)++rowOf f l:=by simp[rowOf]
theorem oo(hs:∀x,(aa (f x)).length=sz):(l:List α)->(rowOf f l).length=l.length*sz
 |[]=>by simp[rowOf]
 |x:: l=>by rw[jf,X1,hs,oo hs l,Yb,Nat.succ_mul];omega
theorem sy(hs:∀x,(aa (f x)).length=sz):(l:List α)->(i:Nat)->(h:i<l.length)->((rowOf f l).drop (i*sz)).take sz=aa (f l[i])
 |x:: l,0,_=>by
  simp_all[jf]
 |x:: l,i+1,h=>by
  rw[jf,show (i+1)*sz=(aa (f x)).length+i*sz by grind,Zy,List.drop_eq_nil_of_le Z5,Zw,Ye];simpa using sy hs l i (by simpa using h)
theorem Fu(hs:∀x,(aa (f x)).length=sz)(hag:∀x,f x= .agg (aa (f x)))(hcl:∀x g,cl g (f x)=f x)(hz:0<sz){h:Hp}{q:Nat}{l:List α}(hq:h[q]? = some (rowOf f l))(d:Nat):
  frz (d+1) h (.hs q 0 l.length sz true)= .sl (l.map f):=by
 have hlen:=oo (f:=f) hs l;simp only[frz,cl,hq];have h1:(decide (0+l.length*sz<=(rowOf f l).length)&&decide (0<sz)&&(true||(Nat.beq sz 1&&(rowOf f l).all ay)))=true:=by
  simp[hlen,hz]
 rw[h1,XL];congr 1;apply List.ext_getElem
 ·simp
 ·intro i h2 h3;have hi:i<l.length:=by simpa using h2
  simp only[ZX,List.getElem_range,XX,XL];rw[sy hs l i hi,<- hag];cases d with
  |zero=>exact hcl _ _
  |succ d=>exact hcl _ _
end
def yw{T:TT}{t:Nat}{ti:TI}(ht:T t=some ti)(ha:ti.agg=false){h:Hp}{l k:Nat}{cs:List AV}{v:AV}(h0:h[l]? = some cs)(h1:cs[k]? = some v):bg T t (.hp l k) h= .ok v h:=by
 simp[bg,ht,h0,ha,h1]
def s7{T:TT}{t:Nat}{ti:TI}(ht:T t=some ti){h:Hp}{l k:Nat}{cs:List AV}{v:AV}(h0:h[l]? = some cs)(hv:bY ti.size v=true)(hle:k+ti.size<=cs.length)(hp:0<ti.size):
  bN T t (.hp l k) v h= .ok (.tup []) (h.set l (setCells cs k (aa v))):=by
 simp[bN,ht,h0,hv,hle,hp]
def QY{T:TT}{t e:Nat}{ti ei:TI}(ht:T t=some ti)(hk:ti.kind= .slice e)(he:T e=some ei){x:AV}(hx:bY ei.size x=true)(hb:0<ei.bytes)(hs:0<ei.size)(hc:ei.bytes<=140737488355328)(h:Hp):
  appH T t false .hn (.sl [x]) h= .ok (.hs h.length 0 1 ei.size ei.agg) (h++[aa x]):=by
 simp_all[db,appH,fY,gU]
def QZ{T:TT}{t e:Nat}{ti ei:TI}(ht:T t=some ti)(hk:ti.kind= .slice e)(he:T e=some ei){x:AV}(hx:bY ei.size x=true)(hb:0<ei.bytes)(hs:0<ei.size){h:Hp}{q n:Nat}{cs:List AV}(h0:h[q]? = some cs)(hok:cs.all ay=true)(hl:cs.length=n*ei.size)(hn:0<n)(hc:(n+1)*ei.bytes<=140737488355328):appH T t false (.hs q 0 n ei.size ei.agg) (.sl [x]) h= .ok (.hs h.length 0 (n+1) ei.size ei.agg) ((h.set q [])++[cs++aa x]):=by
 have h1:db ei.size [x]=true:=by simp[db,hx]
 have h2:List.all cs ay=true:=hok;have h3:0<n*ei.size:=Nat.mul_pos hn hs;have h4:cs.take (n*ei.size)=cs:=by rw[<- hl];exact Zz
 simp only[appH,ht,hk,he,fY,h1,hb,hs,gU,h0,h2,hl,X8,YL,XL,Yf,List.length_singleton,ZP,XT,YK,ZW,X9,h3,h4,XM]
 grind
theorem kS:(a:ba)->ck a a=false
 |[]=>rfl
 |x:: a=>by simp[ck,kS a]
theorem oQ:(a b c:ba)->ck a b=true->ck b c=true->ck a c=true
 |_,[],c,h,_=>by cases ‹ba› <;> simp[ck]at h
 |_,_:: _,[],_,h=>by simp[ck]at h
 |[],_:: _,_:: _,_,_=>by simp[ck]
 | x:: a,y:: b,z:: c,h1,h2=>by
  simp only[ck,Yy,XJ,XI,Yt,UInt8.lt_iff_toNat_lt]at h1 h2 |-;rcases h1 with h1|⟨rfl,h1⟩
  ·grind
  ·rcases h2 with h2|⟨rfl,h2⟩
   ·exact .inl h2
   ·exact .inr ⟨rfl,oQ a b c h1 h2⟩
theorem oP:(a b:ba)->ck a b=false->a≠b->ck b a=true
 |[],[],_,h=>absurd rfl h
 |[],_:: _,h,_=>by simp[ck]at h
 |_:: _,[],_,_=>by simp[ck]
 | x:: a,y:: b,h1,h2=>by
  simp only[ck,Y8,Yc,Yy,XJ,XI,Yt,UInt8.lt_iff_toNat_lt]at h1 |-;by_cases e:x=y
  ·subst e;refine .inr ⟨rfl,oP a b ?_ fun e=>h2 (by rw[e])⟩
   grind
  grind [UInt8.toNat_inj]
def tk(p f:ba):eG p f=true↔ck p f=true:=by
 unfold eG;rw[Yh,Y8];constructor
 ·grind [oP]
 ·intro h;refine⟨?_,?_⟩
  ·cases hc:ck f p with
   |false=>rfl
   |true=>grind [oQ,kS]
  ·rw[Zc];rintro rfl;rw[kS]at h;cases h
mutual
theorem tO:(a:AV)->nA a a=true
 |.agg a=>by simp only[nA];exact i6 a
 |.tup a=>by simp only[nA];exact i6 a
 |.sl a=>by simp only[nA];exact i6 a
 |.ip a=>by simp only[nA];exact i6 a
 |.fn f a c=>by simp only[nA,i6 a,i6 c,X8,YL]
 |.iface t a=>by simp only[nA,tO a,Nat.beq_refl,YL]
 |.hp l o=>by grind [nA,Nat.beq_refl]
 |.hs l o n s g=>by simp_all[nA]
 |.any=>rfl
 |.bool a=>by simp only[nA,Yf]
 |.int k a=>by simp_all[nA]
 |.str a=>by simp only[nA,Yf]
 |.nilp=>rfl
 |.nilf=>rfl
 |.nili=>rfl
 |.hn=>rfl
 |.nilm=>rfl
 |.he=>rfl
 |.mp l=>by simp only[nA,Nat.beq_refl]
 |.nilb l=>by simp only[nA,Nat.beq_refl]
 |.it l=>by simp only[nA,Nat.beq_refl]
 |.byt t n=>by simp_all[nA]
theorem i6:(a:List AV)->qP a a=true
 |[]=>rfl
 |a:: l=>by simp only[qP,tO a,i6 l,YL]
end
theorem yO{m r:Nat}:∀(cs ds:List AV)(b:Nat),cs.length<=ds.length->(∀o,o<cs.length->(b+o) % m=r->cs[o]? = ds[o]?)->uW m r b cs ds=true
 |[],_,_,_,_=>rfl
 |_:: _,[],_,h,_=>by simp at h
 | c:: cs,d:: ds,b,h,hs=>by
  simp only[uW,XJ];refine⟨?_,yO cs ds (b+1) (by simpa using h) fun o ho hm=>?_⟩
  ·cases hb:Nat.beq (b % m) r with
   |false=>rfl
   |true=>
    grind [Nat.eq_of_beq_eq_true,List.getElem?_cons_zero,tO]
  ·have:=hs (o+1) (by simpa using ho) Z7
   grind
def FY(m r:Nat)(cs:List AV)(b:Nat):uW m r b cs cs=true:=yO cs cs b (XM _) fun _ _ _=>rfl
theorem Az{m r:Nat}:∀(h h':Hp),h.length<=h'.length->(∀(i:Nat)(cs ds:List AV),h[i]? = some cs->h'[i]? = some ds->uW m r 0 cs ds=true)->lp m r h h'=true
 |[],_,_,_=>rfl
 |_:: _,[],h,_=>by simp at h
 |c:: cs,d:: ds,h,hs=>by
  simp only[lp,XJ];exact⟨hs 0 c d rfl rfl,Az cs ds (by simpa using h) fun i a b h1 h2=>hs (i+1) a b (by simpa using h1) (by simpa using h2)⟩
def CE{h ext:Hp}{q:Nat}{A B:List AV}{f f':Frm}{lv sv sv':AV}(hq:h[q]? = some (A++iR f lv sv++B))(hA:A.length % 5=0)(h1:f'.mod=f.mod)(h2:f'.fn=f.fn)(h3:f'.pc=f.pc):
  lp 5 3 h ((h++ext).set q (A++iR f' lv sv'++B))=true:=by
 refine Az _ _ Z8 fun i cs ds g1 g2=>?_;have hi:i<h.length:=(XQ.1 g1).1;by_cases hiq:i=q
 ·subst hiq;rw[hq]at g1;rw[Yg WD]at g2;simp only[XF]at g1 g2;subst g1;subst g2;refine yO _ _ 0 (by simp[iR]) fun o ho hm=>?_;by_cases ha:o<A.length
  ·grind
  ·by_cases hb:o<A.length+5
   ·have:o=A.length+3:=Z5
    subst this;rw[Yz,Yz,Yj (l₁:=A) Z5,Yj (l₁:=A) Z5,Zw];rfl
   grind [iR]
 simp_all[Ne.symm,YJ,FY]
def HB{m r:Nat}{x:M AV}{h h':Hp}{v:AV}(e:x h= .ok v h')(hk:lp m r h h'=true):iy m r x h= .ok v h':=by
 simp_all[iy]
structure HtOk (C:List Ins) (hl:List Int):Prop where
 len:hl.length=C.length
 ne:C≠[]
 zero:hl[0]! = 0
 lo:∀k,k<C.length->hl[k]! <=C.length
 ins:∀k,k<C.length->0<=hl[k]! ->(aG C[k]!).1<=hl[k]! /\(C[k]!.op=18->hl[k]! = 1)/\∀v∈gu C[k]! k,(0<=v/\v<C.length)/\hl[v.toNat]! = hl[k]! - (aG C[k]!).1+(aG C[k]!).2
 ge:∀k,k<C.length->-1<=hl[k]!
def CQ{loc:Int}{C:List Ins}{i:Ins}(h:bP C.length loc i=true){k:Nat}(hk:k<C.length):∀v∈gu i k,0<=v/\v<=C.length:=by
 intro v hv;unfold gu at hv;split at hv
 ·cases hv
 split at hv
 ·grind [bP]
 split at hv
 ·rename_i h11;simp[bP,h11]at h
  grind
 grind
theorem Cv{n k:Nat}{nd gv:Int}(hk:k<n):∀(nx hl td:List Int){hl' td':List Int},hl.length=n->0<=hl[k]! ->0<=hl[k]! - nd+gv->(∀v∈nx,0<=v/\v<=n)->kj n k nd gv nx hl td=some (hl',td')->
  hl'.length=n/\(∀j,j<n->0<=hl[j]! ->hl'[j]! = hl[j]!)/\(∀v∈nx,v<n/\hl'[v.toNat]! = hl[k]! - nd+gv)/\(∀j,j<n->0<=hl'[j]! ->0<=hl[j]! \/(j:Int)∈td')/\∀x∈td,x∈td'
 |[],hl,td,hl',td',H,_,_,_,e=>by
  simp only[kj,XF,YD]at e
  grind
 | v :: nx,hl,td,hl',td',H,h0,h1,hx,e=>by
  have hv:=hx v Z8;simp only[kj]at e;split at e
  ·cases e
  ·rename_i hne;have hvn:v.toNat<n:=Z5
   have hvl:v.toNat<hl.length:=by rw[H];exact hvn
   have hkl:k<hl.length:=by rw[H];exact hk
   split at e
   ·rename_i hneg;have hkv:¬v.toNat=k:=fun e=>Z7
    have ek:(hl.set v.toNat (hl[k]! - nd+gv))[k]! = hl[k]!:=by rw[lT hvl hkl,XG hkv]
    obtain⟨i1,i2,i3,i4,i5⟩:=Cv hk nx (hl.set v.toNat (hl[k]! - nd+gv)) _ (by simpa using H) Z7 Z7 (fun x h=>hx x (by simp[h])) e;rw[ek]at i3;have ev:(hl.set v.toNat (hl[k]! - nd+gv))[v.toNat]! = hl[k]! - nd+gv:=by rw[lT hvl hvl,XK rfl]
    refine⟨i1,fun j hj hp=>?_,fun x hxx=>?_,fun j hj hp=>?_,fun x hxx=>i5 x (by simp[hxx])⟩
    ·have hjv:¬v.toNat=j:=fun e=>Z7
     grind
    ·rcases Yn.1 hxx with rfl|hxx
     all_goals simp_all
    ·rcases i4 j hj hp with h|h
     ·by_cases hjv:v.toNat=j
      ·grind
      grind
     ·exact .inr h
   ·rename_i hpos;split at e
    ·cases e
    ·rename_i heq;obtain⟨i1,i2,i3,i4,i5⟩:=Cv hk nx hl td H h0 h1 (fun x h=>hx x (by simp[h])) e
     grind
def Gq(C:List Ins)(hl:List Int)(k:Nat):Prop:=(aG C[k]!).1<=hl[k]! /\(C[k]!.op=18->hl[k]! = 1)/\∀v∈gu C[k]! k,(0<=v/\v<C.length)/\hl[v.toNat]! = hl[k]! - (aG C[k]!).1+(aG C[k]!).2
theorem Es{loc:Int}{C:List Ins}(hf:∀i∈C,bP C.length loc i=true):∀(f:Nat)(hl td:List Int){hl':List Int},HInv C.length hl->(∀v∈td,(0<=v/\v<C.length)/\0<=hl[v.toNat]!)->(∀k,k<C.length->0<=hl[k]! ->(k:Int)∈td\/Gq C hl k)->rp C f hl td=some hl'->
  HInv C.length hl'/\(∀k,k<C.length->0<=hl[k]! ->hl'[k]! = hl[k]!)/\∀k,k<C.length->0<=hl'[k]! ->Gq C hl' k
 |0,_,_,_,_,_,_,e=>by cases e
 |f+1,hl,[],hl',H,_,hd,e=>by
  simp only[rp,XF]at e
  grind
 | f + 1, hl,v:: td,hl',H,ht,hd,e=>by
  obtain⟨hv,hp⟩:=ht v Z8;obtain⟨k,rfl⟩:∃k:Nat,v=(k:Int):=⟨v.toNat,Z5⟩;have hk:k<C.length:=Z5
  rw[XP]at hp;simp only[rp,XP]at e;have hmem:C[k]! ∈C:=by rw[XN C k hk];exact XU hk
  have hfk:=hf _ hmem;have hnb:=gt hfk;have hxb:=CQ hfk hk;split at e
  ·cases e
  ·rename_i hc;rw[not_or]at hc;split at e
   ·cases e
   ·rename_i a b hst;have hpos:0<=hl[k]! - (aG C[k]!).1+(aG C[k]!).2:=Z5
    obtain⟨s1,s2,s3,s4,s5⟩:=Cv hk _ _ _ H.len hp hpos hxb hst;obtain⟨w1,_,w3⟩:=qw hk hnb.1 hnb.2.2.1 hnb.2.2.2 _ _ _ H Z5 hxb (fun v hv=>(ht v (by simp[hv])).1) hst;have ekk:=s2 k hk hp;have hdk:Gq C a k:=⟨by rw[ekk];omega,fun h=>Z7,fun v hv=>⟨⟨(hxb v hv).1,(s3 v hv).1⟩,Z7⟩⟩
    have hback:∀v∈b,0<=a[v.toNat]!:=by
     have key:∀(nx hl td hl' td':List Int),hl.length=C.length->0<=hl[k]! ->(∀v∈nx,0<=v/\v<=C.length)->0<=hl[k]! - (aG C[k]!).1+(aG C[k]!).2->kj C.length k (aG C[k]!).1 (aG C[k]!).2 nx hl td=some (hl',td')->(∀v∈td,(0<=v/\v<C.length)/\0<=hl[v.toNat]!)->∀v∈td',0<=hl'[v.toNat]!:=by
      intro nx
      induction nx with
      |nil=>
       intro hl td hl' td' _ _ _ _ e h;simp only[kj,XF,YD]at e
       grind
      | cons w nx ih=>
       intro hl td hl' td' H h0 hx h1 e h;have hw:=hx w Z8;simp only[kj]at e;split at e
       ·cases e
       ·rename_i hne;have hwl:w.toNat<hl.length:=Z5
        have hkl:k<hl.length:=Z5
        split at e
        ·rename_i hneg;have hkv:¬w.toNat=k:=fun e=>Z7
         have ek:(hl.set w.toNat (hl[k]! - (aG C[k]!).1+(aG C[k]!).2))[k]! = hl[k]!:=by rw[lT hwl hkl,XG hkv]
         refine ih _ _ _ _ (by simpa using H) Z7 (fun x hh=>hx x (by simp[hh])) Z7 e fun x hxx=>?_;rcases Yl.1 hxx with hxx|hxx
         ·refine⟨(h x hxx).1,?_⟩;rw[lT hwl (by have:=(h x hxx).1;omega)];split
          all_goals grind
         ·rw[Yo]at hxx;subst hxx;exact⟨Z5,Z7⟩
        ·split at e
         ·cases e
         ·exact ih _ _ _ _ H h0 (fun x hh=>hx x (by simp[hh])) h1 e h
     exact key _ _ _ _ _ H.len hp hxb hpos hst (fun v hv=>ht v (by simp[hv]))
    obtain⟨i1,i2,i3⟩:=Es hf f a b w1 (fun v hv=>⟨w3 v hv,hback v hv⟩) (fun j hj hjp=>by
     by_cases hjk:j=k
     ·grind
     ·rcases s4 j hj hjp with h|h
      ·rcases hd j hj h with h2|h2
       ·rcases Yn.1 h2 with h2|h2
        ·exact absurd Z5 hjk
        ·exact .inl (s5 _ h2)
       ·have ej:=s2 j hj h;refine .inr ⟨by rw[ej];exact h2.1,fun h=>by rw[ej];exact h2.2.1 h,fun v hv=>?_⟩;obtain⟨q1,q2⟩:=h2.2.2 v hv;have hb:=gt (hf C[j]! (by rw[XN C j hj];exact XU hj));exact⟨q1,by rw[s2 v.toNat Z5 (by rw[q2];have:=h2.1;omega),q2,ej]⟩
      ·exact .inl h) e
    refine⟨i1,fun j hj h=>?_,i3⟩
    have:=s2 j hj h
    rw[i2 j hj (by rw[this];exact h),this]
def iG{c:Cod}{hl:List Int}(h:dq c=some hl):HtOk c.code hl/\pm c=true/\∀i∈c.code,bP c.code.length c.locals i=true:=by
 unfold dq at h;split at h
 ·rename_i hc;have hf:=XY.1 hc.2;have hne:c.code≠[]:=by
   have:=hc.1
   unfold pm at this;simp only[XJ,XI]at this;exact this.2
  have hpos:0<c.code.length:=YE.2 hne;have hg:∀j,j<c.code.length->(0:: List.replicate (c.code.length-1) (-1:Int))[j]! = if j=0 then 0 else -1:=by
   intro j hj;rw[XN _ _ WD];cases j with
   |zero=>rfl
   |succ j=>simp
  have hH:HInv c.code.length (0:: List.replicate (c.code.length-1) (-1)):=by
   refine⟨by simp;omega,fun j hj=>by rw[hg j hj];split<;>omega,fun j hj=>?_⟩;have:q9 (0:: List.replicate (c.code.length-1) (-1))=c.code.length-1:=by
    unfold q9;rw[List.countP_cons,List.countP_replicate];simp
   rw[this,hg j hj];split<;>omega
  obtain⟨i1,i2,i3⟩:=Es hf _ _ _ hH (fun v hv=>by
   rw[Yo]at hv;subst hv;exact⟨Z5,by rw[show (0:Int).toNat=0 from rfl,hg 0 hpos];simp⟩) (fun k hk hp=>by
   rw[hg k hk]at hp;split at hp
   ·rename_i h0;exact .inl (by simp[h0])
   ·omega) h
  have h00:=hg 0 hpos;refine⟨⟨i1.len,hne,by rw[i2 0 hpos (by rw[h00];simp),h00];rfl,fun k hk=>?_,fun k hk hp=>i3 k hk hp,i1.lo⟩,hc.1,hf⟩
  have:=i1.hi k hk
  omega
 ·cases h
theorem w8{α:Type}(F:α->Bool):∀(l:List α)(i:Int),0<=i->0<=bb F l i->∃(k:Nat)(hk:k<l.length),bb F l i=i+k/\F l[k]=true
 |[],i,_,h=>by simp[bb]at h
 | x:: l,i,hi,h=>by
  by_cases hx:F x=true
  ·exact⟨0,Z8,by simp[bb,hx],hx⟩
  ·have e:bb F (x:: l) i=bb F l (i+1):=by simp[bb,hx]
   rw[e]at h|-;obtain⟨k,hk,h1,h2⟩:=w8 F l (i+1) Z5 h;exact⟨k+1,by simpa using hk,Z5,h2⟩
def ud{p:List Mod}{a:Int}{s:ba}{f:Fun}(h:lS p a s=some f):f.name=s:=by
 unfold lS at h;split at h
 ·cases h
 ·simp only at h;split at h
  ·cases h
  ·rename_i h2;obtain⟨k,hk,h3,h4⟩:=w8 (fun f:Fun=>f.name== s) _ 0 Z5 (show 0<=mZ (p[a.toNat]?.getD default).funcs s by omega)
   grind [mZ]
structure FncOk (p:List Mod) (s t:ba) (x:Fnc):Prop where
 at_:x.at_=dI p s
 ge:¬dI p s<0
 lt:(dI p s).toNat<p.length
 fn:∃f,lS p (dI p s) t=some f/\f∈(p[(dI p s).toNat]?.getD default).funcs/\x.cod=dx (p[(dI p s).toNat]?.getD default).vars f/\x.pub=f.pub/\f.name=t
 name:x.cod.func=t
 hgt:dq x.cod=some x.hts
def lz{p:List Mod}{s t:ba}{x:Fnc}(h:fj p s t=some x):FncOk p s t x:=by
 unfold fj at h;split at h
 ·cases h
 ·rename_i f hf;split at h
  ·cases h
  ·rename_i hl hh;cases h;obtain⟨f1,f2,f3⟩:=pk hf;exact⟨rfl,f1,f2,⟨f,hf,f3,rfl,rfl,ud hf⟩,ud hf,hh⟩
theorem iw(p:List Mod):∀(l:List Frm)(f:Frm)(nx:Option Frm),eu p (l++[f]) nx=(eu p l (some f)&&i7 p f nx)
 |[],f,nx=>by simp[eu]
 |g:: l,f,nx=>by
  rw[Yx,eu,iw p l f nx,eu]
  grind
theorem mw(p:List Mod):∀(l:List Frm){f g:Frm},f.mod=g.mod->f.fn=g.fn->eu p l (some f)=eu p l (some g)
 |[],_,_,_,_=>rfl
 |[x],f,g,h1,h2=>by simp[eu,i7,h1,h2]
 |x:: y:: l,f,g,h1,h2=>by
  have:=mw p (y:: l) h1 h2
  simp_all[eu]
def il{l:List Val}{n:Int}:fp l n=true↔(l.length:Int)=n/\∀v∈l,Rv v:=by
 simp_all[fp]
structure TopOk (p:List Mod) (f:Frm) (x:Fnc):Prop where
 fnc:fj p f.mod f.fn=some x
 pc:0<=f.pc/\f.pc<x.cod.code.length
 loc:(f.locals.length:Int)=x.cod.locals/\∀v∈f.locals,Rv v
 h0:0<=x.hts[f.pc.toNat]!
 stk:(f.stack.length:Int)=x.hts[f.pc.toNat]! /\∀v∈f.stack,Rv v
theorem pE{p:List Mod}{f:Frm}:i7 p f none=true↔∃x,TopOk p f x:=by
 unfold i7;constructor
 ·intro h;split at h
  ·cases h
  ·rename_i x hx;simp only[XJ,XI,il]at h;exact⟨x,hx,h.1.1,h.1.2,h.2.1,h.2.2⟩
 ·rintro⟨x,h1,h2,h3,h4,h5⟩;rw[h1];simp only[XJ,XI,il]
  grind
structure MidOk (p:List Mod) (f g:Frm) (x:Fnc):Prop where
 fnc:fj p f.mod f.fn=some x
 pc:0<=f.pc/\f.pc<x.cod.code.length
 loc:(f.locals.length:Int)=x.cod.locals/\∀v∈f.locals,Rv v
 ne:f.pc≠0
 stk:(f.stack.length:Int)=x.hts[f.pc.toNat]! - 1/\∀v∈f.stack,Rv v
 op:x.cod.code[(f.pc-1).toNat]!.op=14
 own:vY x.cod.code[(f.pc-1).toNat]!.m f.mod=g.mod
 fn:x.cod.code[(f.pc-1).toNat]!.s=g.fn
def CL{p:List Mod}{f g:Frm}:i7 p f (some g)=true↔∃x,MidOk p f g x:=by
 unfold i7;constructor
 ·intro h;split at h
  ·cases h
  ·rename_i x hx;simp only[XJ,XI,il]at h;exact⟨x,hx,h.1.1,h.1.2,h.2.1.1,h.2.1.2,h.2.2.1.1,h.2.2.1.2,h.2.2.2⟩
 ·rintro⟨x,h1,h2,h3,h4,h5,h6,h7,h8⟩;rw[h1];simp only[XJ,XI,il]
  grind
structure InsOk (f:Frm) (x:Fnc) (i:Ins):Prop where
 form:bP x.cod.code.length x.cod.locals i=true
 need:(aG i).1<=f.stack.length
 ret:i.op=18->f.stack.length=1
 next:∀v∈gu i f.pc,(0<=v/\v<x.cod.code.length)/\0<=x.hts[v.toNat]! /\x.hts[v.toNat]! = f.stack.length-(aG i).1+(aG i).2
def TopOk.ins{p:List Mod}{f:Frm}{x:Fnc}(H:TopOk p f x):InsOk f x x.cod.code[f.pc.toNat]!:=by
 obtain⟨h1,h2,h3⟩:=iG (lz H.fnc).hgt;have hk:f.pc.toNat<x.cod.code.length:=by have:=H.pc;omega
 obtain⟨a1,a2,a3⟩:=h1.ins _ hk H.h0;have hf:=h3 x.cod.code[f.pc.toNat]! Z7;have hb:=gt hf;have e:((f.pc.toNat:Nat):Int)=f.pc:=Int.toNat_of_nonneg H.pc.1;rw[e]at a3;exact⟨hf,by rw[H.stk.1];exact a1,fun h=>by have:=a2 h;have:=H.stk.1;omega,fun v hv=>⟨(a3 v hv).1,Z7,by rw[(a3 v hv).2,H.stk.1]⟩⟩
def XD{p:List Mod}{f:Frm}{x:Fnc}(H:TopOk p f x){v:Int}(hv:v∈gu x.cod.code[f.pc.toNat]! f.pc){g:Frm}(h1:g.mod=f.mod)(h2:g.fn=f.fn)(h3:g.pc=v)(h4:g.locals.length=f.locals.length)(h5:∀v∈g.locals,Rv v)(h6:(g.stack.length:Int)=f.stack.length-(aG x.cod.code[f.pc.toNat]!).1+(aG x.cod.code[f.pc.toNat]!).2)(h7:∀v∈g.stack,Rv v):TopOk p g x:=by
 obtain⟨a1,a2,a3⟩:=H.ins.next v hv;exact⟨by rw[h1,h2];exact H.fnc,Z7,⟨by rw[h4];exact H.loc.1,h5⟩,Z7,by rw[h3,h6,a3],h7⟩
def zR{p:List Mod}{s t:ba}{x:Fnc}(hx:fj p s t=some x){args:List Val}(ha:fp args x.cod.params=true):TopOk p ⟨s,x.cod.func,0,args++List.replicate (x.cod.locals.toNat-args.length) (cg 0),[]⟩ x:=by
 obtain⟨h1,h2,h3⟩:=iG (lz hx).hgt;obtain⟨a1,a2⟩:=il.1 ha;unfold pm at h2;simp only[XJ,XI]at h2;obtain⟨⟨⟨⟨_,b2⟩,b3⟩,b4⟩,b5⟩:=h2;have hpos:=YE.2 b5;refine⟨by rw[(lz hx).name];exact hx,⟨ZK 0,Z7⟩,⟨Z7,fun v hv=>?_⟩,by show 0<=x.hts[0]!;rw[h1.zero];grind,by show ((0:Nat):Int)=x.hts[0]!;rw[h1.zero];rfl,fun v hv=>by cases hv⟩
 grind [fD]
theorem Dx:(l:List ba)->oX eG l=true->asc l=true
 |[],_=>rfl
 |[_],_=>rfl
 |x:: y:: l,h=>by
  simp only[oX,XJ]at h;simp only[asc,XJ];exact⟨(tk x y).1 h.1,Dx (y:: l) h.2⟩
def nq{l:List Val}(h:∀v∈l,Rv v)(k:Nat):∀v∈l.take k,Rv v:=fun v hv=>h v (List.mem_of_mem_take hv)
def zm{l:List Val}{x:Val}(h:∀v∈l,Rv v)(hx:Rv x):∀v∈l++[x],Rv v:=fun v hv=>by
 grind
def nE{l:List Val}{k:Nat}(hk:k<l.length):l[k]! ∈l:=Z7
def OG{i:Ins}{len loc:Int}(hf:bP len loc i=true)(ho:i.op=12){vs:List Val}(hl:vs.length=i.names.length)(hv:∀v∈vs,Rv v)(h4:dS (.mk 2 0 i.names vs)<=4):Rv (.mk 2 0 i.names vs):=by
 have hn:jQ i.names=true:=by
  simp[bP,ho]at hf;exact hf.1.1.1
 simp only[jQ,XJ,XI]at hn
 grind [xw,Dx]
def BQ{op:Int}{a b v:Val}(h:BP op a b=some v):Rv v:=by
 grind [BP,fD,dK]
structure Keeps (p q:Proc):Prop where
 mods:q.mods=p.mods
 st:eF p.mods q.state=true
 ended:q.ended=p.ended
 out:q.out.err=p.out.err/\q.out.value=p.out.value/\q.out.state=p.out.state
def Keeps.refl{p:Proc}(h:eF p.mods p.state=true)(l:List Frm):Keeps p { p with frames:=l }:=⟨rfl,h,rfl,rfl,rfl,rfl⟩
theorem rM{α β:Type}{F:α->β->Bool}:∀ {l:List α} {r:List β} {i:Nat} {g:β->β},iW F l r=true->(∀x y,F x y=true->F x (g y)=true)->iW F l (r.modify i g)=true
 |[],[],i,g,_,_=>by cases i<;>rfl
 |x:: l,y:: r,0,g,h,hg=>by
  simp_all[iW]
 |x:: l,y:: r,i+1,g,h,hg=>by
  simp only[iW,XJ]at h;simp only[List.modify_succ_cons,iW,XJ];exact⟨h.1,rM h.2 hg⟩
 |[],_:: _,_,_,h,_=>by simp[iW]at h
 |_:: _,[],_,_,h,_=>Z7
def zx{p:List Mod}{st:List Vars}(h:eF p st=true)(i k:Nat){v:Val}(hv:Rv v):eF p (st.modify i fun w=>{ w with values:=w.values.set k v })=true:=by
 unfold eF at h|-;refine rM h fun m w hw=>?_
 grind
def Gd{p:List Mod}{st:List Vars}(h:eF p st=true){i k:Nat}(hk:k<(st[i]?.getD default).values.length):Rv (st[i]?.getD default).values[k]!:=by
 obtain⟨h1,h2,h3⟩:=ly h;cases hs:st[i]? with
 |none=>rw[hs]at hk;exact absurd hk (Nat.not_lt_zero _)
 |some w=>
  grind
def zM{p q:Proc}{fs:List Frm}{f:Frm}{x:Fnc}(hb:eF p.mods p.state=true)(hc:eu p.mods fs (some f)=true)(hl:fs.length+1<=60)(H:TopOk p.mods f x)(h18:x.cod.code[f.pc.toNat]!.op≠18)(e:mX p fs { f with pc:=f.pc+1 } x.cod.code[f.pc.toNat]! = .ok q):Keeps p q/\q.frames≠[]/\q.frames.length<=60/\gW p.mods q.frames=true:=by
 have I:=H.ins;have hgo:=@XD p.mods f x H;obtain⟨i,hi⟩:∃i,x.cod.code[f.pc.toNat]! = i:=⟨_,rfl⟩;rw[hi]at I e h18 hgo;have hs:=H.stk.2;have hnx:i.op≠10->f.pc+1∈gu i f.pc:=fun h=>by
  unfold gu
  grind
 -- frames that go on
 have fin:∀g:Frm,g.mod=f.mod->g.fn=f.fn->TopOk p.mods g x->fs++[g]≠[]/\(fs++[g]).length<=60/\gW p.mods (fs++[g])=true:=fun g h1 h2 h3=>by
  refine⟨Z8,by simp;omega,?_⟩;unfold gW;rw[iw,XJ]
  grind [mw,pE]
 have last:0<f.stack.length->Rv f.stack[f.stack.length-1]!:=fun h=>hs _ (nE Z5)
 -- a value pushed in place of some
 have push:∀(k:Nat)(v:Val),i.op≠10->(aG i).1=k->(aG i).2=1->Rv v->TopOk p.mods { f with pc:=f.pc+1,stack:=f.stack.take (f.stack.length-k)++[v] } x:=fun k v h1 h2 h3 h4=>by
  have:=I.need
  exact hgo (hnx h1) rfl rfl rfl rfl H.loc.2 Z7 (zm (nq hs _) h4)
 have K0:∀g:Frm,Keeps p { p with frames:=fs++[g] }:=fun g=>Keeps.refl hb _;unfold mX at e;simp only at e;by_cases o0:i.op=0
 ·rw[XK o0]at e;cases e;exact⟨K0 _,fin _ rfl rfl (push 0 _ Z5 (by simp[aG,o0]) (by simp[aG,o0]) (fD _))⟩
 rw[XG o0]at e;by_cases o1:i.op=1
 ·rw[XK o1]at e;cases e;exact⟨K0 _,fin _ rfl rfl (push 0 _ Z5 (by simp[aG,o1]) (by simp[aG,o1]) (dK _))⟩
 rw[XG o1]at e;by_cases o2:i.op=2
 ·rw[XK o2]at e;cases e;have hf:=I.form;simp[bP,o2]at hf;have hlo:=H.loc.1;exact⟨K0 _,fin _ rfl rfl (push 0 _ Z5 (by simp[aG,o2]) (by simp[aG,o2]) (H.loc.2 _ (nE Z5)))⟩
 rw[XG o2]at e;by_cases o3:i.op=3
 ·rw[XK o3]at e;cases e;have hn:(aG i).1=1/\(aG i).2=0:=by simp[aG,o3]
  have:=I.need
  refine⟨K0 _,fin _ rfl rfl (hgo (hnx Z5) rfl rfl rfl Z8 (fun v hv=>?_) Z7 (nq hs _))⟩;rcases ZR hv with hv|rfl
  ·exact H.loc.2 v hv
  grind
 rw[XG o3]at e;by_cases o19:i.op=19
 ·rw[XK o19]at e;cases e;have hn:(aG i).1=1/\(aG i).2=0:=by simp[aG,o19]
  have:=I.need
  exact⟨K0 _,fin _ rfl rfl (hgo (hnx Z5) rfl rfl rfl rfl H.loc.2 Z7 (nq hs _))⟩
 rw[XG o19]at e;by_cases o10:i.op=10
 ·rw[XK o10]at e;cases e;have hn:(aG i).1=0/\(aG i).2=0:=by simp[aG,o10]
  exact⟨K0 _,fin _ rfl rfl (hgo (v:=i.a) (by simp[gu,o10]) rfl rfl rfl rfl H.loc.2 Z7 hs)⟩
 rw[XG o10]at e;by_cases o11:i.op=11
 ·rw[XK o11]at e;have hn:(aG i).1=1/\(aG i).2=0:=by simp[aG,o11]
  have:=I.need
  split at e
  ·cases e;refine⟨K0 _,fin _ rfl rfl (hgo (v:=if f.stack[f.stack.length-1]!.n=0 then i.a else f.pc+1) ?_ rfl rfl rfl rfl H.loc.2 Z7 (nq hs _))⟩;unfold gu;rw[XG h18,XG o10,XK o11];split<;>simp
  ·cases e
 rw[XG o11]at e;by_cases o12:i.op=12
 ·rw[XK o12]at e;have hn:(aG i).1=i.names.length/\(aG i).2=1:=by simp[aG,o12]
  have:=I.need
  split at e
  ·rename_i h4;cases e;exact⟨K0 _,fin _ rfl rfl (push _ _ o10 hn.1 hn.2 (OG I.form o12 (by rw[ZY];omega) (fun v hv=>hs v (Za hv)) h4))⟩
  ·cases e
 rw[XG o12]at e;by_cases o14:i.op=14
 ·rw [XK o14]at e;have hn:(aG i).1=i.a/\(aG i).2=1:=by simp[aG,o14]
  have hneed:=I.need;have hb0:=(gt I.form).1;split at e
  ·cases e
  ·rename_i y hy;split at e
   ·cases e
   ·split at e
    ·cases e
    ·rename_i hpar;split at e
     ·cases e
     ·rename_i hfull;cases e;have hargs:fp (f.stack.drop (f.stack.length-i.a.toNat)) y.cod.params=true:=il.2 ⟨by rw[ZY];omega,fun v hv=>hs v (Za hv)⟩;have T:=zR hy hargs;refine⟨⟨rfl,hb,rfl,rfl,rfl,rfl⟩,by simp[Gl],by simp[Gl];omega,?_⟩;show gW p.mods ((fs++[_])++[_])=true;unfold gW;rw[iw,XJ];refine⟨?_,pE.2 ⟨y,T⟩⟩;rw[iw,XJ];refine⟨(mw p.mods fs (f:={ f with pc:=f.pc+1,stack:=f.stack.take (f.stack.length-i.a.toNat) }) (g:=f) rfl rfl).trans hc,CL.2 ⟨x,H.fnc,?_,H.loc,by have:=H.pc;grind,?_,?_,?_,?_⟩⟩
      ·obtain⟨a1,_,_⟩:=I.next _ (hnx o10);exact a1
      ·obtain⟨a1,a2,a3⟩:=I.next _ (hnx o10);refine⟨?_,nq hs _⟩;simp only[Zb];omega
      ·grind
      ·grind
      ·show x.cod.code[(f.pc+1-1).toNat]!.s=_;rw[Int.add_sub_cancel,hi];exact (lz hy).name.symm
 rw[XG o14]at e;by_cases o16:i.op=16
 ·rw[XK o16]at e;have hf:=I.form;simp[bP,o16]at hf;split at e
  ·rename_i hlt;cases e;exact⟨K0 _,fin _ rfl rfl (push 0 _ o10 (by simp[aG,o16]) (by simp[aG,o16]) (Gd hb Z5))⟩
  ·cases e
 rw[XG o16]at e;by_cases o17:i.op=17
 ·rw[XK o17]at e;have hn:(aG i).1=1/\(aG i).2=1:=by simp[aG,o17]
  have:=I.need
  split at e
  ·cases e;exact⟨⟨rfl,zx hb _ _ (last Z5),rfl,rfl,rfl,rfl⟩,fin _ rfl rfl (hgo (hnx o10) rfl rfl rfl rfl H.loc.2 Z7 hs)⟩
  ·cases e
 rw[XG o17]at e;by_cases o9:i.op=9
 ·rw[XK o9]at e;have hn:(aG i).1=1/\(aG i).2=1:=by simp[aG,o9]
  split at e
  ·cases e;exact⟨K0 _,fin _ rfl rfl (push 1 _ o10 hn.1 hn.2 (dK _))⟩
  ·cases e
 rw[XG o9]at e;by_cases o13:i.op=13
 ·rw[XK o13]at e;have hn:(aG i).1=1/\(aG i).2=1:=by simp[aG,o13]
  have:=I.need
  split at e
  ·rename_i y hy;split at e
   ·cases e;exact⟨K0 _,fin _ rfl rfl (push 1 _ o10 hn.1 hn.2 (sr (last Z5) (pj _ _ _ _ hy)))⟩
   ·cases e
  ·cases e
 rw[XG o13]at e;by_cases o15:i.op=15
 ·rw[XK o15]at e;have hn:(aG i).1=1/\(aG i).2=1:=by simp[aG,o15]
  split at e
  ·cases e;exact⟨⟨rfl,hb,rfl,rfl,rfl,rfl⟩,fin _ rfl rfl (push 1 _ o10 hn.1 hn.2 (fD _))⟩
  ·cases e
 rw[XG o15]at e;split at e
 ·rename_i v hv;cases e;have hf:=I.form;simp[bP,o0,o1,o2,o3,o10,o11,o12,o13,o14,o15,o16,o17]at hf;have hn:(aG i).1=2/\(aG i).2=1:=by
   have:=hf.1
   unfold wx at this;simp[aG]at this |-
   grind
  exact⟨K0 _,fin _ rfl rfl (push 2 _ o10 hn.1 hn.2 (BQ hv))⟩
 ·cases e
structure RightP (p:Proc):Prop where
 load:jw p.mods=0
 st:eF p.mods p.state=true
 ended:p.ended=p.frames.isEmpty
 len:p.frames.length<=60
 out:p.ended=true\/qb p.out=true
 frames:gW p.mods p.frames=true
def kz{p:Proc}:dV p=true↔RightP p:=by
 unfold dV;simp only[XJ,XI,Yt,Yy];exact⟨fun⟨⟨⟨⟨⟨h1,h2⟩,h3⟩,h4⟩,h5⟩,h6⟩=>⟨h1,h2,h3,h4,h5,h6⟩,fun⟨h1,h2,h3,h4,h5,h6⟩=>⟨⟨⟨⟨⟨h1,h2⟩,h3⟩,h4⟩,h5⟩,h6⟩⟩
def wM{p:Proc}(H:RightP p)(e:Int)(v:Val):RightP (yh p e v):=⟨H.load,H.st,rfl,X2 _,.inl rfl,rfl⟩
def kA{p:Proc}(H:RightP p)(he:p.ended=false):∃fs f x,p.frames=fs++[f]/\eu p.mods fs (some f)=true/\TopOk p.mods f x:=by
 have hne:p.frames≠[]:=fun h=>by rw[H.ended,h]at he;cases he
 refine⟨p.frames.dropLast,p.frames.getLast hne,?_⟩;have e:=Zm hne;have h:=H.frames;unfold gW at h;rw[<- e,iw,XJ]at h
 grind [pE]
def vp{p:Proc}{fs:List Frm}{f:Frm}(h:p.frames=fs++[f]):j0 p=vq p fs f:=by
 simp_all[j0]
def pD{p:Proc}(H:RightP p)(he:p.ended=false):RightP (j0 p):=by
 obtain⟨fs,f,x,h1,h2,h3⟩:=kA H he;have hlen:=H.len;rw[h1]at hlen;simp only[X1,List.length_singleton]at hlen;have hout:qb p.out=true:=H.out.resolve_left (by rw[he];simp);rw[vp h1];unfold vq;rw[h3.fnc];simp only[YS,Y2];split
 ·rename_i h18;split
  ·exact wM H _ _
  ·rename_i hne;obtain⟨gs,g,rfl⟩:∃gs g,fs=gs++[g]:=⟨fs.dropLast,fs.getLast hne,(Zm hne).symm⟩;have hg:(gs++[g])[(gs++[g]).length-1]! = g:=by rw[XN _ _ Z8];simp
   rw[hg,List.dropLast_concat];rw[iw,XJ]at h2;obtain⟨y,hy⟩:=CL.1 h2.2;have hr:=h3.ins.ret h18;refine⟨H.load,H.st,by rw[he];simp,Z7,.inr hout,?_⟩;show gW p.mods (gs++[_])=true;unfold gW;rw[iw,XJ];refine⟨(mw p.mods gs (f:={ g with stack:=g.stack++[f.stack[f.stack.length-1]!] }) (g:=g) rfl rfl).trans h2.1,pE.2 ⟨y,hy.fnc,hy.pc,hy.loc,?_,?_,?_⟩⟩
   ·have:=hy.stk.1
    grind
   ·have:=hy.stk.1
    grind
   ·exact zm hy.stk.2 (h3.stk.2 _ (nE Z5))
 ·rename_i h18;split
  ·rename_i q hq;obtain⟨k,k1,k2,k3⟩:=zM H.st h2 hlen h3 h18 hq;refine⟨by rw[k.mods];exact H.load,by rw[k.mods];exact k.st,?_,k2,.inr ?_,by rw[k.mods];exact k3⟩
   ·rw[k.ended,he]
    grind
   ·unfold qb at hout |-;rw[k.out.1,k.out.2.1,k.out.2.2];exact hout
  ·exact wM H _ _
theorem vE:∀(n:Nat){p:Proc},RightP p->RightP (jG n p)
 |0,_,H=>H
 | n+1,p,H=>by
  unfold jG;split
  ·exact H
  ·rename_i he;exact vE n (pD H (by simpa using he))
theorem Dk:∀(n:Nat){p:Proc},p.ended=true->jG n p=p
 |0,_,_=>rfl
 |n+1,p,h=>by unfold jG;rw[XK h]
def xJ{n:Nat}{p:Proc}(h:¬p.ended=true):jG (n+1) p=jG n (j0 p):=by show (if _ then _ else _)=_;rw[XG h]
def Bl{l:List Mod}{s t:ba}{args:List Val}{w:List Int}{p:Proc}(h:iN l s t args w= .ok p):RightP p/\p.ended=false:=by
 unfold iN at h;split at h
 ·cases h
 ·rename_i h0;split at h
  ·cases h
  ·rename_i st hst;split at h
   ·cases h
   ·rename_i x hx;split at h
    ·rename_i ha;cases h;refine⟨⟨Decidable.not_not.1 h0,ub hst,rfl,by simp[Gl],.inr rfl,?_⟩,rfl⟩;show eu l [_] none=true;rw[eu,XJ];exact⟨pE.2 ⟨x,zR hx ha⟩,rfl⟩
    ·cases h
def Loc(B:Int)(em:jW->jW):Prop:=∀c:jW,c.2<=B->(em c).2<=B
theorem tL(vars:List fu):∀(n:Nat)(e:Exp)(names:List ba)(B:Int),(names.length:Int)+n<=B->Loc B (bK vars n e names)
 |0,_,_,_,_=>fun c h=>h
 | n+1,e,names,B,hB=>fun c hc=>by
  have ih:=fun(x:Exp)=>tL vars n x names B Z5;have ch:∀yes no:Exp,Loc B (iF (fun x=>bK vars n x names) yes no):=fun yes no c hc=>by
   unfold iF;exact ih no _ (ih yes _ hc)
  have fo:∀l:List Exp,Loc B (fun c=>l.foldl (fun c x=>bK vars n x names c) c):=by
   intro l
   induction l with
   |nil=>exact fun c h=>h
   |cons x l ihl=>exact fun c h=>ihl _ (ih x c h)
  unfold bK;split
  ·exact hc
  split
  ·exact hc
  split
  ·exact hc
  split
  ·exact hc
  split
  ·exact ch _ _ _ (ih _ c hc)
  split
  ·exact ch _ _ _ (ih _ c hc)
  split
  ·exact ch _ _ _ (ih _ c hc)
  split
  ·have h0:=ih e.args[0]! c hc;have h3:(gJ (cD 3 names.length) (bK vars n e.args[0]! names c)).2=(bK vars n e.args[0]! names c).2:=rfl;exact tL vars n _ (names++[e.s]) B WD _ Z7
  ·exact fo e.args c hc
def dL:Nat->Exp->Nat
 |0,_=>0
 |d+1,e=>1+(e.args.map (dL d)).sum
theorem Ad(em:Exp->jW->jW)(L:Exp->Nat):∀(l:List Exp),(∀x∈l,oT (em x) (L x))->oT (fun c=>l.foldl (fun c x=>em x c) c) ((l.map L).sum)
 |[],_=>fun c=>Z8
 |x:: l,h=>fun c=>by
  have a:=h x Z8 c;have b:=Ad em L l (fun y hy=>h y (by simp[hy])) (em x c)
  grind
theorem xD{d:Nat}:∀l:List Exp,(l.map fun x=>3*dL d x).sum=3*(l.map (dL d)).sum
 |[]=>rfl
 |x:: l=>by
  have:=xD (d:=d) l
  grind
theorem Nz{n:Nat}{e:Exp}(h:e.args.length=2):dL (n+1) e=1+dL n e.args[0]! + dL n e.args[1]!:=by
 grind [List.eq_getElem_of_length_eq_two,dL]
def UH{n:Nat}{e:Exp}(h:e.args.length=3):dL (n+1) e=1+dL n e.args[0]! + dL n e.args[1]! + dL n e.args[2]!:=by
 grind [List.eq_getElem_of_length_eq_three,dL]
theorem gk(vars:List fu):∀(n:Nat)(e:Exp),cS n e=true->∀names,oT (bK vars n e names) (3*dL n e)
 |0,e,h,names=>by simp[cS]at h
 | n+1,e,h,names=>by
  have hs:im e=true:=by rw[fG,XJ]at h;exact h.1
  have hc:=jH hs;have h1:1<=dL (n+1) e:=by simp only[dL];omega
  intro c;unfold bK;have htr:∀t,1<=n->oT (bK vars n (lJ t) names) 1:=fun t hn c=>by
   obtain⟨m,rfl⟩:∃m,n=m+1:=⟨n-1,Z5⟩;rw[pf,dt];omega
  split
  ·rw[dt];omega
  split
  ·rw[dt];omega
  split
  ·rw[dt];omega
  split
  ·rw[dt];omega
  split
  ·rename_i ho;have hl:e.args.length=2:=Z5
   obtain⟨m,rfl⟩:=fe (dw h (k:=0) Z5);have a:=gk vars _ _ (dw h (k:=0) Z5) names c;have b:=iX (em:=fun x=>bK vars (m+1) x names) (gk vars _ _ (dw h (k:=1) Z5) names) (htr 0 Z5) (bK vars (m+1) e.args[0]! names c);rw[Nz hl];omega
  split
  ·rename_i ho;have hl:e.args.length=2:=Z5
   obtain⟨m,rfl⟩:=fe (dw h (k:=0) Z5);have a:=gk vars _ _ (dw h (k:=0) Z5) names c;have b:=iX (em:=fun x=>bK vars (m+1) x names) (htr 1 Z5) (gk vars _ _ (dw h (k:=1) Z5) names) (bK vars (m+1) e.args[0]! names c);rw[Nz hl];omega
  split
  ·rename_i ho;have hl:e.args.length=3:=Z5
   obtain⟨m,rfl⟩:=fe (dw h (k:=0) Z5);have a:=gk vars _ _ (dw h (k:=0) Z5) names c;have b:=iX (em:=fun x=>bK vars (m+1) x names) (gk vars _ _ (dw h (k:=1) Z5) names) (gk vars _ _ (dw h (k:=2) Z5) names) (bK vars (m+1) e.args[0]! names c);rw[UH hl];omega
  split
  ·rename_i ho;have hl:e.args.length=2:=Z5
   obtain⟨m,rfl⟩:=fe (dw h (k:=0) Z5);have a:=gk vars _ _ (dw h (k:=0) Z5) names c;have e1:=dt (cD 3 names.length) (bK vars (m+1) e.args[0]! names c);have b:=gk vars _ _ (dw h (k:=1) Z5) (names++[e.s]) ((gJ (cD 3 names.length) (bK vars (m+1) e.args[0]! names c)).1,max (gJ (cD 3 names.length) (bK vars (m+1) e.args[0]! names c)).2 (names.length+1))
   grind [Nz]
  ·have b:=Ad (fun x=>bK vars n x names) (fun x=>3*dL n x) e.args (fun x hx=>gk vars n x (gB h hx) names) c
   grind [xD,dt,dL]
end Go.Av.Ap
namespace Go.Av.Ap
def mu(m:Ms):Int:=m.deeds.length+m.calls.length+m.fuel
def TQ(k:Int){α:Type}(x:X α):Prop:=∀m a s,0<=m.fuel->x m= .ok a s->mu s<=mu m+k/\s.fuel<=m.fuel/\0<=s.fuel/\s.frames=m.frames
def EG{k:Int}{α:Type}{a:α}(hk:0<=k):TQ k (.ok a):=fun m b s h0 h=>by cases h;grind
def IZ{k:Int}{α:Type}{e:Int}:TQ k (α:=α) (.er e):=fun m b s _ h=>by cases h
def KR{j k:Int}{α β:Type}{x:X α}{f:α->X β}(hx:TQ j x)(hf:∀a,TQ k (f a)):TQ (j+k) (x.bind f):=by
 intro m b s h0 h;unfold X.bind at h;cases hr:x m with
 |er e t=>grind
 |ok a t=>
  rw[hr]at h;obtain⟨h1,h2,h3,h4⟩:=hx m a t h0 hr;obtain⟨g1,g2,g3,g4⟩:=hf a t b s h3 h
  grind
theorem eE{k:Int}{α β:Type}{x:X α}{f:α->X β}(hx:TQ 0 x)(hf:∀a,TQ k (f a)):TQ k (x.bind f):=by
 have:=KR hx hf
 grind
theorem EF{j k:Int}{α:Type}{x:X α}(h:TQ j x)(hk:j<=k):TQ k x:=fun m a s h0 e=>by
 obtain⟨h1,h2⟩:=h m a s h0 e
 grind
def dU{k:Int}{α:Type}{c:Prop}[Decidable c]{x y:X α}(h1:TQ k x)(h2:TQ k y):TQ k (if c then x else y):=by
 grind
theorem s8{r:X Val}(h:TQ 0 r):TQ 0 (boolX r):=eE h fun _=>dU (EG (ZK _)) IZ
theorem yZ{r:Exp->X Val}(h:∀e,TQ 0 (r e)):∀l,TQ 0 (listX r l)
 |[]=>EG (ZK _)
 |e:: l=>eE (h e) fun _=>eE (yZ h l) fun _=>EG (ZK _)
def qN(p:List Mod)(r:Ev)(a:Int)(f:Fun)(l:List Val)(m:Ms):jM p r a f l m=if m.frames<60 then((r a (f.params.map (·.1)) l f.body).bind fun v=>.upd (fun m=>{ m with frames:=m.frames-1 }) (.ok v)) (qM p a f l m)else .er 6 m:=by
 unfold jM X.get;by_cases h:m.frames<60
 ·simp only[h,XS];rfl
 ·simp only[h,XO];rfl
def IY{p:List Mod}{r:Ev}{a:Int}{f:Fun}{l:List Val}(hr:∀o ns vs e,TQ 0 (r o ns vs e)):TQ 1 (jM p r a f l):=by
 intro m v s h0 h;rw[qN]at h;split at h
 ·unfold X.bind at h;cases hr':r a (f.params.map (·.1)) l f.body (qM p a f l m)with
  |er e t=>grind
  |ok b t=>
   rw[hr']at h;cases h;obtain⟨h1,h2,h3,h4⟩:=hr _ _ _ _ (qM p a f l m) v t h0 hr'
   grind [mu,qM]
 ·cases h
def KS{p:List Mod}{r:Ev}(hr:∀o ns vs e,TQ 0 (r o ns vs e))(o:Int)(ns:List ba)(vs:List Val)(e:Exp):TQ 0 (qv p r o ns vs e):=by
 have tick:∀y:X Val,TQ 1 y->TQ 0 (xE y):=fun y hy m a s h0 h=>by
  unfold xE X.get at h;by_cases hf:m.fuel<=0
  ·simp only[hf,XS]at h;cases h
  ·simp only[hf,XO]at h;obtain⟨h1,h2,h3,h4⟩:=hy { m with fuel:=m.fuel-1 } a s Z7 h
   grind [mu]
 have H:=fun e=>hr o ns vs e;have ok1:∀(α:Type)(a:α),TQ 1 (.ok a):=fun _ _=>EG Z5;have er1:∀(α:Type) e,TQ 1 (α:=α) (.er e):=fun _ _=>IZ;have H1:=fun e=>EF (H e) (show (0:Int)<=1 by omega);refine tick _ ?_;refine dU (er1 _ _) (dU (ok1 _ _) (dU (dU (ok1 _ _) (er1 _ _)) (dU ?_ (dU ?_ (dU ?_ (dU ?_ (dU ?_ (dU ?_ (dU ?_ (dU ?_ (dU ?_ (dU ?_ ?_))))))))))))
 ·grind
 ·refine eE (H _) fun a=>eE (H _) fun b=>?_;unfold oY
  grind
 ·exact eE (s8 (H _)) fun a=>dU (ok1 _ _) (eE (s8 (H _)) fun b=>ok1 _ _)
 ·grind [eE,s8]
 ·simp_all[eE,s8]
 ·grind [eE,EF]
 ·unfold mT;exact dU (dU (eE (yZ H _) fun vs=>dU (ok1 _ _) (er1 _ _)) (er1 _ _)) (er1 _ _)
 ·refine eE (H _) fun v=>?_
  grind
 ·unfold tw;simp only;split
  ·exact er1 _ _
  ·exact dU (dU (eE (yZ H _) fun l=>IY hr) (er1 _ _)) (er1 _ _)
 ·unfold BG;refine eE (H _) fun v=>dU (dU (fun m a s h0 h=>?_) (er1 _ _)) (er1 _ _);cases h;simp only[mu]
  grind
 ·unfold Dj;refine dU (er1 _ _) ?_;simp only;refine dU (er1 _ _) (dU (eE (H _) fun v m a s h0 h=>?_) fun m a s h0 h=>?_)
  ·cases h;exact⟨by simp only[mu];omega,ZK _,h0,rfl⟩
  ·cases h
   grind
theorem s9{p:List Mod}:∀(n:Nat)(o:Int)(ns:List ba)(vs:List Val)(e:Exp),TQ 0 (cP p n o ns vs e)
 |0,_,_,_,_=>IZ
 |n+1,o,ns,vs,e=>KS (fun o ns vs e=>s9 n o ns vs e) o ns vs e
structure GoodM (p:List Mod) (m:Ms):Prop where
 right:xR m
 bud:mu m<=1000000
 fr:0<=m.frames/\m.frames<=60
 fuel:0<=m.fuel
 shape:∀(i:Nat)(x:Mod),p[i]? = some x->∃l,m.state[i]? = some l/\l.length=x.vars.length
theorem GoodM.eval{p:List Mod}{n:Nat}{o:Int}{ns:List ba}{vs:List Val}{e:Exp}{m s:Ms}{v:Val}(G:GoodM p m)(hs:nj ns vs)(h:cP p n o ns vs e m= .ok v s):GoodM p s/\Rv v/\s.fuel<=m.fuel:=by
 obtain⟨h1,h2,h3,h4⟩:=s9 n o ns vs e m v s G.fuel h;obtain⟨g1,g2,g3⟩:=py (p:=p) n o ns vs e hs m G.right;rw[h]at g1 g2;refine⟨⟨g1,by have:=G.bud;omega,by rw[h4];exact G.fr,h3,fun i x hx=>?_⟩,g3 v s h,h2⟩;obtain⟨l,k1,k2⟩:=G.shape i x hx;have:(nT s)[i]? = (nT m)[i]?:=by rw[show nT s=nT m from g2]
 simp only[nT,YX,k1,YS]at this
 grind
def GoodM.bool{p:List Mod}{n:Nat}{o:Int}{ns:List ba}{vs:List Val}{e:Exp}{m s:Ms}{b:Bool}(G:GoodM p m)(hs:nj ns vs)(h:boolX (cP p n o ns vs e) m= .ok b s):GoodM p s/\s.fuel<=m.fuel:=by
 unfold boolX X.bind at h;cases hr:cP p n o ns vs e m with
 |er c t=>grind
 | ok v t=>
  rw[hr]at h;simp only at h;split at h
  ·cases h;exact⟨(G.eval hs hr).1,(G.eval hs hr).2.2⟩
  ·cases h
theorem pz{v:Val}(h:Rv v):v.names.length<=8:=by
 unfold Rv cQ at h
 grind
theorem DW:∀(d:Nat)(v:Val),cQ d v=true->v.sz<=17*9 ^ d
 |0,v,h=>by simp[cQ]at h
 | d + 1,v,h=>by
  have hp:1<=9 ^ d:=Nat.one_le_pow _ _ Z6;obtain⟨k,n,ns,vs⟩:=v;unfold cQ at h;simp only[Val.sz];split at h
  ·simp only[XJ,Yt,Xv,Xt]at h
   grind [de]
  ·simp only[XJ,Yt,XY,Xv,Xt]at h;have h8:=of_decide_eq_true h.1.1.2;have hl:=h.1.1.1.2;have hv:=h.2;have key:∀l:List Val,(∀v∈l,cQ d v=true)->de l<=l.length*(17*9 ^ d):=by
    intro l
    induction l with
    |nil=>intro _;simp[de]
    |cons v l ih=>
     intro h;have h1:=DW d v (h v List.mem_cons_self)
     grind [de,Nat.add_mul]
   have h3:=key vs hv;have h4:vs.length*(17*9 ^ d)<=8*(17*9 ^ d):=XR _ Z5
   grind
theorem nP{v:Val}(h:Rv v):v.sz<=200000:=X4 (DW 4 v h) Z6
end Go.Av.Ap
namespace Go.Av.Ap
open Go Go.Av
structure PBd (p:List Mod):Prop where
 len:p.length<=1000000
 vars:∀m∈p,m.vars.length<=1000000
 code:∀s t x,fj p s t=some x->x.cod.code.length<=1000000/\x.cod.locals<=1000000
def DI{vars:List fu}{f:Fun}(F:FunOk f)(hc:dL 12 f.body<=1000):(dx vars f).code.length<=1000000/\(dx vars f).locals<=1000000:=by
 have a:=(gk vars 12 f.body F.body (f.params.map (·.1)) ([],f.params.length)).2;have p6:=F.plen;have hL:=tL vars 12 f.body (f.params.map (·.1)) 1000 WD ([],f.params.length) Z7;constructor
 ·show (gJ (cD 18 0) (bK vars 12 f.body (f.params.map (·.1)) ([],f.params.length))).1.length<=_
  grind [dt]
 ·show (bK vars 12 f.body (f.params.map (·.1)) ([],f.params.length)).2<=_;omega
def Ow{p:List Mod}(h20:p.length<=20)(hr:∀m∈p,ij m=true)(hc:∀m∈p,∀f∈m.funcs,dL 12 f.body<=1000):PBd p:=by
 refine⟨Z5,fun m hm=>?_,fun s t x hx=>?_⟩
 ·have:=(uJ (hr m hm)).vlen
  omega
 ·have F:=lz hx;obtain⟨f,_,f2,f3,_⟩:=F.fn;have hm:(p[(dI p s).toNat]?.getD default)∈p:=by
   rw[XW F.lt];exact XU F.lt
  rw[f3];exact DI ((uJ (hr _ hm)).fns f f2) (hc _ hm f f2)
structure OwnX (p q:Proc) (fs:List Frm) (f:Frm):Prop where
 mods:q.mods=p.mods
 world:q.world=p.world\/q.world=p.world.tail
 deeds:q.out.deeds=p.out.deeds\/∃d,q.out.deeds=p.out.deeds++[d]
 calls:q.out.calls=p.out.calls\/∃c:Call,q.out.calls=p.out.calls++[c]/\(∀v∈c.args,v∈f.stack)/\c.args.length<=f.stack.length
 state:q.state=p.state\/∃k v,v∈f.stack/\q.state=p.state.modify (dI p.mods f.mod).toNat fun w=>{ w with values:=w.values.set k v }
 frames:∃l:List Frm,q.frames=fs++l/\1<=l.length/\l.length<=2
def Ou{p q:Proc}{fs:List Frm}{f:Frm}{i:Ins}(e:mX p fs f i= .ok q)(h17:i.op=17->1<=f.stack.length):OwnX p q fs f:=by
 have K:∀g:Frm,OwnX p { p with frames:=fs++[g] } fs f:=fun g=>⟨rfl,.inl rfl,.inl rfl,.inl rfl,.inl rfl,⟨[g],rfl,Z8,Z8⟩⟩;unfold mX at e;simp only at e;by_cases o0:i.op=0
 ·grind
 rw[XG o0]at e;by_cases o1:i.op=1
 ·grind
 rw[XG o1]at e;by_cases o2:i.op=2
 ·grind
 rw[XG o2]at e;by_cases o3:i.op=3
 ·grind
 rw[XG o3]at e;by_cases o19:i.op=19
 ·grind
 rw[XG o19]at e;by_cases o10:i.op=10
 ·grind
 rw[XG o10]at e;by_cases o11:i.op=11
 ·grind
 rw[XG o11]at e;by_cases o12:i.op=12
 ·grind
 rw[XG o12]at e;by_cases o14:i.op=14
 ·rw [XK o14]at e;split at e
  ·cases e
  ·split at e
   ·cases e
   ·split at e
    ·cases e
    ·split at e
     ·cases e
     ·cases e;rename_i y _ _ _ _;refine⟨rfl,.inl rfl,.inl rfl,?_,.inl rfl,⟨[_,_],Yz _ _ _,Z8,Z8⟩⟩;by_cases hp:y.pub=true
      ·exact .inr ⟨⟨vY i.m f.mod,y.cod.func,f.stack.drop (f.stack.length-i.a.toNat)⟩,XK hp,fun v hv=>Za hv,Z8⟩
      ·exact .inl (XG hp)
 rw[XG o14]at e;by_cases o16:i.op=16
 ·grind
 rw[XG o16]at e;by_cases o17:i.op=17
 ·rw[XK o17]at e;split at e
  ·cases e
   have:=h17 o17
   exact⟨rfl,.inl rfl,.inl rfl,.inl rfl,.inr ⟨i.a.toNat,_,nE (show f.stack.length-1<f.stack.length by omega),rfl⟩,⟨[_],rfl,Z8,Z8⟩⟩
  ·cases e
 rw[XG o17]at e;by_cases o9:i.op=9
 ·grind
 rw[XG o9]at e;by_cases o13:i.op=13
 ·grind
 rw[XG o13]at e;by_cases o15:i.op=15
 ·rw[XK o15]at e;split at e
  ·cases e;exact⟨rfl,.inr rfl,.inr ⟨_,rfl⟩,.inl rfl,.inl rfl,⟨[_],rfl,Z8,Z8⟩⟩
  ·cases e
 grind
structure StepO (p q:Proc) (fs:List Frm) (f:Frm):Prop where
 mods:q.mods=p.mods
 world:q.world=p.world\/q.world=p.world.tail
 deeds:q.out.deeds=p.out.deeds\/∃d,q.out.deeds=p.out.deeds++[d]
 calls:q.out.calls=p.out.calls\/∃c:Call,q.out.calls=p.out.calls++[c]/\(∀v∈c.args,v∈f.stack)/\c.args.length<=f.stack.length
 state:q.state=p.state\/∃k v,v∈f.stack/\q.state=p.state.modify (dI p.mods f.mod).toNat fun w=>{ w with values:=w.values.set k v }
 frames:q.ended=true/\q.frames=[]\/q.ended=false/\fs.length<=q.frames.length/\q.frames.length<=fs.length+2/\∀m,m+1<fs.length->q.frames[m]? = p.frames[m]?
 out:q.ended=false/\q.out.err=p.out.err/\q.out.value=p.out.value/\q.out.state=p.out.state\/q.ended=true/\q.out.state=p.state/\Rv q.out.value
theorem mV:Rv default:=fD 0
def vr{p:Proc}(H:RightP p)(he:p.ended=false){fs:List Frm}{f:Frm}{x:Fnc}(hp:p.frames=fs++[f])(hc:eu p.mods fs (some f)=true)(T:TopOk p.mods f x):StepO p (j0 p) fs f:=by
 have hlen:=H.len;rw[hp]at hlen;simp only[X1,List.length_singleton]at hlen;have I:=T.ins;have E:∀e v,Rv v->StepO p (yh p e v) fs f:=fun e v hv=>⟨rfl,.inl rfl,.inl rfl,.inl rfl,.inl rfl,.inl ⟨rfl,rfl⟩,.inr ⟨rfl,rfl,hv⟩⟩;rw[vp hp];unfold vq;rw[T.fnc];simp only[YS,Y2];split
 ·rename_i h18;have hr:=I.ret h18;split
  ·exact E _ _ (T.stk.2 _ (nE Z5))
  ·rename_i hne;have hpos:=YE.2 hne;refine⟨rfl,.inl rfl,.inl rfl,.inl rfl,.inl rfl,.inr ⟨he,by simp;omega,by simp;omega,fun m hm=>?_⟩,.inl ⟨he,rfl,rfl,rfl⟩⟩
   grind
 ·rename_i h18;split
  ·rename_i q hq;have h17:x.cod.code[f.pc.toNat]!.op=17->1<=f.stack.length:=by
    have:=I.need
    generalize x.cod.code[f.pc.toNat]! = i at this;intro h;have e:(aG i).1=1:=by simp[aG,h]
    omega
   have O:=Ou hq h17;obtain⟨k,k1,k2,k3⟩:=zM H.st hc hlen T h18 hq;obtain⟨l,l1,l2,l3⟩:=O.frames;refine⟨O.mods,O.world,O.deeds,O.calls,O.state,.inr ⟨by rw[k.ended];exact he,by rw[l1];simp,Z7,fun m hm=>?_⟩,.inl ⟨by rw[k.ended];exact he,k.out.1,k.out.2.1,k.out.2.2⟩⟩
   grind
  ·exact E _ _ mV
structure SzP (k:Nat) (p:Proc):Prop where
 deeds:p.out.deeds.length<=k
 calls:p.out.calls.length<=k
 args:∀c∈p.out.calls,c.args.length<=1000000/\∀v∈c.args,v.sz<=4611686018427387904
 world:p.world.length<=1000000
 value:Rv p.out.value
 ostate:p.out.state=[]\/eF p.mods p.out.state=true
theorem SzP.mono{k n:Nat}{p:Proc}(S:SzP k p)(h:k<=n):SzP n p:=⟨X4 S.deeds h,X4 S.calls h,S.args,S.world,S.value,S.ostate⟩
def xF{p:List Mod}(P:PBd p){f:Frm}{x:Fnc}(T:TopOk p f x):f.stack.length<=1000000:=by
 obtain⟨h1,_,_⟩:=iG (lz T.fnc).hgt
 have:=h1.lo f.pc.toNat (by have:=T.pc;omega)
 have:=(P.code _ _ _ T.fnc).1
 have:=T.stk.1
 omega
def EC{p:Proc}(H:RightP p)(he:p.ended=false)(P:PBd p.mods){k:Nat}(S:SzP k p):SzP (k+1) (j0 p):=by
 obtain⟨fs,f,x,h1,h2,T⟩:=kA H he;have O:=vr H he h1 h2 T;have hst:=xF P T;have hd:=S.deeds;have hc:=S.calls;refine⟨?_,?_,?_,?_,?_,?_⟩
 ·rcases O.deeds with h|⟨d,h⟩<;>rw[h]
  all_goals grind
 ·rcases O.calls with h|⟨d,h,_⟩<;>rw[h]
  all_goals grind
 ·rcases O.calls with h|⟨d,h,g1,g2⟩<;>rw[h]
  ·exact S.args
  ·intro c hc;rcases Yl.1 hc with hc|hc
   ·exact S.args c hc
   ·rw[Yo]at hc;subst hc;exact⟨Z5,fun v hv=>X4 (nP (T.stk.2 v (g1 v hv))) Z6⟩
 ·have:=S.world
  rcases O.world with h|h<;>rw[h]
  all_goals grind
 ·rcases O.out with⟨_,_,h,_⟩|⟨_,_,h⟩
  ·rw[h];exact S.value
  ·exact h
 ·rcases O.out with⟨_,_,_,h⟩|⟨_,h,_⟩
  ·rw[h,O.mods];exact S.ostate
  ·rw[h,O.mods];exact .inr H.st
theorem Ix:∀(n:Nat){p:Proc}{k:Nat},RightP p->PBd p.mods->SzP k p->SzP (k+n) (jG n p)/\(jG n p).mods=p.mods
 |0,_,_,_,_,S=>⟨S,rfl⟩
 | n+1,p,k,H,P,S=>by
  unfold jG;split
  ·exact⟨S.mono Z5,rfl⟩
  ·rename_i he;have he:p.ended=false:=by simpa using he
   obtain⟨fs,f,x,h1,h2,T⟩:=kA H he;have hm:=(vr H he h1 h2 T).mods;obtain⟨a,b⟩:=Ix n (pD H he) Z7 (EC H he P S)
   grind
def IP{l:List Mod}{s t:ba}{args:List Val}{w:List Int}{p:Proc}(h:iN l s t args w= .ok p)(ha:args.length<=1000000)(hw:w.length<=1000000):SzP 1 p/\p.mods=l:=by
 unfold iN at h;split at h
 ·cases h
 ·split at h
  ·cases h
  ·split at h
   ·cases h
   ·rename_i x hx;split at h
    ·rename_i hr;cases h;obtain⟨_,r2⟩:=il.1 hr;refine⟨⟨X2 _,?_,?_,hw,mV,.inl rfl⟩,rfl⟩
     ·show (if _ then _ else _:List Call).length<=1
      grind
     ·intro c hc;have hc:c∈(if x.pub=true then([]:List Call)++[⟨s,x.cod.func,args⟩]else[]):=hc;have k:∀v,Rv v->v.sz<=4611686018427387904:=fun v h=>X4 (nP h) Z6
      grind
    ·cases h
theorem wH{p:List Mod}:∀ {l:List Frm} {nx:Option Frm},eu p l nx=true->∀g∈l,∃n,i7 p g n=true
 |[],_,_,_,h=>by cases h
 |f:: l,nx,hc,g,hg=>by
  rw[eu,XJ]at hc;rcases Yn.1 hg with rfl|hg
  ·grind
  ·exact wH hc.2 g hg
structure AnyF (p:List Mod) (f:Frm) (x:Fnc):Prop where
 fnc:fj p f.mod f.fn=some x
 pc:0<=f.pc/\f.pc<x.cod.code.length
 loc:(f.locals.length:Int)=x.cod.locals/\∀v∈f.locals,Rv v
 stk:(f.stack.length:Int)<=x.hts[f.pc.toNat]! /\∀v∈f.stack,Rv v
def EO{p:List Mod}{f:Frm}{n:Option Frm}(h:i7 p f n=true):∃x,AnyF p f x:=by
 cases n with
 |none=>obtain⟨x,T⟩:=pE.1 h;exact⟨x,T.fnc,T.pc,T.loc,by rw[T.stk.1];grind,T.stk.2⟩
 |some g=>obtain⟨x,T⟩:=CL.1 h;exact⟨x,T.fnc,T.pc,T.loc,by rw[T.stk.1];omega,T.stk.2⟩
def EP{p:List Mod}(P:PBd p){f:Frm}{x:Fnc}(T:AnyF p f x):f.stack.length<=1000000/\f.locals.length<=1000000:=by
 obtain⟨h1,_,_⟩:=iG (lz T.fnc).hgt
 have:=h1.lo f.pc.toNat (by have:=T.pc;omega)
 have:=P.code _ _ _ T.fnc
 have:=T.stk.1
 have:=T.loc.1
 omega
def mU{p:Proc}(H:RightP p)(P:PBd p.mods):∀f∈p.frames,(f.stack.length<=1000000/\f.locals.length<=1000000)/\(∀v∈f.stack,Rv v)/\∀v∈f.locals,Rv v:=by
 intro f hf;obtain⟨n,hn⟩:=wH (show eu p.mods p.frames none=true from H.frames) f hf;obtain⟨x,T⟩:=EO hn;exact⟨EP P T,T.stk.2,T.loc.2⟩
def jF{p:List Mod}(P:PBd p){st:List Vars}(h:eF p st=true):st.length<=1000000/\∀w∈st,w.values.length<=1000000/\∀v∈w.values,Rv v:=by
 obtain⟨h1,h2,h3⟩:=ly h;refine⟨by have:=P.len;omega,fun w hw=>⟨?_,h2 w hw⟩⟩;obtain⟨i,hi⟩:=ZC.1 hw;have hlt:i<st.length:=(XQ.1 hi).1
 have:=h3 i (p[i]'(Z5)) w (XW _) hi
 have:=P.vars _ (XU (l:=p) (n:=i) Z5)
 omega
def GR(g:Nat->Nat)(tag:Nat->Nat)(h:Hp):Nat->List Vars->List AV->Prop
 |_,[],cs=>cs=[]
 |i,w:: l,cs=>∃av rest,cs= .str w.module:: av:: rest/\dm tag (g i) h w.values av/\GR g tag h (i+1) l rest
theorem GR.keep{g:Nat->Nat}{tag tag':Nat->Nat}{ks:Nat->Prop}{h h':Hp}(K:Kp tag tag' ks h h')(hk:∀j,¬ks (g j)):{i:Nat} ->{l:List Vars} ->{cs:List AV} ->GR g tag h i l cs->GR g tag' h' i l cs
 |_,[],_,H=>H
 |i,_:: _,_,⟨av,rest,h1,h2,h3⟩=>⟨av,rest,h1,h2.keep K (hk i),h3.keep K hk⟩
theorem GR.snoc{g:Nat->Nat}{tag:Nat->Nat}{h:Hp}{w:Vars}{av:AV}:{i:Nat} ->{l:List Vars} ->{cs:List AV} ->GR g tag h i l cs->dm tag (g (i+l.length)) h w.values av->GR g tag h i (l++[w]) (cs++[.str w.module,av])
 |i,[],cs,H,ha=>by cases H;exact⟨av,[],rfl,ha,rfl⟩
 |i,d:: l,_,⟨av',rest,h1,h2,h3⟩,ha=>⟨av',rest++[.str w.module,av],by rw[h1];rfl,h2,h3.snoc Z7⟩
theorem GR.st{tag:Nat->Nat}{h:Hp}:{i:Nat} ->{l:List Vars} ->{cs:List AV} ->GR (fun i=>10+3*i) tag h i l cs->oA tag h i l cs
 |_,[],_,H=>H
 |_,_:: _,_,⟨av,rest,h1,h2,h3⟩=>⟨av,rest,h1,h2,h3.st⟩
theorem GR.vs{tag:Nat->Nat}{h:Hp}:{i:Nat} ->{l:List Vars} ->{cs:List AV} ->GR (fun _=>8) tag h i l cs->vI tag h l cs
 |_,[],_,H=>H
 |_,_:: _,_,⟨av,rest,h1,h2,h3⟩=>⟨av,rest,h1,h2,h3.vs⟩
def mA{T:TT}{t e:Nat}{ti ei:TI}(ht:T t=some ti)(hk:ti.kind= .slice e)(he:T e=some ei)(h4:ei.size=4)(hag:ei.agg=true)(hb:0<ei.bytes)(call:FuncId->List AV->M AV)(tag:Nat->Nat)(h:Hp)(l:List Val)(hc:l.length*ei.bytes<=140737488355328)(kt:Nat):
  ∃h1 tag1 rv,cz T t call [vals l] h= .ok rv h1/\Kp tag tag1 (fun _=>False) h h1/\dm tag1 kt h1 l rv:=by
 have:=nv ht hk he h4 hag hb call l hc h
 by_cases h0:l=[]
 ·rw[XK h0]at this;subst h0;exact⟨h,tag,.he,this,fun r cs hr _=>⟨hr,rfl⟩,.inl ⟨rfl,.inr rfl,rfl⟩⟩
 ·rw[XG h0]at this;refine⟨_,_,_,this,Kp.new tag h _ kt,.inr ⟨h.length,aw l,[],rfl,Z8,Z8,?_,by rw[aZ],by grind [iA],rfl⟩⟩;intro hh
  have:=Ym List.length hh
  simp[aZ]at this;exact h0 (XV Z5)
theorem tB{T:TT}{t e:Nat}{ti ei:TI}{sz:Nat}(ht:T t=some ti)(hk:ti.kind= .slice e)(he:T e=some ei)(h4:ei.size=sz)(hsz:0<sz)(hag:ei.agg=true)(hb:0<ei.bytes)(call:FuncId->List AV->M AV)(tag:Nat->Nat)(h:Hp)(l:List AV)(hok:db sz l=true)(hc:l.length*ei.bytes<=140737488355328)(kt:Nat):
  ∃h1 tag1 rv,cz T t call [.sl l] h= .ok rv h1/\Kp tag tag1 (fun _=>False) h h1/\gb tag1 kt sz l.length (fun cs=>cs=l.flatMap aa) rv h1/\(rv= .he/\l=[]\/rv= .hs h.length 0 l.length sz true/\h1=h++[l.flatMap aa]):=by
 have e1:cz T t call [.sl l] h=appH T t false .he (.sl l) h:=rfl;cases l with
 |nil=>
  refine⟨h,tag,.he,?_,fun r cs hr _=>⟨hr,rfl⟩,.inl ⟨rfl,.inr rfl,rfl⟩,.inl ⟨rfl,rfl⟩⟩
  grind [appH,fY,gU]
 | cons v l=>
  have hne:(v:: l).isEmpty=false:=rfl;have hfl:∀l:List AV,db sz l=true->(l.flatMap aa).length=l.length*sz/\(l.flatMap aa).all ay=true:=by
   intro l
   induction l with
   |nil=>grind
   | cons x l ih=>
    intro h;simp only[db,X7,XJ]at h;obtain⟨i1,i2⟩:=ih h.2;have hx:=h.1;unfold bY at hx;simp only[XJ,Yt]at hx;have hxl:(aa x).length=sz:=by
     have h1:=hx.1;cases x<;>simp only[dC,XF,reduceCtorEq]at h1<;>simp only[aa,List.length_singleton]<;>exact h1
    grind
  obtain⟨f1,f2⟩:=hfl _ hok;have key:appH T t false .he (.sl (v:: l)) h= .ok (.hs h.length 0 (v:: l).length sz true) (h++[(v:: l).flatMap aa]):=by
   unfold appH;simp only[ht,hk,he,fY,h4,hok,hb,hsz,gU,X8,YL,YH,XL,hne,XT,hag];rw[Yd hc];simp
  refine⟨_,_,_,Z7,Kp.new tag h _ kt,.inr ⟨h.length,(v:: l).flatMap aa,[],rfl,Z8,Z8,?_,f1,Z7,rfl⟩,.inr ⟨rfl,rfl⟩⟩;intro hh
  have:=Ym List.length hh
  grind [Nat.add_mul]
theorem mJ{α:Type}(F:α->Bool):∀(l:List α)(i:Int),0<=i->(l.find? F=none/\bb F l i= -1)\/∃(k:Nat)(x:α),l.find? F=some x/\l[k]? = some x/\bb F l i=i+k
 |[],i,_=>.inl ⟨rfl,rfl⟩
 | x:: l,i,hi=>by
  by_cases hx:F x=true
  ·exact .inr ⟨0,x,by simp[hx],rfl,by simp[bb,hx]⟩
  ·have e:bb F (x:: l) i=bb F l (i+1):=by simp[bb,hx]
   have e2:(x:: l).find? F=l.find? F:=by simp[hx]
   rw[e,e2];rcases mJ F l (i+1) (Z5)with⟨h1,h2⟩|⟨k,y,h1,h2,h3⟩
   ·grind
   ·exact .inr ⟨k+1,y,h1,by simpa using h2,Z5⟩
theorem w7{α:Type}(F:α->Bool)(x:α)(l:List α)(hx:F x=true):∀(A:List α)(i:Int),(∀y∈A,F y=false)->bb F (A++x:: l) i=i+A.length
 |[],i,_=>by simp[bb,hx]
 |y:: A,i,h=>by
  have hy:=h y Z8;have ih:=w7 F x l hx A (i+1) fun z hz=>h z (by simp[hz]);show (if F y=true then i else bb F (A++x:: l) (i+1))=_
  grind
theorem uj{α:Type}(F:α->Bool):∀(l:List α)(i:Int),(∀y∈l,F y=false)->bb F l i= -1
 |[],_,_=>rfl
 |y:: l,i,h=>by
  have hy:=h y Z8;show (if F y=true then i else bb F l (i+1))=_;rw[hy,XG Z6,uj F l (i+1) fun z hz=>h z (by simp[hz])]
def yo(i:Nat)(m:Mod)(f:Fun):Fnc:=⟨i,f.pub,dx m.vars f,(dq (dx m.vars f)).getD []⟩
abbrev Gp:=ba×ba×Fnc
def kh(i:Nat)(m:Mod)(fs:List Fun):List Gp:=fs.map fun f=>(m.name,f.name,yo i m f)
def aY:Nat->List Mod->List Gp
 |_,[]=>[]
 |i,m:: l=>kh i m m.funcs++aY (i+1) l
def kX(s t:ba)(e:Gp):Bool:=e.1== s&&e.2.1== t
def D4(p:List Mod):Prop:=∀m∈p,∀f∈m.funcs,(dq (dx m.vars f)).isSome=true
theorem lP(i:Nat)(m:Mod)(s t:ba):∀fs:List Fun,(kh i m fs).find? (kX s t)=if m.name=s then(fs.find? fun f=>f.name== t).map fun f=>(s,t,yo i m f)else none
 |[]=>by simp[kh]
 | f:: fs=>by
  have ih:=lP i m s t fs;unfold kh at ih |-;rw[YA,Z3,ih,Z3];by_cases h:m.name=s
  ·rw[XK h,XK h];cases hf:f.name== t with
   |true=>
    simp_all[kX]
   |false=>
    have:kX s t (m.name,f.name,yo i m f)=false:=by simp[kX,hf]
    rw[this]
  ·have:kX s t (m.name,f.name,yo i m f)=false:=by simp[kX,h]
   grind
theorem wT(s t:ba):∀(l:List Mod)(i:Nat),(∀m∈l,m.name≠s)->(aY i l).find? (kX s t)=none
 |[],_,_=>rfl
 |m:: l,i,h=>by
  rw[aY,Zh,lP,XG (h m Z8),wT s t l (i+1) fun x hx=>h x (by simp[hx])];rfl
def Hn{p:List Mod}{k:Nat}{m:Mod}(hm:p[k]? = some m)(t:ba):lS p (k:Int) t=m.funcs.find? fun f=>f.name== t:=by
 unfold lS;rw[XG Z5,XP,hm];simp only[Y2];unfold mZ;rcases mJ (fun f:Fun=>f.name== t) m.funcs 0 (Z5)with⟨h1,h2⟩|⟨j,x,h1,h2,h3⟩
 all_goals grind
theorem tW(s t:ba):∀(l A:List Mod),(∀m∈A,m.name≠s)->((A++l).map (·.name)).Nodup->D4 (A++l)->(aY A.length l).find? (kX s t)=(fj (A++l) s t).map fun x=>(s,t,x)
 | [],A,hA,_,_=>by
  have:dI (A++[]) s= -1:=uj _ _ _ fun m hm=>by
   grind
  unfold fj;rw[this];rfl
 | m:: l,A,hA,hn,hh=>by
  by_cases h:m.name=s
  ·have hat:dI (A++m:: l) s=(A.length:Int):=by
    have:=w7 (fun m:Mod=>m.name== s) m l (by simpa using h) A 0 fun x hx=>Z7
    unfold dI;rw[this];omega
   have hr:(aY (A.length+1) l).find? (kX s t)=none:=wT s t l _ fun x hx=>by
    grind
   have hg:(A++m:: l)[A.length]? = some m:=Z8
   rw[aY,Zh,lP,XK h,hr];unfold fj;rw[hat,Hn hg,XP,hg];simp only[Y2];cases hf:m.funcs.find? (fun f=>f.name== t)with
   |none=>rfl
   |some f=>
    have hs:=hh m Z8 f (List.mem_of_find?_eq_some hf);cases hx:dq (dx m.vars f)with
    |none=>grind
    |some hl=>simp[yo,hx]
  ·rw[aY,Zh,lP,XG h];have e:A++m:: l=(A++[m])++l:=Z8
   have:=tW s t l (A++[m]) (fun x hx=>by
    grind) Z7 Z7
   grind
def wV(s t:ba){p:List Mod}(hn:(p.map (·.name)).Nodup)(hh:D4 p):(aY 0 p).find? (kX s t)=(fj p s t).map fun x=>(s,t,x):=tW s t p [] (fun m hm=>by cases hm) hn hh
def Jg:List Mod->List Mod->Bool
 |_,[]=>false
 |A,m:: B=>(A.any fun x=>x.name== m.name)||Jg (A++[m]) B
theorem vC:∀(B A:List Mod),((List.range' A.length B.length).any fun i=>((A++B).take i).any fun m=>m.name== ((A++B)[i]?.getD default).name)=Jg A B
 |[],A=>rfl
 |m:: B,A=>by
  have ih:=vC B (A++[m])
  grind [List.range'_succ,Jg,List.length_singleton]
def vB(p:List Mod):vA p=Jg [] p:=by
 rw[<- vC p []]
 grind [vA]
theorem xH:∀(B A:List Mod),Jg A B=false->(A.map (·.name)).Nodup->((A++B).map (·.name)).Nodup
 |[],A,_,h=>by simpa using h
 |m:: B,A,h,hA=>by
  rw[Jg,Y8]at h;have e:A++m:: B=(A++[m])++B:=Z8
  rw[e];refine xH B (A++[m]) h.2 ?_
  grind
def sG{p:List Mod}(h:vA p=false):(p.map (·.name)).Nodup:=xH p [] (by rw[<- vB];exact h) Z8
def Df{p:Proc}(H:RightP p){fs:List Frm}{f:Frm}(hp:p.frames=fs++[f]):eu p.mods fs (some f)=true/\∃x,TopOk p.mods f x:=by
 have h:=H.frames;simp_all[gW,iw,pE]
def HV{p:Proc}(H:RightP p){fs:List Frm}{f:Frm}(hp:p.frames=fs++[f])(v:Val):dV { p with frames:=fs++[{ f with locals:=f.locals++[v] }] } = false:=by
 cases h:dV { p with frames:=fs++[{ f with locals:=f.locals++[v] }] }with
 |false=>rfl
 |true=>
  obtain⟨_,x,T⟩:=Df H hp;obtain⟨_,y,U⟩:=Df (kz.1 h) rfl;have e:some x=some y:=T.fnc.symm.trans U.fnc;have e:x=y:=Yu e;subst e;have h1:=T.loc.1;have h2:=U.loc.1
  grind
def On{p:Proc}{fs:List Frm}{f:Frm}:dV { p with frames:=fs++[{ f with pc:=-1 }] } = false:=by
 cases h:dV { p with frames:=fs++[{ f with pc:=-1 }] }with
 |false=>rfl
 |true=>
  obtain⟨_,y,U⟩:=Df (kz.1 h) rfl
  have:=U.pc.1
  grind
def Kr{p:Proc}(hp:p.frames≠[]):dV { p with ended:=true } = false:=by
 simp_all[dV]
def p0:Proc:=⟨[],[],[],[],⟨0,default,[],[],[]⟩,false⟩
theorem mm{α β:Type}[Inhabited α][Inhabited β](F:α->β->Bool):∀(a:List α)(b:List β),a.length=b.length->((List.range' 0 a.length).all fun k=>F a[k]! b[k]!)=iW F a b
 |[],[],_=>rfl
 |[],_:: _,h=>by cases h
 |_:: _,[],h=>by cases h
 |x:: a,y:: b,h=>by
  have ih:=mm F a b (by simpa using h);rw[<- ZE]at ih |-;rw[Yb,List.range_succ_eq_map,X7,List.all_map]
  grind [iW]
def mi(c:List Ins):Prop:=∀i∈c,i.names.length<=1000000
def jq{i:Ins}{c:jW}(hi:i.names.length<=1000000)(h:mi c.1):mi (gJ i c).1:=by
 intro x hx;rcases Yl.1 hx with hx|hx
 ·exact h x hx
 grind
def Ey{c:List Ins}(h:mi c)(k:Nat)(n:Int):mi (rB c k n):=by
 intro x hx;unfold rB at hx;rcases Ya k c.length with hk|hk
 ·rcases ZR hx with hx|rfl
  ·exact h x hx
  ·rw[XN c k hk];exact h c[k] (XU hk)
 ·rw[List.set_eq_of_length_le hk]at hx;exact h x hx
theorem qJ{em:Exp->jW->jW}{yes no:Exp}(h1:∀c,mi c.1->mi (em yes c).1)(h2:∀c,mi c.1->mi (em no c).1)(c:jW)(h:mi c.1):mi (iF em yes no c).1:=by
 unfold iF;exact Ey (h2 _ (Ey (jq (X2 _) (h1 _ (jq (X2 _) h))) _ _)) _ _
theorem DY(em:Exp->jW->jW):∀(l:List Exp),(∀x∈l,∀c,mi c.1->mi (em x c).1)->∀c:jW,mi c.1->mi (l.foldl (fun c x=>em x c) c).1
 |[],_,c,h=>h
 |x:: l,ha,c,h=>DY em l (fun y hy=>ha y (by simp[hy])) (em x c) (ha x Z8 c h)
def Ie(vars:List fu){e:Exp}(h:e.op=13->e.names.length<=1000000):(rn vars e).names.length<=1000000:=by
 unfold rn
 repeat' split
 all_goals first
  |exact X2 _
  |exact h (by assumption)
theorem DL(vars:List fu):∀(n:Nat)(e:Exp),cS n e=true->∀names (c:jW),mi c.1->mi (bK vars n e names c).1
 |0,e,h,names,c,hc=>by simp[cS]at h
 | n+1,e,h,names,c,hc=>by
  have hs:im e=true:=by rw[fG,XJ]at h;exact h.1
  have hcs:=jH hs;have h8:=Dw hs;have ih:=fun(x:Exp) (hx:cS n x=true) (nm:List ba) (c:jW) (hc:mi c.1)=>DL vars n x hx nm c hc;have htr:∀t (c:jW),mi c.1->mi (bK vars n (lJ t) names c).1:=fun t c hc=>by
   cases n with
   |zero=>exact hc
   |succ m=>rw[pf];exact jq (X2 _) hc
  unfold bK;split
  ·exact jq (X2 _) hc
  split
  ·exact jq (X2 _) hc
  split
  ·exact jq (X2 _) hc
  split
  ·exact jq (X2 _) hc
  split
  ·exact qJ (em:=fun x=>bK vars n x names) (ih _ (dw h (k:=1) Z5) names) (htr 0) _ (ih _ (dw h (k:=0) Z5) names c hc)
  split
  ·exact qJ (em:=fun x=>bK vars n x names) (htr 1) (ih _ (dw h (k:=1) Z5) names) _ (ih _ (dw h (k:=0) Z5) names c hc)
  split
  ·grind [qJ,dw]
  split
  ·exact ih _ (dw h (k:=1) Z5) _ _ (jq (X2 _) (ih _ (dw h (k:=0) Z5) names c hc))
  ·refine jq (Ie vars fun h13=>?_) (DY (fun x=>bK vars n x names) e.args (fun x hx=>ih x (gB h hx) names) c hc)
   grind
def GT{vars:List fu}{f:Fun}(F:FunOk f):(dx vars f).code.length<=1000000000000/\∀i∈(dx vars f).code,i.names.length<=1000000:=by
 constructor
 ·have:=(cJ vars 12 f.body F.body (f.params.map (·.1)) ([],f.params.length)).2
  have hcap:oD 12<=99000000000:=by simp[oD]
  show (gJ (cD 18 0) (bK vars 12 f.body (f.params.map (·.1)) ([],f.params.length))).1.length<=_
  grind [dt]
 ·exact jq (X2 _) (DL vars 12 f.body F.body _ _ (fun i hi=>by cases hi))
structure PR (L:MLay) (p:Proc) (h:Hp) (row:List AV):Prop where
 rw_:h[L.rm]? = some row
 en:row[12]? = some (.bool p.ended)
 len:13<=row.length
 ok:(row.take 13).all ay=true
 frz:Go.Av.frz 6 h (.agg (row.take 13))=p.av
def MRG.pr{Q:StP}{L:MLay}{tag:Nat->Nat}{sv fv dv cv:AV}{vc:List AV}{p:Proc}{h:Hp}(H:MRG Q L tag sv fv dv cv vc p h)(c1:cl (qU 5 h) sv=bn p.state)(o1:ay sv=true):PR L p h (fF L p sv fv dv cv vc):=by
 refine⟨H.row,oh H.vo.len 3,by rw[l6 H.vo.len];decide,?_,H.frzQ c1⟩;have hv:vc.all ay=true:=by
  rcases H.vo with rfl|⟨_,rfl⟩
  ·have:=d3 p.out.value
   simp_all[bY]
  ·rfl
 obtain⟨a,b,c,d,rfl⟩:∃a b c d,vc=[a,b,c,d]:=by
  have:=H.vo.len
  match vc,this with
  |[a,b,c,d],_=>grind
 simp only[X7,ZH,YH,XJ]at hv;obtain⟨h1,h2,h3,h4⟩:=hv;show (ay (Go.Av.Ap.mods p.mods)&&(ay sv&&(ay fv&&(ay (ints p.world)&&(ay (.int .i64 p.out.err)&&(ay a&&(ay b&&(ay c&&(ay d&&(ay dv&&(ay cv&&(ay .hn&&(ay (.bool p.ended)&&true)))))))))))))=true;rw[o1,H.fr.okC,H.ds.okC,H.cs.okC,h1,h2,h3,h4];rfl
def XE{L:MLay}{tag:Nat->Nat}{sv fv dv cv:AV}{vc:List AV}{p:Proc}{h:Hp}(H:MR L tag sv fv dv cv vc p h):PR L p h (fF L p sv fv dv cv vc):=H.pr (pJ (d:=4) H.sth) H.sth.okC
def I9.pr{L:MLay}{p:Proc}{h:Hp}(H:I9 L p h):∃row,PR L p h row:=by
 have H':=H;obtain⟨tag,sv,dv,cv,ov,E,S,he,hf⟩:=H;obtain⟨row,r1,r2,r3⟩:=I9.frz H';have e:row=vQ L p sv dv cv ov:=by
  have:=E.row
  rw[r1]at this;exact Yu this
 subst e;refine⟨_,r1,by rw[he];simp[vQ],r2,?_,r3⟩;have h1:(vQ L p sv dv cv ov).take 13=[Go.Av.Ap.mods p.mods,sv,.sl [],ints p.world,.int .i64 p.out.err,.int .i64 p.out.value.kind,.int .i64 p.out.value.n,strs p.out.value.names,vals p.out.value.values,dv,cv,ov,.bool true]:=by
  simp[vQ]
 rw[h1];show (ay (Go.Av.Ap.mods p.mods)&&(ay sv&&(ay (.sl [])&&(ay (ints p.world)&&(ay (.int .i64 p.out.err)&&(ay (.int .i64 p.out.value.kind)&&(ay (.int .i64 p.out.value.n)&&(ay (strs p.out.value.names)&&(ay (vals p.out.value.values)&&(ay dv&&(ay cv&&(ay ov&&(ay (.bool true)&&true)))))))))))))=true;rw[E.st.okC,E.ds.okC,E.cs.okC,S.okC];rfl
def PR.ended{L:MLay}{p:Proc}{h:Hp}{row:List AV}(H:PR L p h row){T:TT}{t:Nat}{ti:TI}(ht:T t=some ti)(ha:ti.agg=false):bg T t (.hp L.rm 12) h= .ok (.bool p.ended) h:=bT ht ha H.rw_ H.en
def PR.load{L:MLay}{p:Proc}{h:Hp}{row:List AV}(H:PR L p h row){T:TT}{t:Nat}{ti:TI}(ht:T t=some ti)(ha:ti.agg=true)(hs:ti.size=13):bg T t (.hp L.rm 0) h= .ok (.agg (row.take 13)) h:=by
 rw[lW ht ha H.rw_ (by rw[hs];have:=H.len;omega),hs,X0]
theorem PR.cells{L:MLay}{p:Proc}{h:Hp}{row:List AV}(H:PR L p h row):bH 13 [] (.agg (row.take 13))=ao (.agg (row.take 13))/\∃c0 c1 c2 c3 c4 c5 c6 c7 c8 c9 c10 c11 c12,row.take 13=[c0,c1,c2,c3,c4,c5,c6,c7,c8,c9,c10,c11,c12]:=by
 have hl:(row.take 13).length=13:=by have:=H.len;simp;omega
 have hc:=H.ok;generalize row.take 13=l at hl hc
 match l,hl with
 | [c0,c1,c2,c3,c4,c5,c6,c7,c8,c9,c10,c11,c12],_=>
  refine⟨?_,c0,c1,c2,c3,c4,c5,c6,c7,c8,c9,c10,c11,c12,rfl⟩;rw[gh (by
   show (_&&List.all [c0,c1,c2,c3,c4,c5,c6,c7,c8,c9,c10,c11,c12] ay)=true;rw[hc];rfl)]
  rfl
def PR.tup{L:MLay}{p:Proc}{h:Hp}{row:List AV}(H:PR L p h row)(e:Int):Go.Av.frz 6 h (.tup [.agg (row.take 13),.int .i64 e])= .tup [p.av,.int .i64 e]:=by
 have:=H.frz
 rw[gn]at this |-;show AV.tup [cl (qU 5 h) (.agg (row.take 13)),.int .i64 e]=_;rw[this]
@[simp] theorem GK(g:Nat->Nat->Nat->Nat->Bool->AV)(f:Frm):cl g f.av=f.av:=by
 show AV.agg (fk g [.str f.mod,.str f.fn,.int .i64 f.pc,vals f.locals,vals f.stack])=_;simp only[fk,cl,ke];rfl
@[simp] theorem JH(g:Nat->Nat->Nat->Nat->Bool->AV)(l:List Frm):cl g (gT l)=gT l:=by grind [gT,cl,gE,GK]
@[simp] theorem nY(g:Nat->Nat->Nat->Nat->Bool->AV)(p:Proc):cl g p.av=p.av:=by
 show AV.agg (fk g p.cells)=_;simp only[Proc.cells,fk,cl,lh,nX,my,ke,JH,tA,zH,zG];rfl
def fZ{m:M AV}{a r:AV}{h':Hp}(h1:m []= .ok a h')(h2:Go.Av.frz 6 h' a=r):bj m=ao r:=by
 funext h
 grind [bj,ao]
def qI(l:List Frm):(l.flatMap Frm.cells).length=l.length*5:=by
 induction l with
 |nil=>rfl
 |cons f l ih=>rw[YK,X1,ih];simp[Frm.cells];omega
def Ah{h:Hp}{r:Nat}{l:List Frm}(hr:h[r]? = some (l.flatMap Frm.cells)):frz 1 h (.hs r 0 l.length 5 true)=gT l:=by
 rw[gn];show qU 0 h r 0 l.length 5 true=_;rw[DZ hr (qI l) Z6];unfold gT;congr 1;refine iz fun i f hf=>?_;have:∀(l:List Frm)(i:Nat)(f:Frm),l[i]? = some f->((l.flatMap Frm.cells).drop (i*5)).take 5=f.cells:=by
  intro l
  induction l with
  |nil=>intro i f h;simp at h
  | cons g l ih=>
   intro i f h;cases i with
   |zero=>simp at h;subst h;simp[Frm.cells]
   |succ i=>
    have h:l[i]? = some f:=by simpa using h
    rw[<- ih i f h,YK,Zy,show (g.cells).length=5 from rfl,List.drop_of_length_le (by simp[Frm.cells];omega),Ye,show (i+1)*5-5=i*5 by omega]
 rw[this l i f hf];exact GK _ f
def Bj{T:TT}{t:Nat}{ti:TI}{h h':Hp}{r j:Nat}{fs:List Frm}{f:Frm}{v:AV}(ht:T t=some ti)(h0:h[r]? = some ((fs++[f]).flatMap Frm.cells))(hv:bY ti.size v=true)(hs:ti.size=1)(hj:j<5)(hg:h'=h.set r (fs.flatMap Frm.cells++setCells f.cells j (aa v))):bN T t (.hp r (fs.length*5+j)) v h= .ok (.tup []) h':=by
 have hle:fs.length*5+j+ti.size<=((fs++[f]).flatMap Frm.cells).length:=by
  rw[qI,hs];simp;omega
 rw[bU ht h0 hv hle Z5,hg];congr 2;have e:∀a:List AV,a.length=fs.length*5->∀b c:List AV,setCells (a++b) (fs.length*5+j) c=a++setCells b j c:=by
  intro a ha b c;unfold setCells;rw[<- ha,Zn,Zy,YO Z5,List.drop_of_length_le Z5];simp;rw[show a.length+j+c.length-a.length=j+c.length by omega]
 rw[ZJ,e _ (qI fs)];simp
def D3{p:Proc}{h:Hp}{r n:Nat}(hn:n=p.frames.length)(hr:h[r]? = some (p.frames.flatMap Frm.cells)):
  lE (.agg [Go.Av.Ap.mods p.mods,bn p.state,.hs r 0 n 5 true,ints p.world,.int .i64 p.out.err,.int .i64 p.out.value.kind,.int .i64 p.out.value.n,strs p.out.value.names,vals p.out.value.values,deeds p.out.deeds,calls p.out.calls,bn p.out.state,.bool p.ended]) h= .ok p.av (h.set r []):=by
 subst hn;show R.ok (cl (Hl h r) (.agg [Go.Av.Ap.mods p.mods,bn p.state,.hs r 0 p.frames.length 5 true,ints p.world,.int .i64 p.out.err,.int .i64 p.out.value.kind,.int .i64 p.out.value.n,strs p.out.value.names,vals p.out.value.values,deeds p.out.deeds,calls p.out.calls,bn p.out.state,.bool p.ended])) (h.set r [])=_;have e:Hl h r r 0 p.frames.length 5 true=gT p.frames:=by
  unfold Hl;rw[show Nat.beq r r=true from Nat.beq_refl r,XL,Ah hr]
 simp only[cl,fk,lh,nX,my,ke,tA,zH,zG,e];rfl
theorem BJ{T:TT}{t e:Nat}{ti ei:TI}{l:List Frm}{h:Hp}(ht:T t=some ti)(hk:ti.kind= .slice e)(he:T e=some ei)(hsz:ei.size=5)(hag:ei.agg=true)(hby:ei.bytes=88)(hl:0<l.length)(hb:l.length<=1000000):
  appH T t false .he (gT l) h= .ok (.hs h.length 0 l.length 5 true) (h++[l.flatMap Frm.cells]):=by
 have hm:(l.map Frm.av).flatMap aa=l.flatMap Frm.cells:=by
  rw[List.flatMap_map];rfl
 have hok:db 5 (l.map Frm.av)=true:=by
  simp only[db,List.all_map,XY];intro x _;rfl
 have hs:gU (gT l) 5=true:=rfl;unfold appH;rw[ht];simp only[hk,he,show fY (gT l)=some (l.map Frm.av)from rfl,hsz,hag,hby,hok,hs,YM,hm];have h0:(l.map Frm.av).isEmpty=false:=by
  cases l with
  |nil=>simp at hl
  |cons=>rfl
 rw[h0,show decide (l.length*88<=140737488355328)=true from Yd Z5];rfl
end Go.Av.Ap
