/- What the functions of the seat compute, part 9: the texts of the claim, one behind the other. Conditions: bounds, as each theorem names them. -/
import Derived.Test.YtihmmkncokjbaaaGreatDoorTh
set_option linter.defProp false
set_option linter.unusedSimpArgs false
set_option linter.unusedVariables false
namespace Go.Proofs.YtihmmkncokjbaaaGreatDoor
open Go Go.Av Go.Av.Ap
set_option maxRecDepth 100000
def F0(f:AV)(F:Fun->Bool)(l:List Fun)(hb:l.length<=4611686018427387904)(hf:∀x∈l,bu (ai pg) f [Fun.av x]=M.pure (.bool (F x))):∀(n:Nat)(i:Int),l.length-i.toNat=n->0<=i->i<=l.length->
  aj (L212_0 (ai pg) aj) [gC l,f,.int .i64 l.length,.int .i64 i]=M.pure (.int .i64 (aV F (l.drop i.toNat) i)):=by
 intro n
 induction n with
 |zero=>
  intro i hn hi hl;rw[FL212_0];simp only[L212_0];have h1:¬(i<(l.length:Int)):=by omega
  have h2:l.drop i.toNat=[]:=PD (by omega);simp[h1,h2,aV]
 |succ n ih=>
  intro i hn hi hl;have h1:i<(l.length:Int):=by omega
  have hlt:i.toNat<l.length:=by omega
  have h2:aV F (l.drop i.toNat) i=if F l[i.toNat]=true then i else aV F (l.drop (i.toNat+1)) (i+1):=by rw[PC hlt];rfl
  have h3:=hf l[i.toNat] (Px hlt);have h4:=ih (i+1) (by omega) (by omega) (by omega);rw[show (i+1).toNat=i.toNat+1 by omega]at h4;rw[FL212_0];simp only[L212_0];simp (disch:=omega) [h1,bq,yA,h3,h2];cases F l[i.toNat]
  ·simpa using h4
  ·simp
def NY(f:AV)(F:Fun->Bool)(l:List Fun)(hb:l.length<=4611686018427387904)(hc:∀g,cl g f=f)(hf:∀x∈l,bu (ai pg) f [Fun.av x]=M.pure (.bool (F x))):ai pg 212 [gC l,f]=M.pure (.int .i64 (aV F l 0)):=by
 rw[C212];simp[S212,hc,F0 f F l hb hf l.length 0 rfl (by omega) (by omega)]
def H3(s:a7)(l:List a7)(hb:l.length<=4611686018427387904):∀(n:Nat)(i:Int),l.length-i.toNat=n->0<=i->i<=l.length->
  aj (L98_0 (ai pg) aj) [strs l,.str s,.int .i64 l.length,.int .i64 i]=M.pure (.int .i64 (aV (fun x=>s== x) (l.drop i.toNat) i)):=by
 intro n
 induction n with
 |zero=>
  intro i hn hi hl;rw[FL98_0];simp only[L98_0];have h1:¬(i<(l.length:Int)):=by omega
  have h2:l.drop i.toNat=[]:=PD (by omega);simp[h1,h2,aV]
 | succ n ih=>
  intro i hn hi hl;have h1:i<(l.length:Int):=by omega
  have hlt:i.toNat<l.length:=by omega
  have h2:aV (fun x=>s== x) (l.drop i.toNat) i=if(s== l[i.toNat])=true then i else aV (fun x=>s== x) (l.drop (i.toNat+1)) (i+1):=by rw[PC hlt];rfl
  have h4:=ih (i+1) (by omega) (by omega) (by omega);rw[show (i+1).toNat=i.toNat+1 by omega]at h4;rw[FL98_0,h2];simp only[L98_0];have hix:=p7 (l:=l) (n:=i) hi h1;rw[Pz l i.toNat hlt]at hix;generalize l[i.toNat]=x at hix |-;cases hx:s== x
  ·have hw:IntKind.i64.wrap (i+1)=i+1:=bq (by omega) (by omega);simp only[aH,aM,bV,ao,h1,Qi,au,PF,hix,gw,LD9,vp,hx,Pr,PE,dj,hw,h4]
  ·simp only[aH,aM,bV,ao,h1,Qi,au,PF,hix,gw,LD9,vp,hx]
def OM(s:a7)(l:List a7)(hb:l.length<=4611686018427387904):ai pg 98 [strs l,.str s]=M.pure (.int .i64 (aV (fun x=>s== x) l 0)):=by
 have h:=H3 s l hb l.length 0 rfl (by omega) (by omega);rw[C98];have h':aj (L98_0 (ai pg) aj) [strs l,.str s,.int .i64 l.length,.int .i64 0]=M.pure (.int .i64 (aV (fun x=>s== x) l 0)):=h;simp only[S98,mW,yT,nU,ao,h',iX]
def N1(s:a7)(l:List a7)(hb:l.length<=4611686018427387904):ai pg 216 [strs l,.str s]=M.pure (.bool (l.contains s)):=by
 rw[C216];have e:l.any (fun x=>s== x)=l.contains s:=by rw[List.contains_eq_any_beq]
 simp only[S216,mW,yT,OM s l hb,aB,jZ,ao,jL,e,lV]
def bi(m:Ap.Mod)(mp:AV)(n:Int):List AV:=[.str m.name,strs m.uses,aK m.vars,bX m.init,gC m.funcs,.bool m.moves,aK m.old,bX m.forward,bX m.back,mp,.int .i64 n]
def cC(fs:List Face):List AV:=fs.map fun f=>.tup [.str f.module,f.av]
def Ob(h:Hp)(mp:AV)(fs:List Face):Prop:=(mp= .nilm/\fs=[])\/∃l,mp= .mp l/\h[l]? = some [.tup (cC fs)]
structure JR (h:Hp) (q:Nat) (m:Ap.Mod) (mp:AV) (fs:List Face) (n:Int):Prop where
 row:h[q]? = some (bi m mp n)
 map:Ob h mp fs
 ne:mp≠.mp q
def JR.set{h:Hp}{q:Nat}{m:Ap.Mod}{mp:AV}{fs:List Face}{n:Int}(R:JR h q m mp fs n)(n':Int):JR (h.set q (bi m mp n')) q m mp fs n':=by
 have hl:=(PK.1 R.row).1;refine⟨Qo hl,?_,R.ne⟩;rcases R.map with h1|⟨l,h1,h2⟩
 ·exact .inl h1
 ·refine .inr ⟨l,h1,?_⟩;rw[QE (fun e=>R.ne (by rw[h1,e]))];exact h2
def JR.same{h:Hp}{q:Nat}{m:Ap.Mod}{mp:AV}{fs:List Face}{n:Int}(R:JR h q m mp fs n):h.set q (bi m mp n)=h:=by
 obtain⟨hl,e⟩:=PK.1 R.row;rw[<- e];exact List.set_getElem_self hl
def O1{h:Hp}{q:Nat}{m:Ap.Mod}{mp:AV}(a b:Int):(h.set q (bi m mp a)).set q (bi m mp b)=h.set q (bi m mp b):=List.set_set ..
def JR.vars{h:Hp}{q:Nat}{m:Ap.Mod}{mp:AV}{fs:List Face}{n:Int}(R:JR h q m mp fs n):aW T 23 (.hp q 2) h= .ok (aK m.vars) h:=mI rfl rfl R.row rfl
def JR.funcs{h:Hp}{q:Nat}{m:Ap.Mod}{mp:AV}{fs:List Face}{n:Int}(R:JR h q m mp fs n):aW T 25 (.hp q 4) h= .ok (gC m.funcs) h:=mI rfl rfl R.row rfl
def JR.uses{h:Hp}{q:Nat}{m:Ap.Mod}{mp:AV}{fs:List Face}{n:Int}(R:JR h q m mp fs n):aW T 22 (.hp q 1) h= .ok (strs m.uses) h:=mI rfl rfl R.row rfl
def JR.mp{h:Hp}{q:Nat}{m:Ap.Mod}{mp:AV}{fs:List Face}{n:Int}(R:JR h q m mp fs n):aW T 105 (.hp q 9) h= .ok mp h:=mI rfl rfl R.row rfl
def JR.eff{h:Hp}{q:Nat}{m:Ap.Mod}{mp:AV}{fs:List Face}{n:Int}(R:JR h q m mp fs n):aW T 3 (.hp q 10) h= .ok (.int .i64 n) h:=mI rfl rfl R.row rfl
def JR.put{h:Hp}{q:Nat}{m:Ap.Mod}{mp:AV}{fs:List Face}{n:Int}(R:JR h q m mp fs n)(n':Int):bP T 3 (.hp q 10) (.int .i64 n') h= .ok (.tup []) (h.set q (bi m mp n')):=
 vo (T:=T) (t:=3) rfl (v:=.int .i64 n') R.row rfl (show 10+1<=11 by omega) (by decide)
theorem OB(a b:a7):B6 T 20 9 (.str a) (.str b)=some (a== b):=rfl
theorem qB(s:a7):(fs:List Face)->(i:Nat)->(fs.find? (fun f=>f.module== s)=none/\fo T 9 (.str s) (cC fs) i=some none)\/∃f j k,fs.find? (fun f=>f.module== s)=some f/\fo T 9 (.str s) (cC fs) i=some (some (j,k,f.av))
 |[],i=>.inl ⟨rfl,rfl⟩
 |x:: fs,i=>by
  show (_/\fo T 9 (.str s) (.tup [.str x.module,x.av]:: cC fs) i=_)\/∃f j k,_/\fo T 9 (.str s) (.tup [.str x.module,x.av]:: cC fs) i=_;unfold fo;rw[OB,List.find?_cons];have hc:(s== x.module)=(x.module== s):=QN.2 ⟨fun h=>PR.2 (PR.1 h).symm,fun h=>PR.2 (PR.1 h).symm⟩;rw[hc];cases hx:x.module== s with
  |true=>exact .inr ⟨x,i,.str x.module,rfl,rfl⟩
  |false=>exact qB s fs (i+1)
def ow{h:Hp}{mp:AV}{fs:List Face}(M:Ob h mp fs)(s:a7):fa T 105 mp (.str s) true h= .ok (.tup [((fs.find? fun f=>f.module== s).getD m8).av,.bool (fs.find? fun f=>f.module== s).isSome]) h:=by
 have e:∀es:List AV,pj T 105 es (.str s) true=(match fo T 9 (.str s) es 0 with
   |some (some (_,_,v))=>some (.tup [v,.bool true])
   |some none=>some (.tup [m8.av,.bool false])
   |none=>none):=fun es=>rfl
 rcases M with⟨rfl,rfl⟩|⟨l,rfl,hl⟩
 ·unfold fa lh;simp only;rw[e];rfl
 ·unfold fa lh;simp only[hl];rw[e];rcases qB s fs 0 with⟨h1,h2⟩|⟨f,j,k,h1,h2⟩
  ·rw[h1,h2];rfl
  ·rw[h1,h2];rfl
def NZ(f:Fun)(e:Exp):ai pg 213 [f.av,.ip (ab e.av)]=M.pure (.bool (f.name== e.s)):=by
 rw[C213];simp[S213,cl,dp]
def N0(f:Sig)(e:Exp):ai pg 215 [f.av,.ip (ab e.av)]=M.pure (.bool (f.name== e.s)):=by
 rw[C215];simp[S215,cl,dp]
structure CxOk (m:Ap.Mod) (fs:List Face):Prop where
 vlen:m.vars.length<=1000000
 vars:∀z∈m.vars,bg z.2=true
 flen:m.funcs.length<=1000000
 ulen:m.uses.length<=1000000
 plen:∀f∈m.funcs,f.params.length<=1000000
 pars:∀f∈m.funcs,∀z∈f.params,bg z.2=true
 res:∀f∈m.funcs,bg f.result=true
 slen:∀f∈fs,f.funcs.length<=140737488355328
 splen:∀f∈fs,∀s∈f.funcs,s.params.length<=140737488355328
 spars:∀f∈fs,∀s∈f.funcs,∀t∈s.params,bg t=true
 sres:∀f∈fs,∀s∈f.funcs,bg s.result=true
def CX:Sig:=⟨[],[],ty0,0⟩
def su(l:List bd)(hl:l.length<=1000000)(x3 x4 x5 x6 x7:AV)(k:Int)(fs:List bd)(e:Int):∀(n i:Nat)(acc:List Ty),l.length-i=n->i<=l.length->acc.length<=i->
  aj (L161_0 (ai pg) aj) [aK l,.int .i64 l.length,.int .i64 i,x3,x4,x5,x6,x7,.str [],im acc,.int .i64 k,aK fs,.int .i64 e]=M.pure (.tup [(Sig.mk [] (acc++(l.drop i).map (·.2)) (.mk k fs) e).av,.bool true]):=by
 intro n
 induction n with
 |zero=>
  intro i acc hn hi ha;have h1:¬((i:Int)<(l.length:Int)):=by omega
  have h2:l.drop i=[]:=PD (by omega);have h3:ay 5 [] (.agg [.str [],im acc,.int .i64 k,aK fs,.int .i64 e])=M.pure (.agg [.str [],im acc,.int .i64 k,aK fs,.int .i64 e]):=bB rfl;rw[FL161_0,h2];simp[L161_0,h1,h3];rfl
 |succ n ih=>
  intro i acc hn hi ha;have hlt:i<l.length:=by omega
  have h1:(i:Int)<(l.length:Int):=by omega
  have h2:l.drop i=l[i]:: l.drop (i+1):=PC hlt;have hw:IntKind.i64.wrap ((i:Int)+1)=(i:Int)+1:=bz (by omega);have hix:=iK (l:=l) (n:=(i:Int)) (by omega) h1;rw[PH,Pz l i hlt]at hix;have ih2:∀acc:List Ty,acc.length<=i+1->aj (L161_0 (ai pg) aj) [aK l,.int .i64 l.length,.int .i64 ((i:Int)+1),x3,x4,x5,x6,x7,.str [],im acc,.int .i64 k,aK fs,.int .i64 e]=M.pure (.tup [(Sig.mk [] (acc++(l.drop (i+1)).map (·.2)) (.mk k fs) e).av,.bool true]):=fun acc ha=>ih (i+1) acc (by omega) (by omega) ha;have ih':=ih2 (acc++[l[i].2]) (by simp;omega);have hap:=Lk (a:=acc) (b:=[l[i].2]) (by simp;omega);rw[FL161_0,h2];generalize l[i]=f at hix hap ih' |-;have hsl:aJ T 47 1 [(0,f.2.av)]=some (im [f.2]):=by cases f.2;rfl
  have hc1:∀l:List Ty,cU (im l)=M.pure (im l):=fun l=>rfl;simp[L161_0,h1,hix,hsl,hap,hc1,hw,ih']
theorem NX{h:Hp}{q:Nat}{m:Ap.Mod}{mp:AV}{fs:List Face}{n:Int}(R:JR h q m mp fs n)(K:CxOk m fs)(e:Exp):∃r,ai pg 161 [.hp q 0,e.av] h= .ok r h/\(match dk (eK m fs) e with
  |none=>r= .tup [CX.av,.bool false]
  |some s=>∃nm,r= .tup [(Sig.mk nm s.1 s.2.1 s.2.2).av,.bool true]):=by
 have bs0:aU T false 145 []=some CX.av:=rfl;have bs1:∀(k:Int)(x:List bd)(f:Int),aU T true 145 [(2,(Ty.mk k x).av),(3,.int .i64 f)]=some (.agg [.str [],.hn,.int .i64 k,aK x,.int .i64 f]):=fun k x f=>rfl;have bs2:∀(k:Int)(x:List bd)(f:Int),ay 5 [1] (.agg [.str [],.hn,.int .i64 k,aK x,.int .i64 f])=M.pure (.agg [.str [],.hn,.int .i64 k,aK x,.int .i64 f]):=fun k x f=>rfl;have nc:bo (.hp q 0)=some (.hp q 0):=rfl;rw[C161];by_cases hm:e.m=[]
 ·have hm':(e.m== [])=true:=PR.2 hm;have h1:=NY (.fn (.func 213) [] [.ip (ab e.av)]) (fun f=>f.name== e.s) m.funcs (by have:=K.flen;omega) (fun g=>by simp[cl,dp]) (fun f _=>NZ f e);simp only[a6]at h1;have l1:∀f:AV->M AV,ae (aW T 25 (.hp q 4)) f h=f (gC m.funcs) h:=fun f=>aS R.funcs f;unfold dk;rw[Ps hm];simp only[eK];rcases mG (fun f:Fun=>f.name== e.s) m.funcs 0 with⟨h2,h3⟩|⟨k,f,h2,h3,h4⟩
  ·rw[h3]at h1;rw[h2];refine⟨_,?_,rfl⟩;simp[S161,hm',l1,h1,bs0];rfl
  ·rw[Sv]at h4;rw[h4]at h1;rw[h2];have hk:=(PK.1 h3).1;have hix:=yA (l:=m.funcs) (n:=(k:Int)) (by omega) (by omega);rw[PH,Rj,h3,Rb]at hix;have hneg:¬((k:Int)<0):=by omega
   have hmem:=Qf h3;have hlp:=su f.params (K.plen f hmem) (.str []) (.sl []) (.int .i64 0) (.sl []) (.int .i64 0) f.result.kind f.result.fields f.effects f.params.length 0 [] rfl (P8 _) (P8 _);have hlp':aj (L161_0 (ai pg) aj) [aK f.params,.int .i64 f.params.length,.int .i64 0,.str [],.sl [],.int .i64 0,.sl [],.int .i64 0,.str [],.sl [],.int .i64 f.result.kind,aK f.result.fields,.int .i64 f.effects]=M.pure (.tup [(Sig.mk [] (f.params.map (·.2)) f.result f.effects).av,.bool true]):=by
    rw[Ty.eta]at hlp;exact hlp
   have bs1':aU T true 145 [(2,f.result.av),(3,.int .i64 f.effects)]=some (.agg [.str [],.hn,.int .i64 f.result.kind,aK f.result.fields,.int .i64 f.effects]):=by
    rw[<- Ty.eta f.result];rfl
   refine⟨_,?_,[],rfl⟩;simp[S161,hm',l1,h1,hneg,hix,bs1',bs2,hlp'];rfl
 ·have hm':(e.m== [])=false:=PP.2 hm;have l1:∀f:AV->M AV,ae (aW T 105 (.hp q 9)) f h=f mp h:=fun f=>aS R.mp f;have l2:∀f:AV->M AV,ae (fa T 105 mp (.str e.m) true) f h=f (.tup [((fs.find? fun f=>f.module== e.m).getD m8).av,.bool (fs.find? fun f=>f.module== e.m).isSome]) h:=fun f=>aS (ow R.map e.m) f;have l4:∀(g:AV->M (List AV))(f:List AV->M AV),ae (ae (aW T 22 (.hp q 1)) g) f h=ae (g (strs m.uses)) f h:=fun g f=>by simp only[ae,R.uses]
  have cmf:∀f:Face,aN 2 f.av=M.pure f.av:=fun f=>by rw[aY (oE f),kQ,sX]
  have hct:=N1 e.m m.uses (by have:=K.ulen;omega);cases hf:fs.find? (fun f=>f.module== e.m)with
  | none=>
   rw[hf]at l2;have hix:=t214 (.fn (.func 215) [] [.ip (ab e.av)]) (fun f=>f.name== e.s) m8.funcs (by simp[m8]) (fun g=>by simp[cl,dp]) (fun f hf=>by cases hf);have hix':ai pg 214 [sigs m8.funcs,.fn (.func 215) [] [.ip [.int .i64 e.op,.int .i64 e.n,.str e.s,.str e.m,strs e.names,bX e.args]]]=M.pure (.int .i64 (-1)):=by
    have:=hix
    simp only[a6]at this;exact this
   have z1:aN 2 m8.av=M.pure (.agg [.str [],.sl []]):=rfl;have ec:dk (eK m fs) e=none:=by simp[dk,eK,hm,hf]
   rw[ec];refine⟨_,?_,rfl⟩;simp[S161,hm',l1,l2,z1,hix',bs0];rfl
  | some f=>
   rw[hf]at l2;have hfm:=Q8 hf;have h1:=t214 (.fn (.func 215) [] [.ip (ab e.av)]) (fun f=>f.name== e.s) f.funcs (by have:=K.slen f hfm;omega) (fun g=>by simp[cl,dp]) (fun f _=>N0 f e);simp only[a6]at h1;rcases mG (fun f:Sig=>f.name== e.s) f.funcs 0 with⟨h2,h3⟩|⟨k,s,h2,h3,h4⟩
   ·rw[h3]at h1;have ec:dk (eK m fs) e=none:=by simp[dk,eK,hm,hf,h2]
    rw[ec];refine⟨_,?_,rfl⟩;simp[S161,hm',l1,l2,cmf,h1,bs0];rfl
   ·rw[Sv]at h4;rw[h4]at h1;have hk:=(PK.1 h3).1;have hix:=Dc (l:=f.funcs) (n:=(k:Int)) (by omega) (by omega);rw[PH,Rj,h3,Rb]at hix;have hneg:¬((k:Int)<0):=by omega
    by_cases hu:e.m∈m.uses
    case neg=>
     have hu':m.uses.contains e.m=false:=by rw[<- Rx,Rq];exact hu
     rw[hu']at hct;have ec:dk (eK m fs) e=none:=by simp[dk,eK,hm,hf,h2,hu]
     rw[ec];refine⟨_,?_,rfl⟩;simp[S161,hm',l1,l2,l4,cmf,h1,hneg,hct,bs0];rfl
    case pos=>
     rw[Rq.2 hu]at hct;have ec:dk (eK m fs) e=some (s.params,s.result,s.effects):=by simp[dk,eK,hm,hf,h2,hu]
     rw[ec];have yy:ay 5 [] s.av=M.pure s.av:=ug s;refine⟨_,?_,s.name,rfl⟩;simp[S161,hm',l1,l2,l4,cmf,h1,hneg,hct,hix,yy];rfl
theorem E3(k:Int)(es:List Exp):aU T false 66 [(0,.int .i64 k),(5,bX es)]=some (Exp.mk k 0 [] [] [] es).av:=rfl
def uk(e:Exp):aN 6 e.av=M.pure e.av:=by rw[aY (g9 _),a6,fX]
def ES(e:Exp):ay 6 [] e.av=M.pure e.av:=by rw[bB (g9 _),a6,fX]
def f6(o n:Int)(s m:a7)(ns:List a7)(es:List Exp):AV.agg [.int .i64 o,.int .i64 n,.str s,.str m,strs ns,bX es]=(Exp.mk o n s m ns es).av:=fX (Exp.mk o n s m ns es)
def Od(o n:Int)(s m:a7)(es:List Exp):AV.agg [.int .i64 o,.int .i64 n,.str s,.str m,.sl [],bX es]=(Exp.mk o n s m [] es).av:=fX (Exp.mk o n s m [] es)
def AU(e:Exp)(n:Int):aI (M.pure (.tup [e.av,.int .i64 n]))=M.pure (.tup [e.av,.int .i64 n]):=bI fun g=>by simp[cl,dp]
def cF(o n:Int)(s m:a7)(ns:List a7)(es:List Exp):ab (Exp.mk o n s m ns es).av=[.int .i64 o,.int .i64 n,.str s,.str m,strs ns,bX es]:=a6 _
def t210(e:Exp):ai pg 210 [e.av]=M.pure (.tup [(fC e).1.av,.int .i64 (fC e).2]):=by
 have hc1:∀n:Int,cU (.int .i64 n)=M.pure (.int .i64 n):=fun n=>rfl;have hc2:∀s:a7,cU (.str s)=M.pure (.str s):=fun s=>rfl;have hc3:∀s:List a7,cU (strs s)=M.pure (strs s):=fun s=>rfl;rw[C210];obtain⟨o,n,s,m,ns,es⟩:=e;have ho:o=0\/o=1\/o=2\/o=17\/o=18\/o=14\/o=16\/o=10\/o=12\/o=11\/o=13\/o=15\/(o≠0/\o≠1/\o≠2/\o≠17/\o≠18/\o≠14/\o≠16/\o≠10/\o≠12/\o≠11/\o≠13/\o≠15):=by omega
 rcases ho with rfl|rfl|rfl|rfl|rfl|rfl|rfl|rfl|rfl|rfl|rfl|rfl|⟨h0,h1,h2,h17,h18,h14,h16,h10,h12,h11,h13,h15⟩
 all_goals first
  | (simp[S210,K210_0,K210_1,K210_2,E3,ES,cF,f6,Od,hc1,hc2,hc3,fC,Exp.op,Exp.n,Exp.s,Exp.m,Exp.names,Exp.args]
     exact AU _ _)
  | (simp[S210,K210_0,K210_1,K210_2,E3,ES,cF,f6,Od,hc1,hc2,hc3,fC,Exp.op,Exp.n,Exp.s,Exp.m,Exp.names,Exp.args,h0,h1,h2,h17,h18,h14,h16,h10,h12,h11,h13,h15]
     exact AU _ _)
theorem FM(e:Exp)(he:e.Lim):aj (L211_0 (ai pg) aj) [.ip (ab e.av),strs e.names,.int .i64 e.names.length,.int .i64 0]=M.pure (.bool (rk e.names)):=by
 have hlen:=he.names
 have hloop:∀(m i:Nat),e.names.length-i=m->i<=e.names.length->aj (L211_0 (ai pg) aj) [.ip (ab e.av),strs e.names,.int .i64 e.names.length,.int .i64 i]=M.pure (.bool ((List.range' i (e.names.length-i)).all (fun k=>cX e.names[k]! && (decide (k=0)||eH e.names[k-1]! e.names[k]!))&&decide (e.names.length<=8))):=by
  intro m
  induction m with
  |zero=>
   intro i hm hi;rw[FL211_0,hm];have h1:¬((i:Int)<(e.names.length:Int)):=by omega
   have h2:decide ((e.names.length:Int)<=8)=decide (e.names.length<=8):=by rw[QP];omega
   simp[L211_0,h1,h2]
  | succ m ih=>
   intro i hm hi;have hlt:i<e.names.length:=by omega
   have h1:(i:Int)<(e.names.length:Int):=by omega
   have ih':=ih (i+1) (by omega) (by omega);have er:List.range' i (e.names.length-i)=i:: List.range' (i+1) (e.names.length-(i+1)):=by
    rw[show e.names.length-i=(e.names.length-(i+1))+1 by omega,RU]
   have hix:=p7 (l:=e.names) (n:=(i:Int)) (by omega) h1;rw[PH]at hix;have hw:IntKind.i64.wrap ((i:Int)+1)=((i+1:Nat):Int):=bz (by omega);have h2:=t119 e.names[i]!;rw[FL211_0,er,P5];generalize e.names[i]! = s at hix h2 |-;cases hn:cX s with
   |false=>
    rw[hn]at h2;simp[L211_0,h1,hix,h2]
   | true=>
    rw[hn]at h2;rcases Qj i with hk0|hk0
    ·subst hk0;have hix0:ak T 22 (strs e.names) (.int .i64 0)=some (.ip (ab (.str s))):=hix;have hw0:IntKind.i64.wrap 1=1:=rfl;have hlt':0<e.names.length:=hlt;simpa [L211_0,h1,hlt',hix0,h2,hw0]using ih'
    ·have hp:IntKind.i64.wrap ((i:Int)-1)=((i-1:Nat):Int):=by
      rw[bq (by omega) (by omega)];omega
     have h4:((i-1:Nat):Int)<(e.names.length:Int):=by omega
     have hix2:=p7 (l:=e.names) (n:=((i-1:Nat):Int)) (by omega) h4;rw[PH]at hix2;generalize e.names[i-1]! = g at hix2 |-;have hk2:0<(i:Int):=by omega
     have hk3:¬i=0:=by omega
     have hle:am T .leq 9 (.str s) (.str g)=some (.bool (!(eH g s))):=by
      have:am T .leq 9 (.str s) (.str g)=some (.bool (bH s g||s== g)):=rfl;rw[this];simp[eH]
     cases hs:eH g s with
     |false=>
      rw[hs]at hle;simp[L211_0,h1,hix,h2,hp,hix2,hk0,hk2,hk3,hle,-Bv]
     |true=>
      rw[hs]at hle;simpa [L211_0,h1,hix,h2,hp,hix2,hk0,hk2,hk3,hle,hw,-Bv]using ih'
 have h:=hloop e.names.length 0 rfl (P8 _);rw[Sr,An]at h;exact h
theorem t211(e:Exp)(he:e.Lim):ai pg 211 [e.av]=M.pure (.bool (fQ e)):=by
 rw[C211];have hs:=t119 e.s;have hm:=t119 e.m;have hbn:=FM e he;obtain⟨o,n,s,m,ns,es⟩:=e;simp only[cF,Exp.names]at hbn;simp only[Exp.s,Exp.m]at hs hm;have ho:o=0\/o=1\/o=2\/o=17\/o=18\/o=14\/o=16\/o=12\/o=13\/o=15\/(o≠0/\o≠1/\o≠2/\o≠17/\o≠18/\o≠14/\o≠16/\o≠12/\o≠13/\o≠15):=by omega
 rcases ho with rfl|rfl|rfl|rfl|rfl|rfl|rfl|rfl|rfl|rfl|⟨h0,h1,h2,h17,h18,h14,h16,h12,h13,h15⟩
 ·simp[S211,K211_0,cF,fQ,Exp.op,Exp.n,Exp.s,Exp.m,Exp.names,Exp.args];rfl
 ·simp[S211,K211_0,cF,fQ,Exp.op,Exp.n,Exp.s,Exp.m,Exp.names,Exp.args]
 ·simp[S211,K211_0,cF,fQ,Exp.op,Exp.n,Exp.s,Exp.m,Exp.names,Exp.args,hs]
 ·simp[S211,K211_0,cF,fQ,Exp.op,Exp.n,Exp.s,Exp.m,Exp.names,Exp.args,hs]
 ·simp[S211,K211_0,cF,fQ,Exp.op,Exp.n,Exp.s,Exp.m,Exp.names,Exp.args,hs]
 ·simp[S211,K211_0,cF,fQ,Exp.op,Exp.n,Exp.s,Exp.m,Exp.names,Exp.args,hs]
 ·simp[S211,K211_0,cF,fQ,Exp.op,Exp.n,Exp.s,Exp.m,Exp.names,Exp.args]
 ·simp[S211,K211_0,cF,fQ,Exp.op,Exp.n,Exp.s,Exp.m,Exp.names,Exp.args,hs]
 ·simp[S211,K211_0,cF,fQ,Exp.op,Exp.n,Exp.s,Exp.m,Exp.names,Exp.args,hbn]
 ·have e6:am T .leq 3 (.int .i64 es.length) (.int .i64 6)=some (.bool (decide (es.length<=6))):=by
   have:am T .leq 3 (.int .i64 es.length) (.int .i64 6)=some (.bool (decide ((es.length:Int)<=6))):=rfl;rw[this];exact Pp (fun b=>some (AV.bool b)) (QP.2 (by omega))
  cases ha:cX s with
  |false=>rw[ha]at hs;simp[S211,K211_0,cF,fQ,Exp.op,Exp.n,Exp.s,Exp.m,Exp.names,Exp.args,hs,ha]
  | true=>
   rw[ha]at hs;by_cases hme:m=[]
   ·simp[S211,K211_0,cF,fQ,Exp.op,Exp.n,Exp.s,Exp.m,Exp.names,Exp.args,hs,ha,hme,e6,-mV];try rfl
   ·cases hb:cX m with
    |false=>rw[hb]at hm;simp[S211,K211_0,cF,fQ,Exp.op,Exp.n,Exp.s,Exp.m,Exp.names,Exp.args,hs,hm,ha,hb,hme,e6,-mV];try rfl
    |true=>rw[hb]at hm;simp[S211,K211_0,cF,fQ,Exp.op,Exp.n,Exp.s,Exp.m,Exp.names,Exp.args,hs,hm,ha,hb,hme,e6,-mV];try rfl
 ·simp[S211,K211_0,cF,fQ,Exp.op,Exp.n,Exp.s,Exp.m,Exp.names,Exp.args,h0,h1,h2,h17,h18,h14,h16,h12,h13,h15]
theorem t160:∀(d:Nat),d<=100->∀(e:Exp),e.Lim->ai pg 160 [e.av,.int .i64 d]=M.pure (.bool (cB d e))
 |0,_,e,_=>by
  rw[C160];simp[S160,cB]
 | d+1,hd,e,he=>by
  have hlen:=he.len;have hd1:IntKind.i64.wrap (((d+1:Nat):Int)-1)=(d:Int):=tQ (by omega);have hloop:∀(m i:Nat),e.args.length-i=m->i<=e.args.length->aj (L160_0 (ai pg) aj) [.int .i64 ((d+1:Nat):Int),bX e.args,.int .i64 e.args.length,.int .i64 i]=M.pure (.bool ((e.args.drop i).all (cB d))):=by
   intro m
   induction m with
   |zero=>
    intro i hm hi;have h1:¬((i:Int)<(e.args.length:Int)):=by omega
    have h2:e.args.drop i=[]:=PD (by omega);rw[FL160_0,h2];simp[L160_0,h1]
   |succ m ih=>
    intro i hm hi;have hlt:i<e.args.length:=by omega
    have h1:(i:Int)<(e.args.length:Int):=by omega
    have h2:e.args.drop i=e.args[i]:: e.args.drop (i+1):=PC hlt;have hix:=kH (l:=e.args) (n:=(i:Int)) (by omega) h1;rw[PH,Pz e.args i hlt]at hix;have hw:IntKind.i64.wrap ((i:Int)+1)=((i+1:Nat):Int):=bz (by omega);have hb:=t160 d (by omega) e.args[i] (he.kid (Px hlt));have ih':=ih (i+1) (by omega) (by omega);rw[h2,P5,FL160_0];generalize e.args[i]=x at hix hb |-;cases hr:cB d x<;>rw[hr]at hb <;>
    simp only[L160_0,aH,aM,bV,ao,h1,Qi,au,PF,hix,a6,LD66,PW,Qa,PX,Nat.reduceAdd,Pw,Qv,Qx,fX,uk,aB,ue,hd1,hb,gn,Qe,P3,Pr,PE,dj,hw,ih',Sa,QJ]
  have hx':aj (L160_0 (ai pg) aj) [.int .i64 ((d:Int)+1),bX e.args,.int .i64 e.args.length,.int .i64 0]=M.pure (.bool (e.args.all (cB d))):=hloop e.args.length 0 rfl (P8 _);have hc:=t210 e;have hl:=t211 e he;rw[C160,lE];unfold lH;generalize (fC e).1=c at hc |-;generalize (fC e).2=n at hc |-;have g1:(((d:Int)+1)== 0)=false:=by rw[PP];omega
  have x0:aD (.tup [c.av,.int .i64 n]) 0=some c.av:=rfl;have x1:aD (.tup [c.av,.int .i64 n]) 1=some (.int .i64 n):=rfl;have e1:am T .neq 3 (.int .i64 c.n) (.int .i64 e.n)=some (.bool (!(c.n== e.n))):=rfl;have e2:am T .neq 9 (.str c.s) (.str e.s)=some (.bool (!(c.s== e.s))):=rfl;have e3:am T .neq 9 (.str c.m) (.str e.m)=some (.bool (!(c.m== e.m))):=rfl;have e4:am T .neq 3 (.int .i64 c.names.length) (.int .i64 e.names.length)=some (.bool (!((c.names.length:Int)== (e.names.length:Int)))):=rfl;have e5:am T .neq 3 (.int .i64 n) (.int .i64 e.args.length)=some (.bool (!(n== (e.args.length:Int)))):=rfl;have e6:am T .geq 3 (.int .i64 n) (.int .i64 0)=some (.bool (!(decide (n<0)))):=by
   have:am T .geq 3 (.int .i64 n) (.int .i64 0)=some (.bool (decide (0<=n))):=rfl;rw[this,<- decide_not];exact Pp (fun b=>some (AV.bool b)) (QP.2 (by omega))
  have e7:am T .lss 3 (.int .i64 e.op) (.int .i64 0)=some (.bool (!(decide (0<=e.op)))):=by
   have:am T .lss 3 (.int .i64 e.op) (.int .i64 0)=some (.bool (decide (e.op<0))):=rfl;rw[this,<- decide_not];exact Pp (fun b=>some (AV.bool b)) (QP.2 (by omega))
  have e8:am T .geq 3 (.int .i64 e.op) (.int .i64 19)=some (.bool (!(decide (e.op<19)))):=by
   have:am T .geq 3 (.int .i64 e.op) (.int .i64 19)=some (.bool (decide (19<=e.op))):=rfl;rw[this,<- decide_not];exact Pp (fun b=>some (AV.bool b)) (QP.2 (by omega))
  generalize (c.n== e.n)=b1 at e1 |-;generalize (c.s== e.s)=b2 at e2 |-;generalize (c.m== e.m)=b3 at e3 |-;generalize ((c.names.length:Int)== (e.names.length:Int))=b4 at e4 |-;generalize (n== (e.args.length:Int))=b5 at e5 |-;generalize decide (n<0)=b6 at e6 |-;generalize decide (0<=e.op)=b7 at e7 |-;generalize decide (e.op<19)=b8 at e8 |-;generalize fQ e=bl at hl |-;generalize e.args.all (cB d)=bx at hx' |-;cases b7 with
  |false=>simp[S160,g1,e7,-bV]
  | true=>
   cases b8 with
   |false=>simp[S160,g1,e7,e8,-bV,-jZ]
   |true=>
    cases b6<;>cases b5<;>cases b1<;>cases b2<;>cases b3<;>cases b4<;>cases bl<;>simp[S160,g1,hc,x0,x1,uk,hl,hx',e1,e2,e3,e4,e5,e6,e7,e8,-bV,-jZ,-lN]
def t121(e:Exp)(he:e.Lim):ai pg 121 [e.av]=M.pure (.bool (Bl e)):=by
 have hb':ai pg 160 [e.av,.int .i64 12]=M.pure (.bool (cB 12 e)):=t160 12 (by omega) e he;rw[C121];simp[S121,hb']
def MZ(q:Nat)(m:Ap.Mod)(mp:AV)(h:Hp):Tr Ty->Av.R AV
 |.ok t n=>.ok (.tup [t.av,.int .i64 0]) (h.set q (bi m mp n))
 |.er b n=>.ok (.tup [ty0.av,.int .i64 b]) (h.set q (bi m mp n))
def Ov(q:Nat)(m:Ap.Mod)(mp:AV)(h:Hp)(acc:List Ty):Tr (List Ty)->Av.R AV
 |.ok ts n=>.ok (.tup [im (acc++ts),.int .i64 0]) (h.set q (bi m mp n))
 |.er b n=>.ok (.tup [.sl [],.int .i64 b]) (h.set q (bi m mp n))
def mw(q:Nat)(m:Ap.Mod)(mp:AV)(fs:List Face)(d:Nat):Prop:=∀(ls:List bd)(e:Exp)(n:Int)(h:Hp),cB d e=true->e.Lim->(∀z∈ls,eD z.2)->ls.length+d<=1000000->JR h q m mp fs n->
 ai pg 78 [.hp q 0,aK ls,e.av] h=MZ q m mp h (bL (eK m fs) d ls e n)/\∀t n',bL (eK m fs) d ls e n= .ok t n'->eD t
def FZ{q:Nat}{m:Ap.Mod}{mp:AV}{fs:List Face}{d:Nat}(P:mw q m mp fs d)(ls:List bd)(hls:∀z∈ls,eD z.2)(hll:ls.length+d<=1000000)(es:List Exp)(hes:es.length<=140737488355328)(he:∀e∈es,cB d e=true/\e.Lim):∀(k i:Nat)(acc:List Ty)(n:Int)(h:Hp),es.length-i=k->i<=es.length->acc.length<=i->es.length<=1000000->JR h q m mp fs n->
  aj (L127_0 (ai pg) aj) [.hp q 0,aK ls,im acc,bX es,.int .i64 es.length,.int .i64 i] h=Ov q m mp h acc (dh (bL (eK m fs) d ls) (es.drop i) n)/\∀ts n',dh (bL (eK m fs) d ls) (es.drop i) n= .ok ts n'->ts.length=es.length-i/\∀t∈ts,eD t:=by
 intro k
 induction k with
 | zero=>
  intro i acc n h hk hi ha hs R;have h1:¬((i:Int)<(es.length:Int)):=by omega
  have h2:es.drop i=[]:=PD (by omega);rw[h2];refine⟨?_,fun ts n' ht=>?_⟩
  ·rw[FL127_0];show _=Av.R.ok (AV.tup [im (acc++[]),.int .i64 0]) (h.set q (bi m mp n));rw[R.same,Qm];simp[L127_0,h1];rfl
  ·cases ht;exact⟨by simp;omega,fun t ht=>by cases ht⟩
 | succ k ih=>
  intro i acc n h hk hi ha hs R;have hlt:i<es.length:=by omega
  have h1:(i:Int)<(es.length:Int):=by omega
  have h2:es.drop i=es[i]:: es.drop (i+1):=PC hlt;have hw:IntKind.i64.wrap ((i:Int)+1)=(i:Int)+1:=bz (by omega);have hix:=kH (l:=es) (n:=(i:Int)) (by omega) h1;rw[PH,Pz es i hlt]at hix;obtain⟨hr,hl⟩:=he es[i] (Px hlt);obtain⟨p1,p2⟩:=P ls es[i] n h hr hl hls hll R;rw[h2];have hne:=iy (eK m fs) d ls es[i] n;generalize es[i]=e at hix hr hl p1 p2 hne |-;generalize hcode:aj (L127_0 (ai pg) aj) [.hp q 0,aK ls,im acc,bX es,.int .i64 es.length,.int .i64 i] h=code;rw[FL127_0]at hcode;simp -implicitDefEqProofs only[L127_0,aH,aM,bV,ao,h1,Qi,au,PF,hix,a6,LD66,PW,Qa,PX,Nat.reduceAdd,Pw,Qv,Qx,fX,uk,aB]at hcode;cases ht:bL (eK m fs) d ls e n with
  | er b n'=>
   rw[ht]at p1;have hb:(b != 0)=true:=QL.2 (hne b n' ht);have hz:aN 2 ty0.av=M.pure ty0.av:=Av.jE ty0;rw[aS p1]at hcode;simp -implicitDefEqProofs only[aR,Pu,PM,ao,hz,aB,lN,hb,au,PF]at hcode;have e1:dh (bL (eK m fs) d ls) (e:: es.drop (i+1)) n= .er b n':=by
    simp only[dh,dE.bind,ht]
   rw[e1];exact⟨hcode.symm,fun ts n'' h3=>by cases h3⟩
  | ok t n'=>
   rw[ht]at p1;rw[aS p1]at hcode;have R':=R.set n';obtain⟨i1,i2⟩:=ih (i+1) (acc++[t]) n' (h.set q (bi m mp n')) (by omega) (by omega) (by simp;omega) hs R';have hap:=Lk (a:=acc) (b:=[t]) (by simp;omega);have hsl:aJ T 47 1 [(0,t.av)]=some (im [t]):=by cases t;rfl
   have i1':aj (L127_0 (ai pg) aj) [.hp q 0,aK ls,im (acc++[t]),bX es,.int .i64 es.length,.int .i64 ((i:Int)+1)] (h.set q (bi m mp n'))=_:=i1;simp -implicitDefEqProofs only[aR,Pu,PM,ao,Av.jE,aB,lN,bne_self_eq_false,au,Pr,PE,fL,LD35,PW,Qa,PX,Nat.reduceAdd,Pw,PF,Qv,Qx,gS,hsl,hap,dj,hw,i1']at hcode;have e1:dh (bL (eK m fs) d ls) (e:: es.drop (i+1)) n=(match dh (bL (eK m fs) d ls) (es.drop (i+1)) n' with|.ok ts n''=>.ok (t:: ts) n''|.er b n''=>.er b n''):=by
    simp only[dh,dE.bind,ht];cases dh (bL (eK m fs) d ls) (es.drop (i+1)) n'<;>rfl
   rw[e1];cases hL:dh (bL (eK m fs) d ls) (es.drop (i+1)) n' with
   |er b n''=>
    rw[hL]at hcode;refine⟨?_,fun ts n'' h3=>by cases h3⟩;rw[<- hcode];show Av.R.ok _ _=Av.R.ok _ _;rw[O1]
   | ok ts n''=>
    rw[hL]at hcode;obtain⟨j1,j2⟩:=i2 ts n'' hL;refine⟨?_,fun us n3 h3=>?_⟩
    ·rw[<- hcode];show Av.R.ok _ _=Av.R.ok _ _;rw[O1,Qq];rfl
    ·cases h3;refine⟨by simp only[PW];omega,fun u hu=>?_⟩;rcases P0.1 hu with rfl|hu
     ·exact p2 _ _ ht
     ·exact j2 u hu
def ML{q:Nat}{m:Ap.Mod}{mp:AV}{fs:List Face}{d:Nat}(P:mw q m mp fs d)(ls:List bd)(hls:∀z∈ls,eD z.2)(hll:ls.length+d<=1000000)(es:List Exp)(hes:es.length<=1000000)(he:∀e∈es,cB d e=true/\e.Lim)(n:Int)(h:Hp)(R:JR h q m mp fs n):
  ai pg 127 [.hp q 0,aK ls,bX es] h=Ov q m mp h [] (dh (bL (eK m fs) d ls) es n)/\∀ts n',dh (bL (eK m fs) d ls) es n= .ok ts n'->ts.length=es.length/\∀t∈ts,eD t:=by
 obtain⟨h1,h2⟩:=FZ P ls hls hll es (by omega) he es.length 0 [] n h rfl (P8 _) (P8 _) hes R;rw[PT]at h1 h2;refine⟨?_,fun ts n' ht=>h2 ts n' ht⟩;rw[<- h1,C127];simp only[S127,tU,ao];rfl
theorem r8:aU T false 35 []=some ty0.av:=rfl
def jY{u t:Ty}(hu:eD u)(ht:bg t=true):ai pg 72 [u.av,t.av]=M.pure (.bool (cd u t)):=t72 4 t u (hu 4) (fH ht 4) ht
def NV{q:Nat}{m:Ap.Mod}{mp:AV}{fs:List Face}{d:Nat}(P:mw q m mp fs d)(K:CxOk m fs)(ls:List bd)(hls:∀z∈ls,eD z.2)(hll:ls.length+d<=1000000)(e:Exp)(hop:e.op=17\/e.op=18)(ha:e.op=18->∃x,e.args=[x]/\cB d x=true/\x.Lim)(n:Int)(h:Hp)(R:JR h q m mp fs n):
  ai pg 125 [.hp q 0,aK ls,e.av] h=MZ q m mp h (cr (eK m fs) (bL (eK m fs) d) ls e n)/\∀t n',cr (eK m fs) (bL (eK m fs) d) ls e n= .ok t n'->eD t:=by
 have l1:∀f:AV->M AV,ae (aW T 23 (.hp q 2)) f h=f (aK m.vars) h:=fun f=>aS R.vars f;have hk:=t112 m.vars (by have:=K.vlen;omega) e.s;rw[zV hop,C125];show S125 (ai pg) aj (.hp q 0) (aK ls) e.av h=MZ q m mp h ((match bW (fun z=>z.1== e.s) m.vars with
  |none=>dE.er 12
  |some z=>if e.op=18 then dE.bind (bL (eK m fs) d ls e.args[0]!) fun u=>if cd u z.2=true then dE.ok z.2 else dE.er 13 else dE.ok z.2:dE Ty) n)/\∀t n',(match bW (fun z=>z.1== e.s) m.vars with
  |none=>dE.er 12
  |some z=>if e.op=18 then dE.bind (bL (eK m fs) d ls e.args[0]!) fun u=>if cd u z.2=true then dE.ok z.2 else dE.er 13 else dE.ok z.2:dE Ty) n= .ok t n'->eD t
 cases hz:bW (fun z:bd=>z.1== e.s) m.vars with
 |none=>
  rw[hz]at hk;refine⟨?_,fun t n' h3=>by cases h3⟩;show _=Av.R.ok (AV.tup [ty0.av,.int .i64 12]) (h.set q (bi m mp n));rw[R.same];simp[S125,l1,hk,r8];rfl
 | some z=>
  rw[hz]at hk;dsimp only;have hzr:=K.vars z (iD hz).1;rcases hop with hop|hop
  ·rw[if_neg (show ¬e.op=18 by omega)];refine⟨?_,fun t n' h3=>by cases h3;exact fH hzr⟩;show _=Av.R.ok (AV.tup [z.2.av,.int .i64 0]) (h.set q (bi m mp n));rw[R.same];simp[S125,K125_0,l1,hk,hop];rfl
  ·rw[Ps hop];obtain⟨x,hx,hr,hl⟩:=ha hop;have hx0:e.args[0]! = x:=by rw[hx];rfl
   obtain⟨p1,p2⟩:=P ls x n h hr hl hls hll R;have hix:ak T 24 (bX e.args) (.int .i64 0)=some (.ip (ab x.av)):=by
    have:=kH (l:=e.args) (n:=0) (by omega) (by rw[hx];simp)
    rw[this,hx];rfl
   rw[hx0];have hne:=iy (eK m fs) d ls x n;cases ht:bL (eK m fs) d ls x n with
   |er b n'=>
    rw[ht]at p1;have hb:(b != 0)=true:=QL.2 (hne b n' ht);have k1:∀f:AV->M AV,ae (ai pg 78 [.hp q 0,aK ls,x.av]) f h=f (.tup [ty0.av,.int .i64 b]) (h.set q (bi m mp n')):=fun f=>aS p1 f;have e1:dE.bind (bL (eK m fs) d ls x) (fun u=>if cd u z.2=true then dE.ok z.2 else dE.er 13) n= .er b n':=by simp only[dE.bind,ht]
    rw[e1];refine⟨?_,fun t n' h3=>by cases h3⟩;show _=Av.R.ok (AV.tup [ty0.av,.int .i64 b]) (h.set q (bi m mp n'));simp[S125,K125_0,l1,hk,hop,hix,k1,hb,r8];rfl
   | ok u n'=>
    rw[ht]at p1;have hus:=p2 u n' ht;have k1:∀f:AV->M AV,ae (ai pg 78 [.hp q 0,aK ls,x.av]) f h=f (.tup [u.av,.int .i64 0]) (h.set q (bi m mp n')):=fun f=>aS p1 f;have hbl:=jY hus hzr;cases hb:cd u z.2 with
    |true=>
     rw[hb]at hbl;have e1:dE.bind (bL (eK m fs) d ls x) (fun u=>if cd u z.2=true then dE.ok z.2 else dE.er 13) n= .ok z.2 n':=by simp only[dE.bind,ht,hb,PF];rfl
     rw[e1];refine⟨?_,fun t n' h3=>by cases h3;exact fH hzr⟩;show _=Av.R.ok (AV.tup [z.2.av,.int .i64 0]) (h.set q (bi m mp n'));simp[S125,K125_0,l1,hk,hop,hix,k1,hbl];rfl
    |false=>
     rw[hb]at hbl;have e1:dE.bind (bL (eK m fs) d ls x) (fun u=>if cd u z.2=true then dE.ok z.2 else dE.er 13) n= .er 13 n':=by simp only[dE.bind,ht,hb,Pr,PE];rfl
     rw[e1];refine⟨?_,fun t n' h3=>by cases h3⟩;show _=Av.R.ok (AV.tup [ty0.av,.int .i64 13]) (h.set q (bi m mp n'));simp[S125,K125_0,l1,hk,hop,hix,k1,hbl,r8];rfl
theorem FY{q:Nat}{m:Ap.Mod}{mp:AV}{fs:List Face}{n:Int}{h:Hp}(R:JR h q m mp fs n)(s:Sig)(l:List Ty)(hl:∀t∈l,eD t)(hps:∀t∈s.params,bg t=true)(hlen:l.length=s.params.length)(hb:l.length<=1000000)(x y:AV):∀(k i:Nat),l.length-i=k->i<=l.length->
  aj (L126_0 (ai pg) aj) [.hp q 0,.ip (ab s.av),im l,.int .i64 l.length,.int .i64 i,x,y] h=(if cj cd (l.drop i) (s.params.drop i)=true then .ok (.tup [s.result.av,.int .i64 0]) (h.set q (bi m mp (nG n s.effects)))else .ok (.tup [ty0.av,.int .i64 13]) h):=by
 intro k
 induction k with
 |zero=>
  intro i hk hi;have h1:¬((i:Int)<(l.length:Int)):=by omega
  have h2:l.drop i=[]:=PD (by omega);have h3:s.params.drop i=[]:=PD (by omega);rw[h2,h3,Ps (show cj cd [] []=true from rfl)];have l1:∀f:AV->M AV,ae (aW T 3 (.hp q 10)) f h=f (.int .i64 n) h:=fun f=>aS R.eff f;have l2:∀f:AV->M AV,ae (bP T 3 (.hp q 10) (.int .i64 (nG n s.effects))) f h=f (.tup []) (h.set q (bi m mp (nG n s.effects))):=fun f=>aS (R.put _) f;have hor:am T .or 3 (.int .i64 n) (.int .i64 s.effects)=some (.int .i64 (nG n s.effects)):=rfl;rw[FL126_0];simp[L126_0,h1,l1,hor,l2];rfl
 | succ k ih=>
  intro i hk hi;have hlt:i<l.length:=by omega
  have hlt2:i<s.params.length:=by omega
  have h1:(i:Int)<(l.length:Int):=by omega
  have h2:l.drop i=l[i]:: l.drop (i+1):=PC hlt;have h3:s.params.drop i=s.params[i]:: s.params.drop (i+1):=PC hlt2;have hw:IntKind.i64.wrap ((i:Int)+1)=(i:Int)+1:=bz (by omega);have hix:=tT (l:=l) (n:=(i:Int)) (by omega) h1;rw[PH,Pz l i hlt]at hix;have hix2:=tT (l:=s.params) (n:=(i:Int)) (by omega) (by omega);rw[PH,Pz s.params i hlt2]at hix2;have hbl:=jY (hl _ (Px hlt)) (hps _ (Px hlt2));have ih':aj (L126_0 (ai pg) aj) [.hp q 0,.ip (ab s.av),im l,.int .i64 l.length,.int .i64 ((i:Int)+1),x,y] h=_:=ih (i+1) (by omega) (by omega);rw[h2,h3];generalize l[i]=u at hix hbl |-;generalize s.params[i]=t at hix2 hbl |-;have ea:cj cd (u:: l.drop (i+1)) (t:: s.params.drop (i+1))=(cd u t&&cj cd (l.drop (i+1)) (s.params.drop (i+1))):=rfl;rw[ea];generalize hcode:aj (L126_0 (ai pg) aj) [.hp q 0,.ip (ab s.av),im l,.int .i64 l.length,.int .i64 i,x,y] h=code;rw[FL126_0]at hcode;cases hb2:cd u t with
  |true=>
   rw[hb2]at hbl;rw[QJ,<- ih'];simp -implicitDefEqProofs only[L126_0,aH,aM,bV,ao,h1,Qi,au,PF,hix,fL,LD35,PW,Qa,PX,Nat.reduceAdd,Pw,Qv,Qx,gS,Av.jE,aB,iM,FA145_1,P6,PT,LD47,hix2,hbl,dc,gn,P3,Pr,PE,dj,hw]at hcode;rw[<- hcode,iM]
  |false=>
   rw[hb2]at hbl;rw[Sa,if_neg (by decide)];have hz:ay 2 [] ty0.av=M.pure ty0.av:=wg ty0;have ha:ab ty0.av=[.int .i64 0,.sl []]:=rfl;simp -implicitDefEqProofs only[L126_0,aH,aM,bV,ao,h1,Qi,au,PF,hix,fL,LD35,PW,Qa,PX,Nat.reduceAdd,Pw,Qv,Qx,gS,Av.jE,aB,iM,FA145_1,P6,PT,LD47,hix2,hbl,dc,gn,Qe,r8,hz]at hcode;rw[<- hcode];rfl
def NW{q:Nat}{m:Ap.Mod}{mp:AV}{fs:List Face}{d:Nat}(P:mw q m mp fs d)(K:CxOk m fs)(ls:List bd)(hls:∀z∈ls,eD z.2)(hll:ls.length+d<=1000000)(e:Exp)(hop:e.op=15)(hlen:e.args.length<=1000000)(ha:∀x∈e.args,cB d x=true/\x.Lim)(n:Int)(h:Hp)(R:JR h q m mp fs n):
  ai pg 126 [.hp q 0,aK ls,e.av] h=MZ q m mp h (cr (eK m fs) (bL (eK m fs) d) ls e n)/\∀t n',cr (eK m fs) (bL (eK m fs) d) ls e n= .ok t n'->eD t:=by
 obtain⟨r,c1,c2⟩:=NX R K e;have k1:∀f:AV->M AV,ae (ai pg 161 [.hp q 0,e.av]) f h=f r h:=fun f=>aS c1 f;rw[yd hop,C126]
 have hpar:∀s,dk (eK m fs) e=some s->(∀t∈s.1,bg t=true)/\bg s.2.1=true:=by
  intro s hs;unfold dk at hs;split at hs
  ·split at hs
   ·rename_i f hf;cases hs;have hm:=Q8 hf;exact⟨fun t ht=>by obtain⟨z,hz,rfl⟩:=QU.1 ht;exact K.pars f hm z hz,K.res f hm⟩
   ·cases hs
  ·split at hs
   ·cases hs
   ·rename_i f hf;split at hs
    ·cases hs
    ·rename_i s' hs';split at hs
     ·cases hs;have hm:=Q8 (show fs.find? _=some f from hf);have hm2:=Q8 hs';exact⟨K.spars f hm s' hm2,K.sres f hm s' hm2⟩
     ·cases hs
 cases hc:dk (eK m fs) e with
 |none=>
  rw[hc]at c2;subst c2;refine⟨?_,fun t n' h3=>by cases h3⟩;show _=Av.R.ok (AV.tup [ty0.av,.int .i64 12]) (h.set q (bi m mp n));rw[R.same];have k2:∀f:AV->M AV,ae (ai pg 161 [.hp q 0,e.av]) f h=f (.tup [CX.av,.bool false]) h:=k1;have z1:aN 5 CX.av=M.pure CX.av:=qm CX;simp[S126,k2,z1,r8];rfl
 | some s=>
  rw[hc]at c2;obtain⟨nm,rfl⟩:=c2;obtain⟨hp1,hp2⟩:=hpar s hc;obtain⟨ps,res,eff⟩:=s;have z1:aN 5 (Sig.mk nm ps res eff).av=M.pure (Sig.mk nm ps res eff).av:=qm _;dsimp only;by_cases hl:ps.length=e.args.length
  ·rw[Ps hl];have hl':((ps.length:Int) != (e.args.length:Int))=false:=by simp[hl]
   obtain⟨g1,g2⟩:=ML P ls hls hll e.args hlen ha n h R;cases ht:dh (bL (eK m fs) d ls) e.args n with
   |er b n'=>
    rw[ht]at g1;have hb:(b != 0)=true:=QL.2 (nA (iy (eK m fs) d ls) _ n b n' ht);have k2:∀f:AV->M AV,ae (ai pg 127 [.hp q 0,aK ls,bX e.args]) f h=f (.tup [.sl [],.int .i64 b]) (h.set q (bi m mp n')):=fun f=>aS g1 f;have e1:dE.bind (dh (bL (eK m fs) d ls) e.args) (fun l=>if cj cd l ps=true then fun n=>Tr.ok res (nG n eff)else dE.er 13) n= .er b n':=by simp only[dE.bind,ht]
    rw[e1];refine⟨?_,fun t n' h3=>by cases h3⟩;show _=Av.R.ok (AV.tup [ty0.av,.int .i64 b]) (h.set q (bi m mp n'));simp[S126,k1,z1,hl,k2,hb,r8];rfl
   | ok l n'=>
    rw[ht]at g1;obtain⟨g3,g4⟩:=g2 l n' ht;have k2:∀f:AV->M AV,ae (ai pg 127 [.hp q 0,aK ls,bX e.args]) f h=f (.tup [im l,.int .i64 0]) (h.set q (bi m mp n')):=fun f=>aS g1 f;have hlp:=FY (R.set n') (Sig.mk nm ps res eff) l g4 hp1 (by rw[g3];exact hl.symm) (by omega) (.int .i64 0) (.sl []) l.length 0 rfl (P8 _);have hlp':aj (L126_0 (ai pg) aj) [.hp q 0,.ip [.str nm,im ps,.int .i64 res.kind,aK res.fields,.int .i64 eff],im l,.int .i64 l.length,.int .i64 0,.int .i64 0,.sl []] (h.set q (bi m mp n'))=(if cj cd l ps=true then .ok (.tup [res.av,.int .i64 0]) ((h.set q (bi m mp n')).set q (bi m mp (nG n' eff)))else .ok (.tup [ty0.av,.int .i64 13]) (h.set q (bi m mp n'))):=hlp;have e1:dE.bind (dh (bL (eK m fs) d ls) e.args) (fun l=>if cj cd l ps=true then fun n=>Tr.ok res (nG n eff)else dE.er 13) n=if cj cd l ps=true then .ok res (nG n' eff)else .er 13 n':=by
     simp only[dE.bind,ht];split<;>rfl
    rw[e1];constructor
    ·simp[S126,k1,z1,hl,k2];rw[hlp',O1];split<;>rfl
    ·intro t n'' h3;split at h3
     ·cases h3;exact fH hp2
     ·cases h3
  ·rw[if_neg hl];refine⟨?_,fun t n' h3=>by cases h3⟩;show _=Av.R.ok (AV.tup [ty0.av,.int .i64 13]) (h.set q (bi m mp n));rw[R.same];simp[S126,k1,z1,hl,r8];rfl
def Ey{e:Exp}(h:lH e=true):(e.op=11->e.args.length=3)/\(e.op=12->e.args.length=2)/\(e.op=14->e.args.length=1)/\(e.op=18->e.args.length=1)/\(e.op=13->e.names.length=e.args.length)/\e.args.length<=1000000:=by
 unfold lH at h;simp only[Po]at h;obtain⟨⟨⟨⟨⟨⟨⟨h1,h2⟩,h3⟩,h4⟩,h5⟩,h6⟩,h7⟩,h8⟩:=h;simp only[Pt]at h1 h2;have ho:e.op=0\/e.op=1\/e.op=2\/e.op=3\/e.op=4\/e.op=5\/e.op=6\/e.op=7\/e.op=8\/e.op=9\/e.op=10\/e.op=11\/e.op=12\/e.op=13\/e.op=14\/e.op=15\/e.op=16\/e.op=17\/e.op=18:=by omega
 by_cases o15:e.op=15
 ·have:e.args.length<=6:=by
   simp[fQ,o15]at h8;exact h8.2
  exact⟨fun h=>by omega,fun h=>by omega,fun h=>by omega,fun h=>by omega,fun h=>by omega,by omega⟩
 ·by_cases o13:e.op=13
  ·have hn:e.names.length<=8:=by
    simp[fQ,o13,rk]at h8;exact h8.2
   have he:e.names.length=e.args.length:=by
    simp[fC,o13]at h3;omega
   exact⟨fun h=>by omega,fun h=>by omega,fun h=>by omega,fun h=>by omega,fun _=>he,by omega⟩
  ·have key:e.args.length<=3/\(e.op=11->e.args.length=3)/\(e.op=12->e.args.length=2)/\(e.op=14->e.args.length=1)/\(e.op=18->e.args.length=1):=by
    rcases ho with o|o|o|o|o|o|o|o|o|o|o|o|o|o|o|o|o|o|o<;>simp[fC,o]at h3 o13 o15 |- <;> omega
   exact⟨key.2.1,key.2.2.1,key.2.2.2.1,key.2.2.2.2,fun h=>absurd h o13,by omega⟩
def Gm{ns:List a7}{l:List Ty}(h:∀t∈l,eD t)(hl:l.length<=1000000):eD (.mk 2 (ns.zip l)):=vl (by rw[Rl];omega) fun f hf=>h f.2 (List.of_mem_zip (show (f.1,f.2)∈ns.zip l from hf)).2
theorem tL(b:List bd):(fs:List bd)->(∀f∈fs,∀t u:Ty,rU f.2 t=some u->eD u)->∀f∈kM fs b,eD f.2
 |[],_,f,hf=>by simp[kM]at hf
 | g :: fs,h,f,hf=>by
  rw[oP,PZ]at hf;rcases hf with hf|hf
  ·rw[GA]at hf;cases hz:bW (fun z:bd=>z.1== g.1) b with
   |none=>rw[hz]at hf;cases hf
   | some z=>
    rw[hz]at hf;dsimp only at hf;cases hu:rU g.2 z.2 with
    |none=>rw[hu]at hf;cases hf
    |some u=>
     rw[hu]at hf;simp only[Qd]at hf;subst hf;exact h g P2 z.2 u hu
  ·exact tL b fs (fun f hf=>h f (PU _ hf)) f hf
def Bq(a b u:Ty)(ha:eD a)(h:rU a b=some u):eD u:=by
 have e1:rU a b=if a.kind=b.kind then some (.mk a.kind (kM a.fields b.fields))else none:=by
  cases a;cases b;simp only[rU,Ty.kind,Ty.fields];rfl
 rw[e1]at h;split at h
 ·cases h;refine vl (QC (yp _ _) ha.len) (tL _ _ fun f hf t u hu=>?_)
  have:=AL hf
  exact Bq f.2 t u (ha.kid hf) hu
 ·cases h
termination_by SizeOf.sizeOf a
def iH(k:Int):eD (.mk k []):=vl (by simp) (by simp)
def zS{e:Exp}{l:List Ty}(hl:∀t∈l,eD t)(hlen:l.length<=1000000)(h11:e.op=11->l.length=3)(h14:e.op=14->l.length=1){t:Ty}(h:bU e l=some t):eD t:=by
 unfold bU at h;split at h
 ·split at h<;>cases h;exact iH _
 ·split at h
  ·cases h;exact iH _
  ·split at h
   ·split at h<;>cases h;exact iH _
   ·split at h
    ·split at h<;>cases h;exact iH _
    ·split at h
     ·split at h<;>cases h;exact iH _
     ·split at h
      ·rename_i o;split at h
       ·rename_i u hu;split at h<;>cases h;refine Bq _ _ _ ?_ hu
        have:=h11 o
        rw[Pz l 1 (by omega)];exact hl _ (Px _)
       ·cases h
      ·split at h
       ·cases h;exact Gm hl hlen
       ·split at h
        ·rename_i o;split at h
         ·rename_i z hz;cases h
          have:=h14 o
          have h0:eD l[0]!:=by rw[Pz l 0 (by omega)];exact hl _ (Px _)
          exact h0.kid (iD hz).1
         ·cases h
        ·cases h;exact iH _
def NU(l:List bd)(h:l.length<=1000000):ai pg 124 [aK l]=M.pure (aK l):=by
 have e0:ai pg 124 [aK l]=fe T 23 (ai pg) [aK l]:=fN aF rfl _;have e1:=Jy (a:=[]) (b:=l) (by simp;omega);rw[e0];show af (cQ T 23 (.sl []) (aK l))=_;have e2:cQ T 23 (.sl []) (aK l)=some (aK l):=e1;rw[e2];rfl
theorem Ch{q:Nat}{m:Ap.Mod}{mp:AV}{fs:List Face}(K:CxOk m fs){d:Nat}(P:mw q m mp fs d):mw q m mp fs (d+1):=by
 intro ls e n h hr he hls hll R;rw[lE,Po,PG]at hr;obtain⟨hsh,har⟩:=hr;obtain⟨a11,a12,a14,a18,a13,alen⟩:=Ey hsh;have ha:∀x∈e.args,cB d x=true/\x.Lim:=fun x hx=>⟨har x hx,he.kid hx⟩;have hll':ls.length+d<=1000000:=by omega
 show ai pg 78 [.hp q 0,aK ls,e.av] h=MZ q m mp h (cr (eK m fs) (bL (eK m fs) d) ls e n)/\∀t n',cr (eK m fs) (bL (eK m fs) d) ls e n= .ok t n'->eD t;by_cases o2:e.op=2
 ·have hk:=t112 ls (by omega) e.s;rw[zX o2,C78];cases hz:bW (fun z:bd=>z.1== e.s) ls with
  |none=>
   rw[hz]at hk;refine⟨?_,fun t n' h3=>by cases h3⟩;show _=Av.R.ok (AV.tup [ty0.av,.int .i64 12]) (h.set q (bi m mp n));rw[R.same];simp[S78,o2,hk,r8];rfl
  |some z=>
   rw[hz]at hk;refine⟨?_,fun t n' h3=>by cases h3;exact hls z (iD hz).1⟩;show _=Av.R.ok (AV.tup [z.2.av,.int .i64 0]) (h.set q (bi m mp n));rw[R.same];simp[S78,o2,hk];rfl
 ·by_cases o12:e.op=12
  ·obtain⟨x,y,hxy⟩:∃x y,e.args=[x,y]:=by
    have:=a12 o12
    match e.args,this with
    |[x,y],_=>exact⟨x,y,rfl⟩
   have hx0:e.args[0]! = x:=by rw[hxy];rfl
   have hx1:e.args[1]! = y:=by rw[hxy];rfl
   have i0:ak T 24 (bX e.args) (.int .i64 0)=some (.ip (ab x.av)):=by
    have:=kH (l:=e.args) (n:=0) (by omega) (by rw[hxy];simp)
    rw[this,hxy];rfl
   have i1:ak T 24 (bX e.args) (.int .i64 1)=some (.ip (ab y.av)):=by
    have:=kH (l:=e.args) (n:=1) (by omega) (by rw[hxy];simp)
    rw[this,hxy];rfl
   obtain⟨xr,xl⟩:=ha x (by rw[hxy];simp);obtain⟨yr,yl⟩:=ha y (by rw[hxy];simp);obtain⟨p1,p2⟩:=P ls x n h xr xl hls hll' R;rw[zW o12,hx0,hx1,C78];have hne:=iy (eK m fs) d ls x n;cases ht:bL (eK m fs) d ls x n with
   |er b n'=>
    rw[ht]at p1;have hb:(b != 0)=true:=QL.2 (hne b n' ht);have k1:∀f:AV->M AV,ae (ai pg 78 [.hp q 0,aK ls,x.av]) f h=f (.tup [ty0.av,.int .i64 b]) (h.set q (bi m mp n')):=fun f=>aS p1 f;have e1:dE.bind (bL (eK m fs) d ls x) (fun t=>bL (eK m fs) d (ls++[(e.s,t)]) y) n= .er b n':=by simp only[dE.bind,ht]
    rw[e1];refine⟨?_,fun t n' h3=>by cases h3⟩;show _=Av.R.ok (AV.tup [ty0.av,.int .i64 b]) (h.set q (bi m mp n'));simp[S78,o12,i0,k1,hb,r8];rfl
   | ok u n'=>
    rw[ht]at p1;have hus:=p2 u n' ht;have k1:∀f:AV->M AV,ae (ai pg 78 [.hp q 0,aK ls,x.av]) f h=f (.tup [u.av,.int .i64 0]) (h.set q (bi m mp n')):=fun f=>aS p1 f;obtain⟨p3,p4⟩:=P (ls++[(e.s,u)]) y n' (h.set q (bi m mp n')) yr yl (fun z hz=>by
     rcases PZ.1 hz with hz|hz
     ·exact hls z hz
     ·rw[Qd]at hz;subst hz;exact hus) (by rw[P1];simp;omega) (R.set n')
    have e1:dE.bind (bL (eK m fs) d ls x) (fun t=>bL (eK m fs) d (ls++[(e.s,t)]) y) n=bL (eK m fs) d (ls++[(e.s,u)]) y n':=by simp only[dE.bind,ht]
    rw[e1];refine⟨?_,fun t n'' h3=>p4 t n'' h3⟩;have hap:=Jy (a:=ls) (b:=[(e.s,u)]) (by simp;omega);have hcl:=NU ls (by omega);cases ht2:bL (eK m fs) d (ls++[(e.s,u)]) y n' with
    |er b n''=>
     rw[ht2]at p3;have k2:∀f:AV->M AV,ae (ai pg 78 [.hp q 0,aK (ls++[(e.s,u)]),y.av]) f (h.set q (bi m mp n'))=f (.tup [ty0.av,.int .i64 b]) ((h.set q (bi m mp n')).set q (bi m mp n'')):=fun f=>aS p3 f;show _=Av.R.ok (AV.tup [ty0.av,.int .i64 b]) (h.set q (bi m mp n''));simp[S78,o12,i0,i1,k1,uz,Nc,hcl,hap,k2];rfl
    |ok t n''=>
     rw[ht2]at p3;have k2:∀f:AV->M AV,ae (ai pg 78 [.hp q 0,aK (ls++[(e.s,u)]),y.av]) f (h.set q (bi m mp n'))=f (.tup [t.av,.int .i64 0]) ((h.set q (bi m mp n')).set q (bi m mp n'')):=fun f=>aS p3 f;show _=Av.R.ok (AV.tup [t.av,.int .i64 0]) (h.set q (bi m mp n''));simp[S78,o12,i0,i1,k1,uz,Nc,hcl,hap,k2];rfl
  ·have b2:(e.op== 2)=false:=PP.2 o2;have b12:(e.op== 12)=false:=PP.2 o12;by_cases o17:e.op=17\/e.op=18
   ·obtain⟨v1,v2⟩:=NV P K ls hls hll' e o17 (fun o=>by
     have:=a18 o
     match hx:e.args,this with
     |[x],_=>exact⟨x,rfl,ha x (by rw[hx];simp)⟩) n h R
    refine⟨?_,v2⟩;rw[<- v1,C78];generalize hcode:ai pg 125 [.hp q 0,aK ls,e.av] h=code at v1;cases hs:cr (eK m fs) (bL (eK m fs) d) ls e n with
    | er b n'=>
     rw[hs]at v1;rw[v1]at hcode;have k1:∀f:AV->M AV,ae (ai pg 125 [.hp q 0,aK ls,e.av]) f h=f (.tup [ty0.av,.int .i64 b]) (h.set q (bi m mp n')):=fun f=>aS hcode f;rw[v1];show _=Av.R.ok (AV.tup [ty0.av,.int .i64 b]) (h.set q (bi m mp n'));rcases o17 with o|o
     ·have c17:(e.op== 17)=true:=PR.2 o;simp[S78,K78_1,b2,b12,c17,k1];rfl
     ·have c17:(e.op== 17)=false:=PP.2 (by omega);have c18:(e.op== 18)=true:=PR.2 o;simp[S78,K78_1,b2,b12,c17,c18,k1];rfl
    | ok t n'=>
     rw[hs]at v1;rw[v1]at hcode;have k1:∀f:AV->M AV,ae (ai pg 125 [.hp q 0,aK ls,e.av]) f h=f (.tup [t.av,.int .i64 0]) (h.set q (bi m mp n')):=fun f=>aS hcode f;rw[v1];show _=Av.R.ok (AV.tup [t.av,.int .i64 0]) (h.set q (bi m mp n'));rcases o17 with o|o
     ·have c17:(e.op== 17)=true:=PR.2 o;simp[S78,K78_1,b2,b12,c17,k1];rfl
     ·have c17:(e.op== 17)=false:=PP.2 (by omega);have c18:(e.op== 18)=true:=PR.2 o;simp[S78,K78_1,b2,b12,c17,c18,k1];rfl
   ·have b17:(e.op== 17)=false:=PP.2 (by omega);have b18:(e.op== 18)=false:=PP.2 (by omega);by_cases o15:e.op=15
    ·obtain⟨v1,v2⟩:=NW P K ls hls hll' e o15 alen ha n h R;refine⟨?_,v2⟩;have b15:(e.op== 15)=true:=PR.2 o15;rw[C78];cases hs:cr (eK m fs) (bL (eK m fs) d) ls e n with
     |er b n'=>
      rw[hs]at v1;have k1:∀f:AV->M AV,ae (ai pg 126 [.hp q 0,aK ls,e.av]) f h=f (.tup [ty0.av,.int .i64 b]) (h.set q (bi m mp n')):=fun f=>aS v1 f;show _=Av.R.ok (AV.tup [ty0.av,.int .i64 b]) (h.set q (bi m mp n'));simp[S78,K78_1,b2,b12,b17,b18,b15,k1];rfl
     |ok t n'=>
      rw[hs]at v1;have k1:∀f:AV->M AV,ae (ai pg 126 [.hp q 0,aK ls,e.av]) f h=f (.tup [t.av,.int .i64 0]) (h.set q (bi m mp n')):=fun f=>aS v1 f;show _=Av.R.ok (AV.tup [t.av,.int .i64 0]) (h.set q (bi m mp n'));simp[S78,K78_1,b2,b12,b17,b18,b15,k1];rfl
    ·have b15:(e.op== 15)=false:=PP.2 o15;obtain⟨g1,g2⟩:=ML P ls hls hll' e.args alen ha n h R;rw[ye o2 o12 o17 o15,C78];cases ht:dh (bL (eK m fs) d ls) e.args n with
     |er b n'=>
      rw[ht]at g1;have hb:(b != 0)=true:=QL.2 (nA (iy (eK m fs) d ls) _ n b n' ht);have k1:∀f:AV->M AV,ae (ai pg 127 [.hp q 0,aK ls,bX e.args]) f h=f (.tup [.sl [],.int .i64 b]) (h.set q (bi m mp n')):=fun f=>aS g1 f;have e1:dE.bind (dh (bL (eK m fs) d ls) e.args) (pq e) n= .er b n':=by simp only[dE.bind,ht]
      rw[e1];refine⟨?_,fun t n' h3=>by cases h3⟩;show _=Av.R.ok (AV.tup [ty0.av,.int .i64 b]) (h.set q (bi m mp n'));simp[S78,K78_1,b2,b12,b17,b18,b15,k1,hb,r8];rfl
     | ok l n'=>
      rw[ht]at g1;obtain⟨g3,g4⟩:=g2 l n' ht;have k1:∀f:AV->M AV,ae (ai pg 127 [.hp q 0,aK ls,bX e.args]) f h=f (.tup [im l,.int .i64 0]) (h.set q (bi m mp n')):=fun f=>aS g1 f;have hp:=t128 e l g4 (by omega) (fun o=>by rw[g3];exact a11 o) (fun o=>by rw[g3];exact a14 o) (fun o=>by rw[g3];exact a13 o);have R':=R.set n';have hor:am T .or 3 (.int .i64 n') (.int .i64 e.n)=some (.int .i64 (nG n' e.n)):=rfl;have l1:∀f:AV->M AV,ae (aW T 3 (.hp q 10)) f (h.set q (bi m mp n'))=f (.int .i64 n') (h.set q (bi m mp n')):=fun f=>aS R'.eff f;have l2:∀f:AV->M AV,ae (bP T 3 (.hp q 10) (.int .i64 (nG n' e.n))) f (h.set q (bi m mp n'))=f (.tup []) (h.set q (bi m mp (nG n' e.n))):=fun f=>by
       rw[aS (R'.put (nG n' e.n)) f,O1]
      have e1:dE.bind (dh (bL (eK m fs) d ls) e.args) (pq e) n=pq e l n':=by simp only[dE.bind,ht]
      rw[e1];have hsl:=fun t=>zS (e:=e) (l:=l) g4 (by omega) (fun o=>by rw[g3];exact a11 o) (fun o=>by rw[g3];exact a14 o) (t:=t);by_cases o16:e.op=16
      ·have b16:(e.op== 16)=true:=PR.2 o16;cases hpl:bU e l with
       |none=>
        rw[hpl]at hp;rw[rA hpl,Ps o16];refine⟨?_,fun t n' h3=>by cases h3⟩;show _=Av.R.ok (AV.tup [ty0.av,.int .i64 13]) (h.set q (bi m mp (nG n' e.n)));simp[S78,K78_1,K78_0,b2,b12,b17,b18,b15,b16,k1,l1,hor,l2,hp];rfl
       |some t=>
        rw[hpl]at hp;rw[rB hpl,Ps o16];refine⟨?_,fun t' n' h3=>by cases h3;exact hsl t hpl⟩;show _=Av.R.ok (AV.tup [t.av,.int .i64 0]) (h.set q (bi m mp (nG n' e.n)));simp[S78,K78_1,K78_0,b2,b12,b17,b18,b15,b16,k1,l1,hor,l2,hp];rfl
      ·have b16:(e.op== 16)=false:=PP.2 o16;cases hpl:bU e l with
       |none=>
        rw[hpl]at hp;rw[rA hpl,if_neg o16];refine⟨?_,fun t n' h3=>by cases h3⟩;show _=Av.R.ok (AV.tup [ty0.av,.int .i64 13]) (h.set q (bi m mp n'));simp[S78,K78_1,K78_0,b2,b12,b17,b18,b15,b16,k1,hp];rfl
       |some t=>
        rw[hpl]at hp;rw[rB hpl,if_neg o16];refine⟨?_,fun t' n' h3=>by cases h3;exact hsl t hpl⟩;show _=Av.R.ok (AV.tup [t.av,.int .i64 0]) (h.set q (bi m mp n'));simp[S78,K78_1,K78_0,b2,b12,b17,b18,b15,b16,k1,hp];rfl
theorem N3{q:Nat}{m:Ap.Mod}{mp:AV}{fs:List Face}(K:CxOk m fs):∀d,mw q m mp fs d
 |0=>fun ls e n h hr=>by cases hr
 |d+1=>Ch K (N3 K d)
theorem sN:(fs acc:List Face)->∀f∈dP acc fs,f∈acc\/f∈fs
 |[],acc,f,h=>.inl h
 | g:: fs,acc,f,h=>by
  rw[dP]at h;rcases sN fs _ f h with h|h
  ·split at h
   ·exact .inl h
   ·rcases PZ.1 h with h|h
    ·exact .inl h
    ·rw[Qd]at h;subst h;exact .inr P2
  ·exact .inr (PU _ h)
def ya(s:Sig):Bool:=bg s.result&&s.params.all bg
theorem Cd(f:Face):iP f=f.funcs.all ya:=rfl
def NT(t:Ty)(ht:t.Lim):ai pg 118 [t.av]=M.pure (.bool (!(bg t))):=by
 rw[C118];simp[S118,t23 t ht]
theorem FW{h:Hp}{l:Nat}{fs:List Face}(hl:h[l]? = some [.tup (cC fs)])(f:Face)(hn:fs.find? (fun g=>g.module== f.module)=none):nJ T 105 (.mp l) (.str f.module) f.av h= .ok (.tup []) (h.set l [.tup (cC (fs++[f]))]):=by
 have e:nJ T 105 (.mp l) (.str f.module) f.av h=(match h[l]? with
   |some [.tup es]=>(match xJ T 9 es (.str f.module) f.av with
    |some es'=>.ok (.tup []) (h.set l [.tup es'])
    |none=>.fail)
   |_=>.fail):=rfl
 rw[e,hl];simp only;unfold xJ;rcases qB f.module fs 0 with⟨h1,h2⟩|⟨g,j,k,h1,h2⟩
 ·rw[h2];simp[cC]
 ·rw[hn]at h1;cases h1
def lQ(f:Face):aN 2 f.av=M.pure f.av:=by rw[aY (oE f),kQ,sX]
def HS(V:List AV->M AV){h:Hp}{q l:Nat}{m:Ap.Mod}{acc:List Face}(R:JR h q m (.mp l) acc 0)(hl:h[l]? = some [.tup (cC acc)])(fs:List Face)(i:Nat)(f:Face)(hf:f.Lim):∀(k j:Nat),f.funcs.length-j=k->j<=f.funcs.length->
  aj (L75_0 (ai pg) aj V) [.hp q 0,.ip (ab f.av),faces fs,.int .i64 fs.length,.int .i64 i,sigs f.funcs,.int .i64 f.funcs.length,.int .i64 j] h=(if(f.funcs.drop j).all ya=true then V [.hp q 0,faces fs,.int .i64 fs.length,.int .i64 (IntKind.i64.wrap ((i:Int)+1))] (if(acc.find? fun g=>g.module== f.module).isSome=true then h else h.set l [.tup (cC (acc++[f]))])else .ok (.tup [.nilp,.bool false]) h):=by
 intro k;have hlen:=hf.len
 induction k with
 | zero=>
  intro j hk hj;have h1:¬((j:Int)<(f.funcs.length:Int)):=by omega
  have h2:f.funcs.drop j=[]:=PD (by omega);rw[h2,Ps (show[].all ya=true from rfl)];have l1:∀g:AV->M AV,ae (aW T 105 (.hp q 9)) g h=g (.mp l) h:=fun g=>aS R.mp g;have l2:∀g:AV->M AV,ae (fa T 105 (.mp l) (.str f.module) true) g h=g (.tup [((acc.find? fun g=>g.module== f.module).getD m8).av,.bool (acc.find? fun g=>g.module== f.module).isSome]) h:=fun g=>aS (ow R.map f.module) g;rw[FL75_0];cases hc:acc.find? (fun g=>g.module== f.module)with
  |none=>
   rw[hc]at l2;have l3:∀g:AV->M AV,ae (nJ T 105 (.mp l) (.str f.module) f.av) g h=g (.tup []) (h.set l [.tup (cC (acc++[f]))]):=fun g=>aS (FW hl f hc) g;simp[L75_0,h1,l1,l2,lQ,l3]
  |some g=>
   rw[hc]at l2;simp[L75_0,h1,l1,l2,lQ]
 | succ k ih=>
  intro j hk hj;have hlt:j<f.funcs.length:=by omega
  have h1:(j:Int)<(f.funcs.length:Int):=by omega
  have h2:f.funcs.drop j=f.funcs[j]:: f.funcs.drop (j+1):=PC hlt;have hw:IntKind.i64.wrap ((j:Int)+1)=(j:Int)+1:=bz (by omega);have hix:=Dc (l:=f.funcs) (n:=(j:Int)) (by omega) h1;rw[PH,Pz f.funcs j hlt]at hix;have hs:=hf.sigs _ (Px hlt);have ih':aj (L75_0 (ai pg) aj V) [.hp q 0,.ip (ab f.av),faces fs,.int .i64 fs.length,.int .i64 i,sigs f.funcs,.int .i64 f.funcs.length,.int .i64 ((j:Int)+1)] h=_:=ih (j+1) (by omega) (by omega);rw[h2,P5];generalize f.funcs[j]=s at hix hs |-;have r1:=t23 s.result hs.result;have r2:=t117 (.fn (.func 118) [] []) (fun t=>!(bg t)) s.params (by have:=hs.plen;omega) (fun g=>by simp[cl,dp]) (fun t ht=>NT t (hs.ptys t ht));have r3:(s.params.any fun t=>!(bg t))= !(s.params.all bg):=by
   rw[List.any_eq_not_all_not];simp
  rw[r3]at r2;rw[FL75_0];simp only[kQ]at ih' |-;unfold ya;cases b1:bg s.result with
  |false=>
   rw[b1]at r1;simp[L75_0,h1,hix,r1];rfl
  | true=>
   rw[b1]at r1;cases b2:s.params.all bg with
   |false=>
    rw[b2]at r2;simp[L75_0,h1,hix,r1,r2];rfl
   |true=>
    rw[b2]at r2;simp[L75_0,h1,hix,r1,r2,hw,ih',ya]
theorem HT{q l:Nat}{m:Ap.Mod}(hq:l≠q)(fs:List Face)(hfs:∀f∈fs,f.Lim)(hlen:fs.length<=140737488355328):∀(k i:Nat)(acc:List Face)(h:Hp),fs.length-i=k->i<=fs.length->JR h q m (.mp l) acc 0->h[l]? = some [.tup (cC acc)]->
  ((fs.drop i).all iP=true->aj (L75_1 (ai pg) aj) [.hp q 0,faces fs,.int .i64 fs.length,.int .i64 i] h= .ok (.tup [.hp q 0,.bool true]) (h.set l [.tup (cC (dP acc (fs.drop i)))]))/\((fs.drop i).all iP=false->∃h',aj (L75_1 (ai pg) aj) [.hp q 0,faces fs,.int .i64 fs.length,.int .i64 i] h= .ok (.tup [.nilp,.bool false]) h'):=by
 intro k
 induction k with
 | zero=>
  intro i acc h hk hi R hl;have h1:¬((i:Int)<(fs.length:Int)):=by omega
  have h2:fs.drop i=[]:=PD (by omega);rw[h2];refine⟨fun _=>?_,fun hc=>by cases hc⟩;have e:h.set l [.tup (cC (dP acc []))]=h:=by
   obtain⟨hll,e⟩:=PK.1 hl;show h.set l [.tup (cC acc)]=h;rw[<- e];exact List.set_getElem_self hll
  rw[e,FL75_1];simp[L75_1,h1];rfl
 | succ k ih=>
  intro i acc h hk hi R hl;have hlt:i<fs.length:=by omega
  have h1:(i:Int)<(fs.length:Int):=by omega
  have h2:fs.drop i=fs[i]:: fs.drop (i+1):=PC hlt;have hw:IntKind.i64.wrap ((i:Int)+1)=((i+1:Nat):Int):=bz (by omega);have hix:=Nj (l:=fs) (n:=(i:Int)) (by omega) h1;rw[PH,Pz fs i hlt]at hix;have hf:=hfs _ (Px hlt);rw[h2,P5];generalize fs[i]=f at hix hf |-;have hin:=HS (aj (L75_1 (ai pg) aj)) R hl fs i f hf f.funcs.length 0 rfl (P8 _);rw[PT,hw]at hin;have hrun:aj (L75_1 (ai pg) aj) [.hp q 0,faces fs,.int .i64 fs.length,.int .i64 i] h=aj (L75_0 (ai pg) aj (aj (L75_1 (ai pg) aj))) [.hp q 0,.ip (ab f.av),faces fs,.int .i64 fs.length,.int .i64 i,sigs f.funcs,.int .i64 f.funcs.length,.int .i64 ((0:Nat):Int)] h:=by
   rw[FL75_1];simp[L75_1,h1,hix,lQ]
  rw[hrun,hin,<- Cd];cases hfo:iP f with
  |false=>
   refine⟨fun hc=>by simp at hc,fun _=>⟨h,by simp⟩⟩
  | true=>
   simp only[PF,QJ];have hd:dP acc (f:: fs.drop (i+1))=dP (if(acc.find? fun g=>g.module== f.module).isSome=true then acc else acc++[f]) (fs.drop (i+1)):=rfl;rw[hd];have hll:=(PK.1 hl).1;by_cases hc:(acc.find? fun g=>g.module== f.module).isSome=true
   ·rw[Ps hc,Ps hc];exact ih (i+1) acc h (by omega) (by omega) R hl
   ·rw[if_neg hc,if_neg hc];have hl':(h.set l [.tup (cC (acc++[f]))])[l]? = some [.tup (cC (acc++[f]))]:=Qo hll;have R':JR (h.set l [.tup (cC (acc++[f]))]) q m (.mp l) (acc++[f]) 0:=⟨by rw[QE hq];exact R.row,.inr ⟨l,rfl,hl'⟩,R.ne⟩;obtain⟨i1,i2⟩:=ih (i+1) (acc++[f]) _ (by omega) (by omega) R' hl';refine⟨fun ha=>?_,i2⟩;rw[i1 ha,List.set_set]
theorem OK(m:Ap.Mod)(fs:List Face)(hfs:∀f∈fs,f.Lim)(hlen:fs.length<=140737488355328)(h:Hp):
  (fs.all iP=true->ai pg 75 [m.av,faces fs] h= .ok (.tup [.hp (h.length+1) 0,.bool true]) (h++[[.tup (cC (dP [] fs))],bi m (.mp h.length) 0]))/\(fs.all iP=false->∃h',ai pg 75 [m.av,faces fs] h= .ok (.tup [.nilp,.bool false]) h'):=by
 have R:JR (h++[[AV.tup []],bi m (.mp h.length) 0]) (h.length+1) m (.mp h.length) [] 0:=⟨by simp,.inr ⟨h.length,rfl,by simp[cC]⟩,by simp⟩;obtain⟨h1,h2⟩:=HT (q:=h.length+1) (l:=h.length) (m:=m) (by omega) fs hfs hlen fs.length 0 [] _ rfl (P8 _) R (by simp[cC]);rw[PT]at h1 h2;have hrun:ai pg 75 [m.av,faces fs] h=aj (L75_1 (ai pg) aj) [.hp (h.length+1) 0,faces fs,.int .i64 fs.length,.int .i64 ((0:Nat):Int)] (h++[[AV.tup []],bi m (.mp h.length) 0]):=by
  rw[C75];have b1:aU T true 107 [(0,m.av),(1,.mp h.length)]=some (.agg (bi m (.mp h.length) 0)):=rfl;have n1:∀f:AV->M AV,ae ga f h=f (.mp h.length) (h++[[AV.tup []]]):=fun f=>rfl;have n2:∀f:AV->M AV,ae (newH (bi m (.mp h.length) 0)) f (h++[[AV.tup []]])=f (.hp (h.length+1) 0) (h++[[AV.tup []],bi m (.mp h.length) 0]):=fun f=>by
   have:newH (bi m (.mp h.length) 0) (h++[[AV.tup []]])= .ok (.hp (h++[[AV.tup []]]).length 0) ((h++[[AV.tup []]])++[bi m (.mp h.length) 0]):=rfl;rw[aS this];simp
  have lm:ah T 29 (.ip (ab m.av))=some m.av:=rfl;simp only[S75,lm,ao,n1,b1,cD,n2,JF];rfl
 rw[hrun];refine⟨fun ha=>?_,h2⟩;rw[h1 ha];simp
def fb(name:a7):Ap.Mod:=⟨name,[],[],[],[],false,[],[],[]⟩
def Oz(name:a7):CxOk (fb name) [] where
 vlen:=by simp[fb]
 vars:=nofun
 flen:=by simp[fb]
 ulen:=by simp[fb]
 plen:=nofun
 pars:=nofun
 res:=nofun
 slen:=nofun
 splen:=nofun
 spars:=nofun
 sres:=nofun
theorem KQ(name:a7)(ls:List bd)(hls:∀z∈ls,eD z.2)(hll:ls.length<=1000)(e:Exp)(hr:cB 12 e=true)(he:e.Lim)(want:Ty)(hw:bg want=true):ai pg 123 [.str name,aK ls,e.av,want.av]=M.pure (.int .i64 (cY ls e want)):=by
 have R:JR [bi (fb name) .nilm 0] 0 (fb name) .nilm [] 0:=⟨rfl,.inl ⟨rfl,rfl⟩,by simp⟩;obtain⟨p1,p2⟩:=N3 (Oz name) 12 ls e 0 _ hr he hls (by omega) R;have hc:eK (fb name) []=vw:=rfl;rw[hc]at p1 p2;have b0:aU T false 29 [(0,.str name)]=some (fb name).av:=rfl;have b1:aU T true 107 [(0,(fb name).av)]=some (.agg (bi (fb name) .nilm 0)):=rfl;have n1:∀f:AV->M AV,ae (newH (bi (fb name) .nilm 0)) f []=f (.hp 0 0) [bi (fb name) .nilm 0]:=fun f=>rfl;have fin:∀(h:Hp)(n:Int),kC 6 h (.int .i64 n)= .int .i64 n:=fun h n=>rfl;have hne:=iy vw 12 ls e 0;rw[C123];unfold cY;cases ht:bL vw 12 ls e 0 with
 |er b n=>
  rw[ht]at p1;have hb:(b != 0)=true:=QL.2 (hne b n ht);have k1:∀f:AV->M AV,ae (ai pg 78 [.hp 0 0,aK ls,e.av]) f [bi (fb name) .nilm 0]=f (.tup [ty0.av,.int .i64 b]) [bi (fb name) .nilm n]:=fun f=>aS p1 f;refine cp (v:=.int .i64 b) (h':=[bi (fb name) .nilm n]) ?_ (fin _ _);simp[S123,b0,b1,n1,k1,hb];rfl
 | ok t n=>
  rw[ht]at p1;have hts:=p2 t n ht;have k1:∀f:AV->M AV,ae (ai pg 78 [.hp 0 0,aK ls,e.av]) f [bi (fb name) .nilm 0]=f (.tup [t.av,.int .i64 0]) [bi (fb name) .nilm n]:=fun f=>aS p1 f;have l1:∀f:AV->M AV,ae (aW T 3 (.hp 0 10)) f [bi (fb name) .nilm n]=f (.int .i64 n) [bi (fb name) .nilm n]:=fun f=>rfl;have hbl:=jY hts hw;dsimp only;by_cases hn:n=0
  ·subst hn;rw[if_neg (by simp)];cases hb:cd t want with
   |true=>
    rw[hb]at hbl;rw[Ps rfl];refine cp (v:=.int .i64 0) (h':=[bi (fb name) .nilm 0]) ?_ (fin _ _);simp[S123,b0,b1,n1,k1,l1,hbl];rfl
   |false=>
    rw[hb]at hbl;rw[if_neg (by decide)];refine cp (v:=.int .i64 13) (h':=[bi (fb name) .nilm 0]) ?_ (fin _ _);simp[S123,b0,b1,n1,k1,l1,hbl];rfl
  ·rw[Ps hn];have hn':(n != 0)=true:=QL.2 hn;refine cp (v:=.int .i64 14) (h':=[bi (fb name) .nilm n]) ?_ (fin _ _);simp[S123,b0,b1,n1,k1,l1,hn'];rfl
def mi(x:a7×Int):AV:=.tup [.str x.1,.int .i64 x.2]
def mO(ls vs:List bd)(es:List Exp)(i:Nat)(hl:es.length=vs.length)(h:i<vs.length):(dV ls vs es).drop i=(vs[i].1,cY ls (es[i]'(by omega)) vs[i].2):: (dV ls vs es).drop (i+1):=by
 have hi:i<(dV ls vs es).length:=by simp[dV,Rl];omega
 rw[PC hi];congr 1;simp[dV]
def oH(ls vs:List bd)(es:List Exp)(i:Nat)(h:vs.length<=i):(dV ls vs es).drop i=[]:=PD (by simp[dV,Rl];omega)
structure MvOk (m:Ap.Mod):Prop where
 lim:m.Lim
 vlen:m.vars.length<=8
 vars:∀z∈m.vars,bg z.2=true
 ilen:m.init.length=m.vars.length
 init:∀e∈m.init,cB 12 e=true
 olen:m.old.length<=8
 old:∀z∈m.old,bg z.2=true
 wlen:m.moves=true->m.forward.length=m.vars.length
 forw:∀e∈m.forward,cB 12 e=true
 blen:m.back.length=m.old.length
 back:∀e∈m.back,cB 12 e=true
def OE{m:Ap.Mod}(K:MvOk m):∀(k i:Nat),m.old.length-i=k->i<=m.old.length->
  aj (L77_0 (ai pg) aj) [.ip (ab m.av),aK m.old,.int .i64 m.old.length,.int .i64 i]=M.pure (mi (cn ((dV m.vars m.old m.back).drop i))):=by
 intro k
 induction k with
 |zero=>
  intro i hk hi;have h1:¬((i:Int)<(m.old.length:Int)):=by omega
  rw[FL77_0,oH _ _ _ _ (by omega)];simp[L77_0,h1,cn,mi]
 | succ k ih=>
  intro i hk hi;have hlt:i<m.old.length:=by omega
  have h1:(i:Int)<(m.old.length:Int):=by omega
  have hw:IntKind.i64.wrap ((i:Int)+1)=(i:Int)+1:=bz (by have:=K.olen;omega);have hix:=iK (l:=m.old) (n:=(i:Int)) (by omega) h1;rw[PH,Pz m.old i hlt]at hix;have hlt2:i<m.back.length:=by rw[K.blen];exact hlt
  have hix2:=kH (l:=m.back) (n:=(i:Int)) (by omega) (by have:=K.blen;omega);rw[PH,Pz m.back i hlt2]at hix2;have hp:=KQ m.name m.vars (fun z hz=>fH (K.vars z hz)) (by have:=K.vlen;omega) m.back[i] (K.back _ (Px _)) (K.lim.bes _ (Px _)) m.old[i].2 (K.old _ (Px _));have ih':aj (L77_0 (ai pg) aj) [.ip (ab m.av),aK m.old,.int .i64 m.old.length,.int .i64 ((i:Int)+1)]=_:=ih (i+1) (by omega) (by omega);rw[FL77_0,mO _ _ _ _ K.blen hlt,cn];simp only[bE]at ih' |-;generalize m.old[i]=z at hix hp |-;generalize m.back[i]=e at hix2 hp |-;by_cases hb:cY m.vars e z.2=0
  ·rw[hb]at hp;rw[Ps hb];simp[L77_0,h1,hix,hix2,hp,hw,ih']
  ·rw[if_neg hb];have hb':(cY m.vars e z.2 != 0)=true:=QL.2 hb;simp[L77_0,h1,hix,hix2,hp,hb',mi]
def OG{m:Ap.Mod}(K:MvOk m)(hm:m.moves=true):∀(k i:Nat),m.vars.length-i=k->i<=m.vars.length->
  aj (L77_1 (ai pg) aj) [.ip (ab m.av),aK m.vars,.int .i64 m.vars.length,.int .i64 i]=M.pure (mi (cn ((dV m.old m.vars m.forward).drop i++dV m.vars m.old m.back))):=by
 intro k
 induction k with
 |zero=>
  intro i hk hi;have h1:¬((i:Int)<(m.vars.length:Int)):=by omega
  have h0:=OE K m.old.length 0 rfl (P8 _);have h0':aj (L77_0 (ai pg) aj) [.ip (ab m.av),aK m.old,.int .i64 m.old.length,.int .i64 0]=M.pure (mi (cn (dV m.vars m.old m.back))):=h0;rw[FL77_1,oH _ _ _ _ (by omega),P7];simp only[bE]at h0' |-;simp[L77_1,h1,h0']
 | succ k ih=>
  intro i hk hi;have hlt:i<m.vars.length:=by omega
  have h1:(i:Int)<(m.vars.length:Int):=by omega
  have hw:IntKind.i64.wrap ((i:Int)+1)=(i:Int)+1:=bz (by have:=K.vlen;omega);have hix:=iK (l:=m.vars) (n:=(i:Int)) (by omega) h1;rw[PH,Pz m.vars i hlt]at hix;have hwl:=K.wlen hm;have hlt2:i<m.forward.length:=by omega
  have hix2:=kH (l:=m.forward) (n:=(i:Int)) (by omega) (by omega);rw[PH,Pz m.forward i hlt2]at hix2;have hp:=KQ m.name m.old (fun z hz=>fH (K.old z hz)) (by have:=K.olen;omega) m.forward[i] (K.forw _ (Px _)) (K.lim.fes _ (Px _)) m.vars[i].2 (K.vars _ (Px _));have ih':aj (L77_1 (ai pg) aj) [.ip (ab m.av),aK m.vars,.int .i64 m.vars.length,.int .i64 ((i:Int)+1)]=_:=ih (i+1) (by omega) (by omega);rw[FL77_1,mO _ _ _ _ hwl hlt,Qb,cn];simp only[bE]at ih' |-;generalize m.vars[i]=z at hix hp |-;generalize m.forward[i]=e at hix2 hp |-;by_cases hb:cY m.old e z.2=0
  ·rw[hb]at hp;rw[Ps hb];simp[L77_1,h1,hix,hix2,hp,hw,ih']
  ·rw[if_neg hb];have hb':(cY m.old e z.2 != 0)=true:=QL.2 hb;simp[L77_1,h1,hix,hix2,hp,hb',mi]
def OH{m:Ap.Mod}(K:MvOk m):∀(k i:Nat),m.vars.length-i=k->i<=m.vars.length->
  aj (L77_2 (ai pg) aj) [.ip (ab m.av),aK m.vars,.int .i64 m.vars.length,.int .i64 i]=M.pure (mi (cn ((dV [] m.vars m.init).drop i++if m.moves=true then dV m.old m.vars m.forward++dV m.vars m.old m.back else[]))):=by
 intro k
 induction k with
 | zero=>
  intro i hk hi;have h1:¬((i:Int)<(m.vars.length:Int)):=by omega
  rw[FL77_2,oH _ _ _ _ (by omega),P7];cases hm:m.moves with
  |true=>
   have h0:=OG K hm m.vars.length 0 rfl (P8 _);have h0':aj (L77_1 (ai pg) aj) [.ip (ab m.av),aK m.vars,.int .i64 m.vars.length,.int .i64 0]=M.pure (mi (cn (dV m.old m.vars m.forward++dV m.vars m.old m.back))):=h0;simp only[bE,hm]at h0' |-;simp[L77_2,h1,h0']
  |false=>
   simp only[bE,hm];simp[L77_2,h1,mi,cn]
 | succ k ih=>
  intro i hk hi;have hlt:i<m.vars.length:=by omega
  have h1:(i:Int)<(m.vars.length:Int):=by omega
  have hw:IntKind.i64.wrap ((i:Int)+1)=(i:Int)+1:=bz (by have:=K.vlen;omega);have hix:=iK (l:=m.vars) (n:=(i:Int)) (by omega) h1;rw[PH,Pz m.vars i hlt]at hix;have hwl:=K.ilen;have hlt2:i<m.init.length:=by omega
  have hix2:=kH (l:=m.init) (n:=(i:Int)) (by omega) (by omega);rw[PH,Pz m.init i hlt2]at hix2;have hp0:=KQ m.name [] (fun z hz=>by cases hz) (by simp) m.init[i] (K.init _ (Px _)) (K.lim.ies _ (Px _)) m.vars[i].2 (K.vars _ (Px _));have hp:ai pg 123 [.str m.name,.sl [],m.init[i].av,m.vars[i].2.av]=M.pure (.int .i64 (cY [] m.init[i] m.vars[i].2)):=hp0;have ih':aj (L77_2 (ai pg) aj) [.ip (ab m.av),aK m.vars,.int .i64 m.vars.length,.int .i64 ((i:Int)+1)]=_:=ih (i+1) (by omega) (by omega);rw[FL77_2,mO _ _ _ _ hwl hlt,Qb,cn];simp only[bE]at ih' |-;generalize m.vars[i]=z at hix hp |-;generalize m.init[i]=e at hix2 hp |-;by_cases hb:cY [] e z.2=0
  ·rw[hb]at hp;rw[Ps hb];simp[L77_2,h1,hix,hix2,hp,hw,ih']
  ·rw[if_neg hb];have hb':(cY [] e z.2 != 0)=true:=QL.2 hb;simp[L77_2,h1,hix,hix2,hp,hb',mi]
def OL{m:Ap.Mod}(K:MvOk m):ai pg 77 [m.av]=M.pure (mi (jt m)):=by
 have h0:=OH K m.vars.length 0 rfl (P8 _);have h0':aj (L77_2 (ai pg) aj) [.ip (ab m.av),aK m.vars,.int .i64 m.vars.length,.int .i64 0]=M.pure (mi (jt m)):=h0;rw[C77];simp only[bE]at h0';simp[S77,h0'];exact bI fun g=>by simp[mi,cl,dp]
def setRow(ns:List a7):List AV:=ns.map fun s=>.tup [.str s,.bool true]
theorem Kb(a b:a7):B6 T 20 9 (.str a) (.str b)=some (a== b):=rfl
theorem og(s:a7):(ns:List a7)->(i:Nat)->(ns.contains s=false/\fo T 9 (.str s) (setRow ns) i=some none)\/(ns.contains s=true/\∃(j:Nat)(k:AV),fo T 9 (.str s) (setRow ns) i=some (some (j,k,.bool true)))
 |[],i=>.inl ⟨rfl,rfl⟩
 | x:: ns,i=>by
  show (_/\fo T 9 (.str s) (.tup [.str x,.bool true]:: setRow ns) i=_)\/(_/\∃(j:Nat)(k:AV),fo T 9 (.str s) (.tup [.str x,.bool true]:: setRow ns) i=_);unfold fo;rw[Kb,List.contains_cons];cases h:s== x with
  |true=>exact .inr ⟨rfl,i,.str x,rfl⟩
  |false=>
   rcases og s ns (i+1)with⟨h1,h2⟩|⟨h1,j,k,h2⟩
   ·exact .inl ⟨by rw[h1];rfl,h2⟩
   ·exact .inr ⟨by rw[h1];rfl,j,k,h2⟩
theorem rb{h:Hp}{l:Nat}{ns:List a7}(hl:h[l]? = some [.tup (setRow ns)])(s:a7):fa T 147 (.mp l) (.str s) false h= .ok (.bool (ns.contains s)) h:=by
 have e:pj T 147 (setRow ns) (.str s) false=(match fo T 9 (.str s) (setRow ns) 0 with
   |some (some (_,_,v))=>some v
   |some none=>some (.bool false)
   |none=>none):=rfl
 unfold fa lh;simp only[hl];rw[e];rcases og s ns 0 with⟨h1,h2⟩|⟨h1,j,k,h2⟩
 ·rw[h2,h1]
 ·rw[h2,h1]
theorem uU{h:Hp}{l:Nat}{ns:List a7}(hl:h[l]? = some [.tup (setRow ns)])(s:a7)(hs:ns.contains s=false):nJ T 147 (.mp l) (.str s) (.bool true) h= .ok (.tup []) (h.set l [.tup (setRow (ns++[s]))]):=by
 have e:nJ T 147 (.mp l) (.str s) (.bool true) h=(match h[l]? with
   |some [.tup es]=>(match xJ T 9 es (.str s) (.bool true)with
    |some es'=>.ok (.tup []) (h.set l [.tup es'])
    |none=>.fail)
   |_=>.fail):=rfl
 rw[e,hl];simp only;unfold xJ;rcases og s ns 0 with⟨h1,h2⟩|⟨h1,j,k,h2⟩
 ·rw[h2];simp[setRow]
 ·rw[h1]at hs;cases hs
theorem HA(l:List bd)(hb:l.length<=140737488355328)(ht:∀f∈l,f.2.Lim)(most:Int)(q:Nat):∀(n i:Nat),l.length-i=n->i<=l.length->∀(seen:List a7)(h:Hp),h[q]? = some [.tup (setRow seen)]->
  ∃h',aj (L120_0 (ai pg) aj) [aK l,.int .i64 most,.mp q,aK l,.int .i64 l.length,.int .i64 i] h= .ok (.bool (xF seen (l.drop i)&&decide ((l.length:Int)<=most))) h':=by
 intro n
 induction n with
 |zero=>
  intro i hn hi seen h hq;rw[FL120_0];have h1:¬((i:Int)<(l.length:Int)):=by omega
  have h2:l.drop i=[]:=PD (by omega);rw[h2];exact⟨h,by simp[L120_0,h1,xF,M.pure]⟩
 | succ n ih=>
  intro i hn hi seen h hq;have hlt:i<l.length:=by omega
  have h1:(i:Int)<(l.length:Int):=by omega
  have h2:l.drop i=l[i]:: l.drop (i+1):=PC hlt;have hw:IntKind.i64.wrap ((i:Int)+1)=((i+1:Nat):Int):=bz (by omega);have hix:=iK (l:=l) (n:=(i:Int)) (by omega) h1;rw[PH,Pz l i hlt]at hix;have hfl:=ht _ (Px hlt);have ih':=fun s=>ih (i+1) (by omega) (by omega) (seen++[s]) (h.set q [.tup (setRow (seen++[s]))]);have hql:q<h.length:=(PK.1 hq).1;rw[h2];generalize l[i]=f at hix hfl |-;have hlk:=rb hq f.1;have hnm:=t119 f.1;have hty:=t56 f.2 hfl;have hcf:aN 3 (bw f)=M.pure (bw f):=by rw[aY (i7 f),fA,ll]
  generalize hcode:aj (L120_0 (ai pg) aj) [aK l,.int .i64 most,.mp q,aK l,.int .i64 l.length,.int .i64 i] h=code;rw[FL120_0]at hcode;simp -implicitDefEqProofs only[L120_0,aH,aM,bV,ao,h1,Qi,au,PF,hix,fA,LD37,PW,Qa,PX,Nat.reduceAdd,Pw,Qv,Qx,ll,hcf,aB,FA37_0,FA37_1,PT,P6,LD9]at hcode;rw[aS hlk]at hcode;have eo:xF seen (f:: l.drop (i+1))=(!(seen.contains f.1)&&cX f.1&&bg f.2&&xF (seen++[f.1]) (l.drop (i+1))):=rfl;rw[eo];cases hc:seen.contains f.1 with
  |true=>
   rw[hc]at hcode;refine⟨h,?_⟩;rw[<- hcode];simp[M.pure]
  | false=>
   rw[hc]at hcode;cases hn2:cX f.1 with
   |false=>
    rw[hn2]at hnm;refine⟨h,?_⟩;rw[<- hcode];simp[hnm,M.pure]
   | true=>
    rw[hn2]at hnm;cases hr:bg f.2 with
    |false=>
     rw[hr]at hty;refine⟨h,?_⟩;rw[<- hcode];simp[hnm,hty,M.pure]
    |true=>
     rw[hr]at hty;obtain⟨h',e'⟩:=ih' f.1 (by rw[Qo hql]);refine⟨h',?_⟩;have hp:=uU hq f.1 hc;rw[<- hcode];simp -implicitDefEqProofs only[hnm,hty,aB,bp,gn,P3,Qe,aH,bS,au,Pr,PE,LD35,PW,Qa,PX,Nat.reduceAdd,Pw,PF,Qv,Qx,gS,ao];rw[aS hp];simp only[dj,ao,hw,e',QJ]
theorem t120(l:List bd)(hb:l.length<=140737488355328)(ht:∀f∈l,f.2.Lim)(most:Int):ai pg 120 [aK l,.int .i64 most]=M.pure (.bool (gg l most)):=by
 obtain⟨h',e⟩:=HA l hb ht most 0 l.length 0 rfl (P8 _) [] ([]++[[.tup []]]) rfl;rw[PT]at e;rw[C120];funext hp;have key:S120 (ai pg) aj (cl az (aK l)) (cl az (.int .i64 most)) []= .ok (.bool (gg l most)) h':=by
  rw[lP,J3];have hn:ga []= .ok (.mp 0) ([]++[[.tup []]]):=rfl;simp -implicitDefEqProofs only[S120];rw[aS hn];simp only[dO,ao];exact e
 show aI _ hp=R.ok (.bool (gg l most)) hp;unfold aI;rw[key];rfl
def t122(l:List Exp)(hb:l.length<=140737488355328)(ht:∀e∈l,e.Lim)(n:Int):ai pg 122 [bX l,.int .i64 n]=M.pure (.bool (l.all Bl&&((l.length:Int)== n))):=by
 have hloop:∀(m i:Nat),l.length-i=m->i<=l.length->aj (L122_0 (ai pg) aj) [bX l,.int .i64 n,bX l,.int .i64 l.length,.int .i64 i]=M.pure (.bool ((l.drop i).all Bl&&((l.length:Int)== n))):=by
  intro m
  induction m with
  |zero=>
   intro i hm hi;rw[FL122_0];have h1:¬((i:Int)<(l.length:Int)):=by omega
   have h2:l.drop i=[]:=PD (by omega);simp[L122_0,h1,h2]
  |succ m ih=>
   intro i hm hi;have hlt:i<l.length:=by omega
   have h1:(i:Int)<(l.length:Int):=by omega
   have h2:l.drop i=l[i]:: l.drop (i+1):=PC hlt;have hw:IntKind.i64.wrap ((i:Int)+1)=((i+1:Nat):Int):=bz (by omega);have hix:=kH (l:=l) (n:=(i:Int)) (by omega) h1;rw[PH,Pz l i hlt]at hix;have hr:=t121 l[i] (ht _ (Px hlt));have ih':=ih (i+1) (by omega) (by omega);rw[h2,P5,FL122_0];generalize l[i]=e at hix hr |-;cases hb2:Bl e<;>rw[hb2]at hr <;>
   simp only[L122_0,aH,aM,bV,ao,h1,Qi,au,PF,hix,a6,LD66,PW,Qa,PX,Nat.reduceAdd,Pw,Qv,Qx,fX,uk,aB,hr,gn,P3,Qe,Pr,PE,dj,hw,ih',QJ,Sa]
 have h:=hloop l.length 0 rfl (P8 _);rw[PT]at h;have h':aj (L122_0 (ai pg) aj) [bX l,.int .i64 n,bX l,.int .i64 l.length,.int .i64 0]=M.pure (.bool (l.all Bl&&((l.length:Int)== n))):=h;rw[C122];simp[S122,h']
def Hk(f:Fun):aN 12 f.av=M.pure f.av:=by rw[aY (i8 f),fB,nf]
theorem HL(m:Ap.Mod)(hm:m.Lim)(q:Nat)(R:Bool)(hend:∀h:Hp,∃h',aj (L76_0 (ai pg) aj) [.ip (ab m.av),.mp q,gC m.funcs,.int .i64 m.funcs.length,.int .i64 m.funcs.length] h= .ok (.bool R) h'):∀(n i:Nat),m.funcs.length-i=n->i<=m.funcs.length->∀(seen:List a7)(h:Hp),h[q]? = some [.tup (setRow seen)]->
  ∃h',aj (L76_0 (ai pg) aj) [.ip (ab m.av),.mp q,gC m.funcs,.int .i64 m.funcs.length,.int .i64 i] h= .ok (.bool (pm seen (m.funcs.drop i)&&R)) h':=by
 have hb:=hm.funcs;intro n
 induction n with
 |zero=>
  intro i hn hi seen h hq;have h2:m.funcs.drop i=[]:=PD (by omega);obtain rfl:i=m.funcs.length:=by omega
  rw[h2];exact hend h
 | succ n ih=>
  intro i hn hi seen h hq;have hlt:i<m.funcs.length:=by omega
  have h1:(i:Int)<(m.funcs.length:Int):=by omega
  have h2:m.funcs.drop i=m.funcs[i]:: m.funcs.drop (i+1):=PC hlt;have hw:IntKind.i64.wrap ((i:Int)+1)=((i+1:Nat):Int):=bz (by omega);have hix:=yA (l:=m.funcs) (n:=(i:Int)) (by omega) h1;rw[PH,Pz m.funcs i hlt]at hix;have hfl:=hm.fns _ (Px hlt);have ih':=fun s=>ih (i+1) (by omega) (by omega) (seen++[s]) (h.set q [.tup (setRow (seen++[s]))]);have hql:q<h.length:=(PK.1 hq).1;rw[h2];generalize m.funcs[i]=f at hix hfl |-;have hlk:=rb hq f.name;have hnm:=t119 f.name;have hps:=t120 f.params hfl.params hfl.pty 6;have hty:=t56 f.result hfl.result;have hre:=t121 f.body hfl.body;have hex:am T .andNot 3 (.int .i64 f.effects) (.int .i64 15)=some (.int .i64 (eU f.effects 15)):=rfl;generalize hcode:aj (L76_0 (ai pg) aj) [.ip (ab m.av),.mp q,gC m.funcs,.int .i64 m.funcs.length,.int .i64 i] h=code;rw[FL76_0]at hcode;simp -implicitDefEqProofs only[L76_0,aH,aM,bV,ao,h1,Qi,au,PF,hix,fB,LD68,PW,Qa,PX,Nat.reduceAdd,Pw,Qv,Qx,nf,Hk,aB,FA68_0,PT,LD9]at hcode;rw[aS hlk]at hcode;have eo:pm seen (f:: m.funcs.drop (i+1))=(!(seen.contains f.name)&&Ck f&&pm (seen++[f.name]) (m.funcs.drop (i+1))):=rfl;rw[eo];unfold Ck;cases hc:seen.contains f.name with
  |true=>
   rw[hc]at hcode;refine⟨h,?_⟩;rw[<- hcode];simp[M.pure]
  | false=>
   rw[hc]at hcode;cases hn2:cX f.name with
   |false=>rw[hn2]at hnm;refine⟨h,?_⟩;rw[<- hcode];simp[hnm,M.pure]
   | true=>
    rw[hn2]at hnm;cases hp2:gg f.params 6 with
    |false=>rw[hp2]at hps;refine⟨h,?_⟩;rw[<- hcode];simp[hnm,hps,M.pure]
    | true=>
     rw[hp2]at hps;cases hr:bg f.result with
     |false=>rw[hr]at hty;refine⟨h,?_⟩;rw[<- hcode];simp[hnm,hps,hty,M.pure]
     | true=>
      rw[hr]at hty;cases hrb:Bl f.body with
      |false=>rw[hrb]at hre;refine⟨h,?_⟩;rw[<- hcode];simp[hnm,hps,hty,hre,M.pure]
      | true=>
       rw[hrb]at hre;by_cases he:eU f.effects 15=0
       ·obtain⟨h',e'⟩:=ih' f.name (by rw[Qo hql]);refine⟨h',?_⟩;have hp:=uU hq f.name hc;rw[<- hcode];have e'':=e';simp only[bE]at e'';simp[hnm,hps,hty,hre,hex,he];rw[aS hp];simpa [hw]using e''
       ·refine⟨h,?_⟩;rw[<- hcode];have he':(eU f.effects 15== 0)=false:=PP.2 he;simp[hnm,hps,hty,hre,hex,he,he',M.pure]
def Mk(m:Ap.Mod)(hm:m.Lim)(q:Nat)(h:Hp):∃h',aj (L76_0 (ai pg) aj) [.ip (ab m.av),.mp q,gC m.funcs,.int .i64 m.funcs.length,.int .i64 m.funcs.length] h= .ok (.bool (tD m)) h':=by
 have hnm:=t119 m.name;have hv:=t120 m.vars hm.vars hm.vty 8;have hi:=t122 m.init hm.init hm.ies m.vars.length;have ho:=t120 m.old hm.old hm.oty 8;have hf:=fun n=>t122 m.forward hm.forward hm.fes n;have hb:=t122 m.back hm.back hm.bes m.old.length;refine⟨h,?_⟩;rw[FL76_0];unfold tD;generalize gg m.vars 8=b1 at hv |-;generalize (m.init.all Bl&&((m.init.length:Int)== (m.vars.length:Int)))=b2 at hi |-;generalize gg m.old 8=b3 at ho |-;generalize (m.back.all Bl&&((m.back.length:Int)== (m.old.length:Int)))=b4 at hb |-;cases hn:cX m.name with
 |false=>rw[hn]at hnm;simp[L76_0,hnm,M.pure]
 | true =>
  rw[hn]at hnm;by_cases hu:m.uses.length<=12
  ·have hu':¬(12<(m.uses.length:Int)):=by omega
   by_cases hfn:m.funcs.length<=30
   ·have hfn':¬(30<(m.funcs.length:Int)):=by omega
    cases b1 with
    |false=>simp[L76_0,hnm,hu,hu',hfn,hfn',hv,M.pure]
    | true=>
     cases b2 with
     |false=>simp[L76_0,hnm,hu,hu',hfn,hfn',hv,hi,M.pure]
     | true=>
      cases hmv:m.moves with
      |true=>
       have hfv:=hf m.vars.length;rw[Ps rfl];generalize (m.forward.all Bl&&((m.forward.length:Int)== (m.vars.length:Int)))=b5 at hfv |-;cases b3<;>cases b5<;>cases b4<;>simp[L76_0,K76_0,hnm,hu,hu',hfn,hfn',hv,hi,ho,hfv,hb,hmv,M.pure]
      | false=>
       have hfv:=hf 0;rw[if_neg (by decide)];generalize (m.forward.all Bl&&((m.forward.length:Int)== 0))=b5 at hfv |-;by_cases hz:0<m.old.length
       ·have hz':0<(m.old.length:Int):=by omega
        have hz2:¬m.old.length=0:=by omega
        simp[L76_0,K76_0,hnm,hu,hu',hfn,hfn',hv,hi,hmv,hz,hz',hz2,M.pure]
       ·have hz':¬0<(m.old.length:Int):=by omega
        have hz2:m.old.length=0:=by omega
        have hb0:ai pg 122 [bX m.back,.int .i64 0]=M.pure (.bool b4):=by
         rw[hz2]at hb;exact hb
        cases b3<;>cases b5<;>cases b4<;>simp[L76_0,K76_0,hnm,hu,hu',hfn,hfn',hv,hi,ho,hfv,hb0,hmv,hz,hz',hz2,M.pure]
   ·have hfn':30<(m.funcs.length:Int):=by omega
    simp[L76_0,hnm,hu,hu',hfn,hfn',M.pure]
  ·have hu':12<(m.uses.length:Int):=by omega
   simp[L76_0,hnm,hu,hu',M.pure]
theorem HM(m:Ap.Mod)(hm:m.Lim)(q:Nat)(R:Bool)(hend:∀h:Hp,∃h',aj (L76_1 (ai pg) aj) [.ip (ab m.av),.mp q,strs m.uses,.int .i64 m.uses.length,.int .i64 m.uses.length] h= .ok (.bool R) h'):∀(n i:Nat),m.uses.length-i=n->i<=m.uses.length->∀(seen:List a7)(h:Hp),h[q]? = some [.tup (setRow seen)]->
  ∃h',aj (L76_1 (ai pg) aj) [.ip (ab m.av),.mp q,strs m.uses,.int .i64 m.uses.length,.int .i64 i] h= .ok (.bool (FS seen (m.uses.drop i)&&R)) h':=by
 have hb:=hm.uses;intro n
 induction n with
 |zero=>
  intro i hn hi seen h hq;have h2:m.uses.drop i=[]:=PD (by omega);obtain rfl:i=m.uses.length:=by omega
  rw[h2];exact hend h
 | succ n ih=>
  intro i hn hi seen h hq;have hlt:i<m.uses.length:=by omega
  have h1:(i:Int)<(m.uses.length:Int):=by omega
  have h2:m.uses.drop i=m.uses[i]:: m.uses.drop (i+1):=PC hlt;have hw:IntKind.i64.wrap ((i:Int)+1)=((i+1:Nat):Int):=bz (by omega);have hix:=p7 (l:=m.uses) (n:=(i:Int)) (by omega) h1;rw[PH,Pz m.uses i hlt]at hix;have ih':=fun s=>ih (i+1) (by omega) (by omega) (seen++[s]) (h.set q [.tup (setRow (seen++[s]))]);have hql:q<h.length:=(PK.1 hq).1;rw[h2];generalize m.uses[i]=s at hix |-;have hlk:=rb hq s;have hnm:=t119 s;generalize hcode:aj (L76_1 (ai pg) aj) [.ip (ab m.av),.mp q,strs m.uses,.int .i64 m.uses.length,.int .i64 i] h=code;rw[FL76_1]at hcode;simp -implicitDefEqProofs only[L76_1,aH,aM,bV,ao,h1,Qi,au,PF,hix,gw,LD9]at hcode;rw[aS hlk]at hcode;have eo:FS seen (s:: m.uses.drop (i+1))=(!(seen.contains s)&&cX s&&FS (seen++[s]) (m.uses.drop (i+1))):=rfl;rw[eo];cases hc:seen.contains s with
  |true=>
   rw[hc]at hcode;refine⟨h,?_⟩;rw[<- hcode];simp[M.pure]
  | false=>
   rw[hc]at hcode;cases hn2:cX s with
   |false=>rw[hn2]at hnm;refine⟨h,?_⟩;rw[<- hcode];simp[hnm,M.pure]
   |true=>
    rw[hn2]at hnm;obtain⟨h',e'⟩:=ih' s (by rw[Qo hql]);refine⟨h',?_⟩;have hp:=uU hq s hc;rw[<- hcode];have e'':=e';simp only[bE]at e'';simp[hnm];rw[aS hp];simpa [hw]using e''
theorem t76(m:Ap.Mod)(hm:m.Lim):ai pg 76 [m.av]=M.pure (.bool (lF m)):=by
 have hend:∀h:Hp,∃h',aj (L76_1 (ai pg) aj) [.ip (ab m.av),.mp 0,strs m.uses,.int .i64 m.uses.length,.int .i64 m.uses.length] h= .ok (.bool (pm [] m.funcs&&tD m)) h':=fun h=>by
  have h1:¬((m.uses.length:Int)<(m.uses.length:Int)):=by omega
  obtain⟨h',e⟩:=HL m hm h.length (tD m) (fun h=>Mk m hm _ h) m.funcs.length 0 rfl (P8 _) [] (h++[[.tup []]]) (by simp[setRow]);rw[PT]at e;refine⟨h',?_⟩;rw[FL76_1];have hn:ga h= .ok (.mp h.length) (h++[[.tup []]]):=rfl;simp only[bE]at e;simp -implicitDefEqProofs only[L76_1,aH,aM,bV,ao,h1,QR,au,Pr,PE];rw[aS hn];simp only[bE,FA29_4,P6,PT,ao,LD25,yB];exact e
 obtain⟨h',e⟩:=HM m hm 0 _ hend m.uses.length 0 rfl (P8 _) [] ([]++[[.tup []]]) rfl;rw[PT]at e;rw[C76];funext hp;have key:S76 (ai pg) aj (cl az m.av) []= .ok (.bool (lF m)) h':=by
  have hn:ga []= .ok (.mp 0) ([]++[[.tup []]]):=rfl;simp only[bE]at e;rw[ib];simp -implicitDefEqProofs only[S76];rw[aS hn];simp only[bE,FA29_1,P6,PT,ao,LD22,nU];exact e
 show aI _ hp=R.ok (.bool (lF m)) hp;unfold aI;rw[key];rfl
end Go.Proofs.YtihmmkncokjbaaaGreatDoor
