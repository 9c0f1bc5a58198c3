/- What the functions of the seat compute, part 8: the texts of the claim, one behind the other. Conditions: bounds, as each theorem names them. -/
import Derived.Test.YtkkabinknmldeaaGreatTg
import Derived.Lib.SmallJoins
set_option linter.unusedSimpArgs false
set_option linter.unusedVariables false
namespace Go.Proofs.YtkkabinknmldeaaGreat
open Go Go.Av Go.Av.Ap
set_option maxRecDepth 100000
theorem Nc(m:Mod):ah T 29 (.ip (ab m.av))=some m.av:=by simp
theorem t160(p:List Mod)(hp:p.length≤1099511627776):ai pg 160 [cw p]=M.pure (.int .i64 (dG p)):=by
 let D:Nat→Bool:=fun i=>(p.take i).any fun m=>m.name== (p[i]?.getD default).name
 have hloop:∀(n k:Nat),p.length - k=n→k≤p.length→aj (L160_0 (ai pg) aj) [cw p,cw p,.int .i64 p.length,.int .i64 k]=M.pure (.int .i64 (if (List.range' k n).any D=true then 5 else 0)):=by
  intro n
  induction n with
  | zero=>
   intro k hk hl
   obtain rfl:k=p.length:=by omega
   rw[FL160_0]
   simp[L160_0]
  | succ n ih=>
   intro k hk hl
   have h1:(k:Int) < (p.length:Int):=by omega
   have hlt:k < p.length:=by omega
   have hi:=lr (l:=p) (n:=(k:Int)) (by omega) h1
   rw[show ((k:Int)).toNat=k by omega,getElem!_pos p k hlt] at hi
   have hs:dx T 42 (cw p) none (some (.int .i64 k)) none=some (cw (p.take k)):=by
    have:=uc (T:=T) (t:=42) (e:=29) rfl rfl rfl (p.map Mod.av) (n:=(k:Int)) (by omega) (by simp;omega)
    simpa [cw,List.map_take] using this
   have ha:=t236 (.fn (.func 237) [] [.ip (ab p[k].av)]) (fun m=>m.name== p[k].name) (p.take k) (by simp;omega) (fun g=>by simp[cl,dL]) (fun m _=>t237 m p[k])
   have hD:D k=((p.take k).any fun m=>m.name== p[k].name):=by simp only[D,List.getElem?_eq_getElem hlt,Option.getD_some]
   have hw:IntKind.i64.wrap ((k:Int) + 1)=((k + 1:Nat):Int):=bq (by omega)
   rw[FL160_0]
   simp -implicitDefEqProofs only[L160_0,aL,aS,bz,ar,aA,h1,decide_true,if_true,hi,Nc,ba (km _),aB,bY,hs,ha,cX,hw]
   rw[ih (k + 1) (by omega) (by omega),List.range'_succ,List.any_cons,hD]
   generalize ((p.take k).any fun m=>m.name== p[k].name)=b
   generalize (List.range' (k + 1) n).any D=c
   cases b <;> cases c <;> rfl
 rw[C160,kH]
 have h0:=hloop p.length 0 (by omega) (by omega)
 have ht:kq p=(List.range' 0 p.length).any D:=by
  unfold kq
  rw[List.range_eq_range']
 have hS:S160 (ai pg) aj (cw p)=M.pure (.int .i64 (dG p)):=by
  unfold dG
  rw[ht]
  by_cases h20:20 < p.length
  ·have h20':(20:Int) < (p.length:Int):=by omega
   simp only[h20,if_true]
   simp -implicitDefEqProofs only[S160,yC,ar,qb,aA,h20',decide_true,if_true]
  ·have:¬ ((20:Int) < (p.length:Int)):=by omega
   simp only[h20,if_false]
   simp -implicitDefEqProofs only[S160,yC,ar,qb,aA,this,decide_false,Bool.false_eq_true,if_false]
   exact h0
 rw[hS]
 exact bM fun g=>rfl
theorem t239(m:Mod)(v:Vars)(hv:bT v.values≤4611686018427387904)(_hm:m.vars.length≤1099511627776):ai pg 239 [m.av,v.av]=M.pure (.bool (v.module== m.name&&(v.values.length== m.vars.length&&v.values.all (bA 4)))):=by
 have ha:=uy 240 t240 v.values hv
 have e1:(((v.values.length:Nat):Int)== ((m.vars.length:Nat):Int))=(v.values.length== m.vars.length):=by rw[Bool.eq_iff_iff];simp
 rw[C239]
 simp[S239,ha,e1]
 cases v.module== m.name <;> cases (v.values.length== m.vars.length) <;> simp
theorem FW(v:Vars):ah T 62 (.ip (ab v.av))=some v.av:=by simp
theorem t161(p:List Mod)(st:List Vars)(hp:p.length≤1099511627776)(hm:∀ m∈p,m.vars.length≤1099511627776)(hv:∀ v∈st,bT v.values≤4611686018427387904):ai pg 161 [cw p,cD st]=M.pure (.bool (d9 p st)):=by
 let F:Mod→Vars→Bool:=fun m v=>v.module== m.name&&(v.values.length== m.vars.length&&v.values.all (bA 4))
 have hloop:p.length=st.length→∀(n:Nat)(i:Int),p.length - i.toNat=n→0≤i→i≤p.length→
   aj (L238_0 (ai pg) aj) [cD st,.fn (.func 239) [] [],cw p,.int .i64 p.length,.int .i64 i]=M.pure (.bool (iz F (p.drop i.toNat) (st.drop i.toNat))):=by
  intro hab n
  induction n with
  | zero=>
   intro i hn hi hl
   rw[FL238_0]
   simp only[L238_0]
   have h1:¬ (i < (p.length:Int)):=by omega
   have h2:p.drop i.toNat=[]:=List.drop_eq_nil_of_le (by omega)
   have h3:st.drop i.toNat=[]:=List.drop_eq_nil_of_le (by omega)
   simp[h1,h2,h3,iz]
  | succ n ih=>
   intro i hn hi hl
   have h1:i < (p.length:Int):=by omega
   have hlt:i.toNat < p.length:=by omega
   have hlt':i.toNat < st.length:=by omega
   have h3:=t239 p[i.toNat] st[i.toNat] (hv _ (List.getElem_mem hlt')) (hm _ (List.getElem_mem hlt))
   have h4:=ih (i + 1) (by omega) (by omega) (by omega)
   rw[show (i + 1).toNat=i.toNat + 1 by omega] at h4
   have i1:=lr (l:=p) (n:=i) hi h1
   have i2:=GT (l:=st) (n:=i) hi (by omega)
   rw[getElem!_pos p _ hlt] at i1
   rw[getElem!_pos st _ hlt'] at i2
   have hw:IntKind.i64.wrap (i + 1)=i + 1:=aV (by omega) (by omega)
   have hcv:∀ x y:AV,bw (ai pg) (.fn (.func 239) [] []) [x,y]=ai pg 239 [x,y]:=fun _ _=>rfl
   have hm1:∀ m:Mod,AV.agg (ab m.av)=m.av:=fun m=>rfl
   have hv1:∀ v:Vars,AV.agg (ab v.av)=v.av:=fun v=>rfl
   rw[FL238_0,Bu F p st i.toNat hlt hlt']
   simp -implicitDefEqProofs only[L238_0,aL,aS,bz,ar,aA,h1,decide_true,if_true,i1,i2,Nc,FW,ba (km _),ba (mo _),aB,hm1,hv1,hcv,h3,dS,cX,hw,h4]
   have hF:F p[i.toNat] st[i.toNat]=(st[i.toNat].module== p[i.toNat].name&&(st[i.toNat].values.length== p[i.toNat].vars.length&&st[i.toNat].values.all (bA 4))):=rfl
   rw[hF]
   generalize (st[i.toNat].module== p[i.toNat].name&&(st[i.toNat].values.length== p[i.toNat].vars.length&&st[i.toNat].values.all (bA 4)))=b
   cases b <;> simp
 have hT:ai pg 238 [cw p,cD st,.fn (.func 239) [] []]=M.pure (.bool (iz F p st)):=by
  rw[C238]
  by_cases h:p.length=st.length
  ·have:=hloop h p.length 0 rfl (by omega) (by omega)
   simp[S238,h,cl,dL] at this ⊢
   simp[this]
  ·have h3:(p.length != st.length)=true:=by simp[h]
   simp[S238,h3,pm F p st h,cl,dL]
 rw[C161]
 simp only[S161,kH,wz,hT,aB]
 exact bM fun g=>rfl
def nD:Except Int (List Vars)→AV
 | .ok st=>.tup [cD st,.int .i64 0]
 | .error e=>.tup [.sl [],.int .i64 e]
theorem E5{e:Exp}{ns:List aU}{vs:List Val}{c:Int}{s:Ms}(h:ny e ns vs= .er c s):c≠0:=by
 unfold ny at h
 split at h
 ·exact wK h
 ·cases h;decide
theorem wY(outer:List AV→M AV)(p:List Mod)(out:List Vars)(i:AV)(nm:aU)(es:List Exp)(hes:∀ e∈es,bC e)(hlen:es.length≤274877906944)(hout:out.length≤1099511627776):∀(B A:List Exp)(acc:List Val)(k:Int),A++B=es→acc.length=A.length→i= .int .i64 k→-4611686018427387904≤k→k≤4611686018427387904→
  aj (L70_0 (ai pg) aj outer) [cD out,cw p,.int .i64 p.length,i,cb es,.int .i64 es.length,.int .i64 A.length,.str nm,vals acc]=
  match iI B with
  | .error c=>M.pure (.tup [.sl [],.int .i64 c])
  | .ok vs=>outer [cD (out++[⟨nm,acc++vs⟩]),cw p,.int .i64 p.length,.int .i64 (k + 1)]
 | [],A,acc,k,e,hac,hi,hk1,hk2=>by
  simp only[List.append_nil] at e
  subst e
  subst hi
  have hb:aI T 53 1 [(0,.agg [.str nm,vals acc])]=some (cD [⟨nm,acc⟩]):=rfl
  have ha:cP T 53 (cD out) (cD [⟨nm,acc⟩])=some (cD (out++[⟨nm,acc⟩])):=Mv (by simp;omega)
  have hw:IntKind.i64.wrap (k + 1)=k + 1:=aV (by omega) (by omega)
  rw[FL70_0]
  simp -implicitDefEqProofs only[L70_0,aL,aS,bz,ar,aA,Int.lt_irrefl,decide_false,Bool.false_eq_true,if_false,hb,ha,cX,hw]
  simp[iI]
 | x:: B,A,acc,k,e,hac,hi,hk1,hk2=>by
  have hll:A.length + (B.length + 1)=es.length:=by rw[← e];simp
  have h1:(A.length:Int) < (es.length:Int):=by omega
  have hx:es[A.length]'(by omega)=x:=by subst e;simp
  have hm:x∈es:=by rw[← e];simp
  have hix:=lj (l:=es) (n:=(A.length:Int)) (by omega) h1
  rw[show ((A.length:Int)).toNat=A.length by omega,getElem!_pos es A.length (by omega),hx] at hix
  have hex:ah T 74 (.ip (ab x.av))=some x.av:=by simp
  have hx1:∀ e:Exp,AV.agg (ab e.av)=e.av:=fun _=>rfl
  have hcall:=t94 x [] [] (hes x hm) (by simp) (by simp[bT])
  have hcall':ai pg 94 [x.av,.sl [],.sl []]=M.pure (l5 (ny x [] [])):=hcall
  have hw:IntKind.i64.wrap ((A.length:Int) + 1)=((A.length + 1:Nat):Int):=bq (by omega)
  have hne:∀ a b:Int,am T .neq 33 (.int .i64 a) (.int .i64 b)=some (.bool (a != b)):=fun _ _=>rfl
  rw[FL70_0]
  simp -implicitDefEqProofs only[L70_0,aL,aS,bz,ar,aA,h1,decide_true,if_true,hix,hex,ba (iq x),aB,hx1,hcall']
  unfold iI
  cases hr:ny x [] [] with
  | er c s=>
   have hc0:(c != 0)=true:=by
    have:=E5 hr
    simpa using this
   simp -implicitDefEqProofs only[l5,cO,List.getElem?_cons_zero,List.getElem?_cons_succ,ar,ba (eq default),aB,hne,hc0,aA,if_true]
  | ok v s=>
   have hb2:aI T 47 1 [(0,v.av)]=some (vals [v]):=by rw[v.av_eq];simp[vals,eF,v.av_eq];rfl
   have ha2:cP T 47 (vals acc) (vals [v])=some (vals (acc++[v])):=GQ (by simp;omega)
   have hc1:cn (vals (acc++[v]))=M.pure (vals (acc++[v])):=rfl
   have hvv:∀ v:Val,AV.agg (ab v.av)=v.av:=fun v=>by simp
   have h00:((0:Int) != 0)=false:=rfl
   have hvl:ah T 51 (.ip (ab v.av))=some v.av:=by simp
   have ih:=wY outer p out i nm es hes hlen hout B (A++[x]) (acc++[v]) k (by rw[← e];simp) (by simp[hac]) hi hk1 hk2
   simp only[List.append_assoc,List.singleton_append,List.length_append,List.length_singleton] at ih
   simp -implicitDefEqProofs only[l5,cO,List.getElem?_cons_zero,List.getElem?_cons_succ,ar,ba (eq v),aB,hne,h00,aA,Bool.false_eq_true,if_false,hvv,hvl,hb2,ha2,hc1,cX,hw,ih]
   cases iI B <;> rfl
theorem t70(p:List Mod)(hp:p.length≤1099511627776)(hm:∀ m∈p,m.vars.length≤1099511627776∧m.init.length≤274877906944∧∀ e∈m.init,bC e):ai pg 70 [cw p]=M.pure (nD (fL p)):=by
 have hloop:∀(B A:List Mod)(out:List Vars),A++B=p→out.length=A.length→aj (L70_1 (ai pg) aj) [cD out,cw p,.int .i64 p.length,.int .i64 A.length]=
   M.pure (match eK B with | .error c=>.tup [.sl [],.int .i64 c] | .ok r=>.tup [cD (out++r),.int .i64 0]):=by
  intro B
  induction B with
  | nil=>
   intro A out e ho
   simp only[List.append_nil] at e
   subst e
   rw[FL70_1]
   simp -implicitDefEqProofs only[L70_1,aL,aS,bz,ar,aA,Int.lt_irrefl,decide_false,Bool.false_eq_true,if_false,eK,List.append_nil]
  | cons x B ih=>
   intro A out e ho
   have hll:A.length + (B.length + 1)=p.length:=by rw[← e];simp
   have h1:(A.length:Int) < (p.length:Int):=by omega
   have hx:p[A.length]'(by omega)=x:=by subst e;simp
   have hmm:x∈p:=by rw[← e];simp
   obtain⟨m1,m2,m3⟩:=hm x hmm
   have hix:=lr (l:=p) (n:=(A.length:Int)) (by omega) h1
   rw[show ((A.length:Int)).toNat=A.length by omega,getElem!_pos p A.length (by omega),hx] at hix
   have hB:aM T true 62 [(0,.str x.name)]=some (.agg [.str x.name,.hn]):=rfl
   have hC:ao 2 [1] (.agg [.str x.name,.hn])=M.pure (.agg [.str x.name,.hn]):=rfl
   have hin:=wY (aj (L70_1 (ai pg) aj)) p out (.int .i64 A.length) x.name x.init m3 m2 (by omega) x.init [] [] A.length rfl rfl rfl (by omega) (by omega)
   rw[FL70_1]
   simp -implicitDefEqProofs only[L70_1,aL,aS,bz,ar,aA,h1,decide_true,if_true,hix,Nc,ba (km x),aB,bY]
   simp -implicitDefEqProofs only[aL,aS,ar,aA,aB,bY,br,FA29_0,FA29_2,FA29_3,List.drop_succ_cons,List.drop_zero,LD9,LD24,LD23,ul,qv,hB,hC,kF]
   unfold eK
   by_cases hl:x.init.length=x.vars.length
   ·have hl':((x.init.length:Int) != (x.vars.length:Int))=false:=by simp[hl]
    simp only[hl',Bool.false_eq_true,if_false,if_pos hl]
    have hz:((([]:List Exp).length:Nat):Int)=0:=rfl
    rw[hz] at hin
    have hv0:vals []= .sl []:=rfl
    rw[hv0] at hin
    rw[hin]
    cases iI x.init with
    | error c=>rfl
    | ok vs=>
     have:=ih (A++[x]) (out++[⟨x.name,vs⟩]) (by rw[← e];simp) (by simp[ho])
     simp only[List.length_append,List.length_singleton] at this
     have hcast:((A.length:Int) + 1)=((A.length + 1:Nat):Int):=by omega
     simp only[List.nil_append,hcast,this]
     cases eK B <;> simp
   ·have hl':((x.init.length:Int) != (x.vars.length:Int))=true:=by
     rw[bne_iff_ne]
     omega
    simp only[hl',if_true,if_neg hl]
 have h0:=hloop p [] [] rfl rfl
 have hne:∀ a b:Int,am T .neq 33 (.int .i64 a) (.int .i64 b)=some (.bool (a != b)):=fun _ _=>rfl
 have hS:S70 (ai pg) aj (cw p)=M.pure (nD (fL p)):=by
  unfold fL
  by_cases hn:dG p=0
  ·have hn':(dG p != 0)=false:=by simp[hn]
   simp -implicitDefEqProofs only[S70,t160 p hp,aB,hne,ar,hn',aA,Bool.false_eq_true,if_false,yC]
   rw[if_pos hn]
   simp only[List.length_nil,List.nil_append] at h0
   have:cD []= .sl []:=rfl
   rw[this] at h0
   have hz:((0:Nat):Int)=0:=rfl
   rw[hz] at h0
   rw[h0]
   cases eK p <;> rfl
  ·have hn':(dG p != 0)=true:=by simp[hn]
   simp -implicitDefEqProofs only[S70,t160 p hp,aB,hne,ar,hn',aA,if_true]
   rw[if_neg hn]
   rfl
 rw[C70,kH,hS]
 exact bM fun g=>by
  cases fL p with
  | error e=>rfl
  | ok st=>simp[nD,cl,dL]
theorem zJ(s:aU)(v:AV)(h:aO v=true):cm 2 (.agg [.str s,v])=true:=by
 simp only[cm,cL,ab,List.all_cons,List.all_nil]
 rw[h]
 rfl
theorem zN{p:List Mod}{nm:SNm}{tag:Nat→Nat}{dv cv sv:AV}{m:Ms}{h:Hp}(R:RepT (rowP p nm.told) nm tag dv cv sv m h)(hnil:m.state=[]→nm.cells=[]∧nm.names=[])(x:Vars)(hb:x.values.length≤274877906944)(hs:m.state.length≤1099511627776):
  ∃ av h1 sv' h2 h3 nm',ai pg 166 [vals x.values] h= .ok av h1∧aO av=true∧aR T 53 (.hp 0 11) h= .ok sv h∧appH T 53 false sv (.sl [.agg [.str x.module,av]]) h1= .ok sv' h2∧bo T 53 (.hp 0 11) sv' h2= .ok (.tup []) h3∧
   nm'.names=nm.names++[x.module]∧nm'.told=nm.told∧eH p nm' { m with state:=m.state++[x.values] } h3:=by
 have e0:ai pg 166 [vals x.values]=di T 47 (ai pg) [vals x.values]:=dy hOther rfl _
 have e1:=po (T:=T) (t:=47) rfl rfl rfl rfl rfl (by decide) (ai pg) x.values (show x.values.length * 64≤140737488355328 by omega) h
 have hl:aR T 53 (.hp 0 11) h= .ok sv h:=dc rfl rfl R.r0 rfl
 -- the clone
 have hcl:∃ av h1 tag1,ai pg 166 [vals x.values] h= .ok av h1∧RepT (rowP p nm.told) nm tag1 dv cv sv m h1∧aO av=true∧((x.values=[]∧av= .sl [])∨∃ r,av= .hs r 0 x.values.length 4 true∧tag1 r=6 + m.state.length∧h1[r]? = some (bp x.values)):=by
  rw[e0]
  by_cases hv:x.values=[]
  ·rw[if_pos hv] at e1
   exact⟨_,h,tag,e1,R,rfl,.inl ⟨hv,rfl⟩⟩
  ·rw[if_neg hv] at e1
   exact⟨_,_,_,e1,(R.more (bp x.values) (6 + m.state.length)).1,rfl,.inr ⟨h.length,rfl,by simp,by simp⟩⟩
 obtain⟨av,h1,tag1,c1,R1,ok1,A1⟩:=hcl
 obtain⟨h2,sv',tag',p1,K,H,hc⟩:=rP (T:=T) (t:=53) rfl rfl rfl rfl (by decide) rfl (by decide) (x:=.agg [.str x.module,av]) R1.st (fun h0=>by
  have h00:m.state=[]:=List.eq_nil_of_length_eq_zero h0
  obtain⟨n1,n2⟩:=hnil h00
  rw[h00,n2]
  exact⟨n1.symm,rfl⟩) (fun cs h=>h.2.ok) (zJ _ _ ok1) (show (m.state.length + 1) * 40≤140737488355328 by omega)
 have h0:=(K 0 _ R1.r0 (by rw[R1.t0];decide)).1
 have hac:ab sv'=[sv']:=(fN hc).2.1
 have:=R1.pushState (n:=x.module) (l:=x.values) K A1 H
 refine⟨av,h1,sv',h2,_,⟨nm.names++[x.module],sv',nm.cells++[.str x.module,av],nm.told⟩,c1,ok1,hl,p1,fp rfl h0 (fN hc).1 (show 11 + 1≤12 by decide) (by decide),rfl,rfl,tag',dv,cv,sv',?_⟩
 rw[hac]
 exact this
theorem yM(s:aU)(v:AV)(h:aO v=true):aM T false 62 [(0,.str s),(1,v)]=some (.agg [.str s,v]):=by
 cases v with
 | any=>cases h
 | agg _=>cases h
 | tup _=>cases h
 | _=>rfl
theorem wu(x:AV)(hx:cL x=some 2):aI T 53 1 [(0,x)]=some (.sl [x]):=by
 have h1:aI T 53 1 [(0,x)]=(iO 2 (List.replicate 1 (.agg [.str [],.sl []])) [(0,x)]).map .sl:=rfl
 rw[h1]
 simp only[iO,hx,List.length_replicate]
 rfl
theorem tQ{p:List Mod}(st:List Vars)(hst:st.length≤1099511627776)(hv:∀ x∈st,x.values.length≤274877906944)(y0 y2 y3 y7 y8 y9 y10 y11 y12 y13 y14:AV):∀(B A:List Vars)(nm:SNm)(m:Ms)(h:Hp),A++B=st→m.state=A.map (·.values)→nm.names=A.map (·.module)→(m.state=[]→nm.cells=[])→nm.told=false→eH p nm m h→
  ∃ nm' h',nm'.names=st.map (·.module)∧nm'.told=false∧eH p nm' { m with state:=st.map (·.values) } h'∧
   aj (L71_0 (ai pg) aj) [y0,.ip [.hp 0 0],y2,y3,cD st,.int .i64 st.length,.int .i64 A.length,y7,y8,y9,y10,y11,y12,y13,y14] h=
   aj (L71_0 (ai pg) aj) [y0,.ip [.hp 0 0],y2,y3,cD st,.int .i64 st.length,.int .i64 st.length,y7,y8,y9,y10,y11,y12,y13,y14] h'
 | [],A,nm,m,h,e,hs,hn,hc,ht,R=>by
  simp only[List.append_nil] at e
  subst e
  refine⟨nm,h,hn,ht,?_,rfl⟩
  rw[← hs]
  exact R
 | x:: B,A,nm,m,h,e,hs,hn,hc,ht,R=>by
  have hll:A.length + (B.length + 1)=st.length:=by rw[← e];simp
  have h1:(A.length:Int) < (st.length:Int):=by omega
  have hx:st[A.length]'(by omega)=x:=by subst e;simp
  have hm:x∈st:=by rw[← e];simp
  have hix:=GT (l:=st) (n:=(A.length:Int)) (by omega) h1
  rw[show ((A.length:Int)).toNat=A.length by omega,getElem!_pos st A.length (by omega),hx] at hix
  have hmsl:m.state.length=A.length:=by rw[hs];simp
  obtain⟨tag,dv,cv,sv,R0⟩:=R
  obtain⟨av,h2,sv',h3,h4,nm',c1,ok1,l1,p1,s1,n1,t1,R'⟩:=zN R0 (fun h0=>⟨hc h0,by
   rw[hn]
   have:A=[]:=by
    apply List.eq_nil_of_length_eq_zero
    rw[← hmsl,h0]
    rfl
   rw[this];rfl⟩) x (hv x hm) (by omega)
  obtain⟨nm2,h',j1,j2,j3,j4⟩:=tQ (p:=p) st hst hv y0 y2 y3 y7 y8 y9 y10 y11 y12 y13 y14 B (A++[x]) nm' _ h4 (by rw[← e];simp) (by simp[hs]) (by rw[n1,hn];simp) (fun h0=>by simp at h0) (t1.trans ht) R'
  refine⟨nm2,h',j1,j2,j3,?_⟩
  rw[← j4]
  generalize hcode:aj (L71_0 (ai pg) aj) [y0,.ip [.hp 0 0],y2,y3,cD st,.int .i64 st.length,.int .i64 A.length,y7,y8,y9,y10,y11,y12,y13,y14] h=code
  have hlp:ah T 238 (.ip [.hp 0 0])=some (.hp 0 0):=rfl
  have hvv:AV.agg (ab x.av)=x.av:=rfl
  have hac:ab x.av=[.str x.module,vals x.values]:=rfl
  have hw:IntKind.i64.wrap ((A.length:Int) + 1)=((A.length + 1:Nat):Int):=bq (by omega)
  have ls:∀ g:AV→M AV,ae (aR T 53 (.hp 0 11)) g h=g sv h:=fun g=>bS l1
  rw[FL71_0] at hcode
  simp -implicitDefEqProofs only[L71_0,aL,aS,bz,ar,aA,h1,decide_true,if_true,hix,FW,ba (mo x),aB,bY,hlp,dV,FH240_4,FH55_4,Nat.zero_add,Nat.reduceAdd,ls] at hcode
  simp -implicitDefEqProofs only[ar,aB,bY,hac,FA62_0,FA62_1,List.drop_succ_cons,List.drop_zero,LD9,LD47] at hcode
  rw[bS c1] at hcode
  simp -implicitDefEqProofs only[yM _ _ ok1,wu (.agg [.str x.module,av]) rfl,ar] at hcode
  rw[bS p1] at hcode
  rw[bS s1] at hcode
  simp -implicitDefEqProofs only[cX,ar,hw] at hcode
  rw[← hcode]
  simp only[List.length_append,List.length_singleton]
theorem Bz(l:List Val)(hl:bT l≤4611686018427387904):ai pg 164 [vals l,.fn (.func 165) [] []]=M.pure (.bool !(l.all (bA 4))):=uy 165 t165 l hl
def NE:SNm:=⟨[],.hn,[],false⟩
def Gg(p:List Mod)(world:List Int)(fuel:Int):List AV:=[cw p,ints world,.int .i64 fuel,.int .i64 0,.int .i64 0,.int .i64 0,.int .i64 0,.hn,.hn,.hn,.hn,.hn]
theorem rT(p:List Mod)(world:List Int)(fuel:Int):eH p NE (aX world fuel []) [Gg p world fuel]:=
 ⟨fun _=>0,.hn,.hn,.hn,rfl,rfl,.inl ⟨rfl,rfl⟩,.inl ⟨rfl,rfl⟩,.inl ⟨rfl,rfl⟩,rfl,fun h=>by cases h⟩
theorem zp{p:List Mod}{nm:SNm}{m:Ms}{h:Hp}(R:eH p nm m h)(e:Int)(v:Val):∃ h1 cells,(bo T 51 (.hp 0 5) v.av h= .ok (.tup []) h1)∧∃ h2,bo T 33 (.hp 0 4) (.int .i64 e) h1= .ok (.tup []) h2∧aR T 55 (.hp 0 4) h2= .ok (.agg cells) h2∧
  ae (ao 8 [] (.agg cells)) (fun w=>M.pure (AV.agg [nth (ab w) 0,nth (ab w) 1,nth (ab w) 2,nth (ab w) 3,nth (ab w) 4,nth (ab w) 5,nth (ab w) 6,nth (ab w) 7])) h2= .ok (.agg cells) h2∧ix 6 h2 (.agg cells)=Out.av ⟨e,v,m.deeds,m.calls,List.zipWith Vars.mk nm.names m.state⟩:=by
 obtain⟨tag,dv,cv,sv,R⟩:=R
 have hlt:0 < h.length:=(List.getElem?_eq_some_iff.1 R.r0).1
 have s1:=fp (T:=T) (t:=51) rfl R.r0 (v:=v.av) (k:=5) (eq v) (show 5 + 4≤12 by decide) (by decide)
 have e1:setCells (rowP p nm.told m dv cv sv) 5 (ab v.av)=[vu nm.told p,su nm.told m.world,.int .i64 m.fuel,.int .i64 m.frames,.int .i64 0,.int .i64 v.kind,.int .i64 v.n,strs v.names,vals v.values,dv,cv,sv]:=by
  rw[dU]
  rfl
 rw[e1] at s1
 have s2:=fp (T:=T) (t:=33) rfl (h:=h.set 0 [vu nm.told p,su nm.told m.world,.int .i64 m.fuel,.int .i64 m.frames,.int .i64 0,.int .i64 v.kind,.int .i64 v.n,strs v.names,vals v.values,dv,cv,sv]) (l:=0) (k:=4) (v:=.int .i64 e) (List.getElem?_set_self hlt) rfl (show 4 + 1≤12 by decide) (by decide)
 rw[List.set_set] at s2
 have e2:setCells [vu nm.told p,su nm.told m.world,.int .i64 m.fuel,.int .i64 m.frames,.int .i64 0,.int .i64 v.kind,.int .i64 v.n,strs v.names,vals v.values,dv,cv,sv] 4 (ab (.int .i64 e))=[vu nm.told p,su nm.told m.world,.int .i64 m.fuel,.int .i64 m.frames,.int .i64 e,.int .i64 v.kind,.int .i64 v.n,strs v.names,vals v.values,dv,cv,sv]:=rfl
 rw[e2] at s2
 refine⟨_,[.int .i64 e,.int .i64 v.kind,.int .i64 v.n,strs v.names,vals v.values,dv,cv,sv],s1,_,s2,?_,?_,?_⟩
 ·exact oN (T:=T) (t:=55) rfl rfl (List.getElem?_set_self hlt) (show 4 + 8≤12 by decide)
 ·have hd:aO dv=true:=by rcases R.ds with ⟨_,rfl⟩ | ⟨q,cs,rfl,_⟩ <;> rfl
  have hc:aO cv=true:=by rcases R.cs with ⟨_,rfl⟩ | ⟨q,cs,rfl,_⟩ <;> rfl
  have hs:aO sv=true:=by rcases R.st with ⟨_,rfl⟩ | ⟨q,cs,rfl,_⟩ <;> rfl
  have hok:cm 8 (.agg [.int .i64 e,.int .i64 v.kind,.int .i64 v.n,strs v.names,vals v.values,dv,cv,sv])=true:=by
   simp only[cm,cL,ab,List.all_cons,List.all_nil,hd,hc,hs]
   rfl
  rw[aY hok]
  rfl
 ·-- the rows but the first one are as they were
  have K:Kp tag tag (fun k=>k=0) h (h.set 0 [vu nm.told p,su nm.told m.world,.int .i64 m.fuel,.int .i64 m.frames,.int .i64 e,.int .i64 v.kind,.int .i64 v.n,strs v.names,vals v.values,dv,cv,sv]):=Kp.kill R.t0 _
  have d1:=Cc (d:=4) (R.ds.keep K (c':=fun cs=>cs=dA m.deeds) (by decide) fun _ h=>h)
  have d2:=Cb (d:=4) (R.cs.keep K (by decide) fun _ h=>h.keep K (by decide))
  have d3:=zt (d:=4) (c0:=nm.cells) (R.st.keep K (by decide) fun _ h=>⟨h.1,h.2.keep K (by omega)⟩)
  rw[nE]
  simp only[cl,dL,d1,d2,d3,mg,jE]
  rfl
theorem Ft{m:M AV}{a r:AV}{h':Hp}(h1:m []= .ok a h')(h2:ix 6 h' a=r):aE m=M.pure r:=by
 funext h
 unfold aE
 rw[h1]
 simp only[M.pure,h2]
theorem uh(o:Out):ae (ao 8 [] o.av) (fun w=>M.pure (AV.agg [nth (ab w) 0,nth (ab w) 1,nth (ab w) 2,nth (ab w) 3,nth (ab w) 4,nth (ab w) 5,nth (ab w) 6,nth (ab w) 7]))=M.pure o.av:=by
 rw[aY (rL o)]
 rfl
theorem jW(e:Int):aM T false 55 [(0,.int .i64 e)]=some (nr e).av:=rfl
theorem Ca{p:List Mod}(LB:LimB p)(st:List Vars)(args:List Val)(world:List Int)(fuel at_:Int)(f:Fun)(hst:st.length≤1099511627776) (hv:∀ x∈st,x.values.length≤274877906944)
  (hat0:0≤at_) (hat:at_ < p.length) (hf:f∈(p[at_.toNat]?.getD default).funcs) (hlen:args.length=f.params.length) (hr:∀ v∈args,Rv v) (hb:d9 p st=true) (hfu:0≤fuel∧fuel≤100000) (y7 y8 y9 y10 y11 y12 y13 y14:AV):
  ∃ a h',aj (L71_0 (ai pg) aj) [.ip (ab (vals args)),.ip [.hp 0 0],.ip [.int .i64 at_],.ip (ab f.av),cD st,.int .i64 st.length,.int .i64 0,y7,y8,y9,y10,y11,y12,y13,y14] [Gg p world fuel]= .ok a h'∧
   ix 6 h' a=(nW (st.map (·.module)) (cF p (bm p 100000) at_ f args (aX world fuel (st.map (·.values))))).av:=by
 obtain⟨nm,h1,n1,n2,R1,e1⟩:=tQ (p:=p) st hst hv (.ip (ab (vals args))) (.ip [.int .i64 at_]) (.ip (ab f.av)) y7 y8 y9 y10 y11 y12 y13 y14 st [] NE (aX world fuel []) _ rfl rfl rfl (fun _=>rfl) rfl (rT p world fuel)
 have hz:((([]:List Vars).length:Nat):Int)=0:=rfl
 rw[hz] at e1
 rw[e1]
 have hbr:=gZ hb
 have e2:({ aX world fuel [] with state:=st.map (·.values) }:Ms)=aX world fuel (st.map (·.values)):=rfl
 rw[e2] at R1
 have G:GoodM p (aX world fuel (st.map (·.values))):=by
  refine⟨⟨fun l hl v hv=>?_,fun c hc=>by simp[aX] at hc⟩,by simp[mu,aX];omega,by simp[aX],by simp[aX];omega,fun i x hx=>?_⟩
  ·simp only[aX,List.mem_map] at hl
   obtain⟨y,hy,rfl⟩:=hl
   exact hbr.2.1 y hy v hv
  ·have hi:i < p.length:=(List.getElem?_eq_some_iff.1 hx).1
   have hi2:i < st.length:=by rw[hbr.1];exact hi
   refine⟨st[i].values,by simp[aX,hi2],?_⟩
   exact (hbr.2.2 i x st[i] hx (List.getElem?_eq_getElem hi2)).2
 have hen:=Ho (nm:=nm) LB 100000 at_ f args _ _ hat0 hat hf hlen hr R1 G (by simp[mu,aX];omega) (by simp[aX];omega)
 have hlp:ah T 238 (.ip [.hp 0 0])=some (.hp 0 0):=rfl
 have hla:ah T 3 (.ip [.int .i64 at_])=some (.int .i64 at_):=rfl
 have hlf:ah T 76 (.ip (ab f.av))=some f.av:=by simp
 have hlv:ah T 47 (.ip (ab (vals args)))=some (vals args):=rfl
 have hcall:∀ h,ai pg 168 [.ip [.hp 0 0],.ip [.int .i64 at_],.ip (ab f.av),.ip (ab (vals args))] h=ae (ai pg 169 [.hp 0 0,.int .i64 at_,f.av,vals args]) (fun v=>ae (ao 4 [] v) fun w=>M.pure (AV.agg [nth (ab w) 0,nth (ab w) 1,nth (ab w) 2,nth (ab w) 3])) h:=fun h=>by
  rw[C168]
  simp -implicitDefEqProofs only[S168,hlp,hla,hlf,hlv,ar]
 have htry:=t167 (.fn (.func 168) [] [.ip [.hp 0 0],.ip [.int .i64 at_],.ip (ab f.av),.ip (ab (vals args))]) h1
 have hcv:bw (ai pg) (.fn (.func 168) [] [.ip [.hp 0 0],.ip [.int .i64 at_],.ip (ab f.av),.ip (ab (vals args))]) []=ai pg 168 [.ip [.hp 0 0],.ip [.int .i64 at_],.ip (ab f.av),.ip (ab (vals args))]:=rfl
 rw[hcv,hcall] at htry
 have how:=dn hen
 generalize hcode:aj (L71_0 (ai pg) aj) [.ip (ab (vals args)),.ip [.hp 0 0],.ip [.int .i64 at_],.ip (ab f.av),cD st,.int .i64 st.length,.int .i64 st.length,y7,y8,y9,y10,y11,y12,y13,y14] h1=code
 rw[FL71_0] at hcode
 simp -implicitDefEqProofs only[L71_0,aL,aS,bz,ar,aA,Int.lt_irrefl,decide_false,Bool.false_eq_true,if_false,hlp] at hcode
 generalize cF p (bm p 100000) at_ f args (aX world fuel (st.map (·.values)))=r at how ⊢
 -- what the catch leaves
 have hfin:∃(e:Int)(v:Val)(s:Ms)(h2:Hp),nW (st.map (·.module)) r=⟨e,v,s.deeds,s.calls,List.zipWith Vars.mk (st.map (·.module)) s.state⟩∧eH p nm s h2∧ai pg 167 [.fn (.func 168) [] [.ip [.hp 0 0],.ip [.int .i64 at_],.ip (ab f.av),.ip (ab (vals args))]] h1= .ok (.tup [v.av,.int .i64 e]) h2:=by
  cases r with
  | ok v s=>
   obtain⟨h',g1,g2⟩:=how
   rw[g1] at htry
   simp only[vR,eq,cond_true] at htry
   refine⟨0,v,s,h',rfl,g2,?_⟩
   rw[htry]
   simp
  | er c s=>
   obtain⟨h',g1,g2⟩:=how
   rw[g1] at htry
   exact⟨c,default,s,h',rfl,g2,htry⟩
 obtain⟨e,v,s,h2,o1,R2,t1⟩:=hfin
 obtain⟨h3,cells,s1,h4,s2,l1,w1,fz⟩:=zp R2 e v
 rw[bS t1] at hcode
 simp -implicitDefEqProofs only[cO,List.getElem?_cons_zero,List.getElem?_cons_succ,ar,dV,FH240_4,FH55_0,FH55_1,Nat.zero_add,Nat.reduceAdd] at hcode
 rw[bS s1] at hcode
 rw[bS s2] at hcode
 rw[bS l1] at hcode
 rw[w1] at hcode
 refine⟨_,_,hcode.symm,?_⟩
 rw[fz,o1,n1]
theorem zg(a b:Int):am T .neq 33 (.int .i64 a) (.int .i64 b)=some (.bool (a != b)):=rfl
theorem t71 {p:List Mod} (LB:LimB p) (st:List Vars) (module fn:aU) (args:List Val) (world:List Int) (fuel:Int) (hst:st.length≤1099511627776) (hv:∀ x∈st,x.values.length≤274877906944∧bT x.values≤4611686018427387904)
  (hargs:bT args≤4611686018427387904):ai pg 71 [cw p,cD st,.str module,.str fn,vals args,ints world,.int .i64 fuel]=M.pure (iH p st module fn args world fuel).av:=by
 have hnm:=t160 p LB.lim.len
 have hbl:=t161 p st LB.lim.len (fun m hm=>(LB.lim.funcs m hm).2) (fun x hx=>(hv x hx).2)
 have hany:=Bz args hargs
 have hcl1:∀ s:aU,cl aw (.str s)= .str s:=fun _=>rfl
 have hcl2:∀ n:Int,cl aw (.int .i64 n)= .int .i64 n:=fun _=>rfl
 rw[C71,kH,wz,hcl1,hcl1,jE,uG,hcl2]
 have key:∃ a h',S71 (ai pg) aj (cw p) (cD st) (.str module) (.str fn) (vals args) (ints world) (.int .i64 fuel) []= .ok a h'∧ix 6 h' a=(iH p st module fn args world fuel).av:=by
  have done:∀(o:Out)(c:M AV),c []=M.pure o.av []→∃ a h',c []= .ok a h'∧ix 6 h' a=o.av:=fun o c h=>⟨o.av,[],h,oz _ o⟩
  generalize hcode:S71 (ai pg) aj (cw p) (cD st) (.str module) (.str fn) (vals args) (ints world) (.int .i64 fuel) []=code
  simp -implicitDefEqProofs only[S71,hnm,aB,zg,ar,aA] at hcode
  unfold iH
  by_cases hn:dG p=0
  ·have hn':(dG p != 0)=false:=by simp[hn]
   have hnn:¬ (dG p≠0):=fun h=>h hn
   simp only[hn',Bool.false_eq_true,if_false] at hcode
   simp only[if_neg hnn]
   have hg1:ax (.bool (decide (fuel < 0))) false 1 (M.pure [.bool (decide (100000 < fuel))])=M.pure [gv (decide (fuel < 0)) false (.bool (decide (100000 < fuel)))]:=dq _ _ _
   have hg2:ax (.bool (decide (fuel < 0)||decide (100000 < fuel))) false 1 (M.pure [.bool !(d9 p st)])=M.pure [gv (decide (fuel < 0)||decide (100000 < fuel)) false (.bool !(d9 p st))]:=dq _ _ _
   simp -implicitDefEqProofs only[bz,qb,ar,hg1,aB,aL,l7,hbl,dS,hg2,aA] at hcode
   by_cases hb:fuel < 0∨100000 < fuel∨d9 p st=false
   ·have hb':(decide (fuel < 0)||decide (100000 < fuel) || !(d9 p st))=true:=by
     simp only[Bool.or_eq_true,decide_eq_true_eq,Bool.not_eq_true']
     rcases hb with h | h | h
     ·exact .inl (.inl h)
     ·exact .inl (.inr h)
     ·exact .inr h
    simp only[hb',if_true,jW,ar,uh] at hcode
    simp only[if_pos hb]
    rw[← hcode]
    exact⟨_,[],rfl,oz _ _⟩
   ·have hb':(decide (fuel < 0)||decide (100000 < fuel) || !(d9 p st))=false:=by
     rw[← Bool.not_eq_true]
     simp only[Bool.or_eq_true,decide_eq_true_eq,Bool.not_eq_true']
     rintro ((h | h) | h)
     ·exact hb (.inl h)
     ·exact hb (.inr (.inl h))
     ·exact hb (.inr (.inr h))
    have hbe:d9 p st=true:=by
     cases h:d9 p st with
     | true=>rfl
     | false=>exact absurd (.inr (.inr h)) hb
    have hfu:0≤fuel∧fuel≤100000:=by omega
    have hB:aM T true 240 [(0,cw p),(1,ints world),(2,.int .i64 fuel)]=some (.agg (Gg p world fuel)):=rfl
    have hnew:∀ g:AV→M AV,ae (newH (Gg p world fuel)) g []=g (.hp 0 0) [Gg p world fuel]:=fun g=>rfl
    have hcell:aH 1 (.hp 0 0)=M.pure (.agg [.hp 0 0]):=rfl
    have hcelli:∀ n:Int,aH 1 (.int .i64 n)=M.pure (.agg [.int .i64 n]):=fun _=>rfl
    have hlp:ah T 238 (.ip [.hp 0 0])=some (.hp 0 0):=rfl
    have hla:∀ n:Int,ah T 3 (.ip [.int .i64 n])=some (.int .i64 n):=fun _=>rfl
    have hmd:=t162 (rT p world fuel) LB.lim module
    have hlt:modAt p module < p.length∨p=[]:=by
     rcases lN (fun (x:Mod)=>x.name== module) p 0 with k | k
     ·have:modAt p module= -1:=k
      left
      omega
     ·have:modAt p module=aZ (fun (x:Mod)=>x.name== module) p 0:=rfl
      left
      omega
    have hlt':modAt p module < p.length:=by
     rcases hlt with h | h
     ·exact h
     ·subst h;show aZ _ [] 0 < _;simp[aZ]
    have hfn:=t163 (rT p world fuel) LB.lim (modAt p module) hlt' fn
    simp only[hb',Bool.false_eq_true,if_false] at hcode
    simp only[if_neg hb]
    simp -implicitDefEqProofs only[hB,ar,bY,hnew,hcell,aB,hlp] at hcode
    rw[bS hmd] at hcode
    simp -implicitDefEqProofs only[hcelli,aB,bY,hlp,ar,hla] at hcode
    rw[bS hfn] at hcode
    cases hf:f9 p (modAt p module) fn with
    | none=>
     rw[hf] at hcode
     simp -implicitDefEqProofs only[rb,cO,List.getElem?_cons_zero,List.getElem?_cons_succ,ar,i9,aB,dS,Bool.not_false,aA,if_true,jW,uh] at hcode
     rw[← hcode]
     exact⟨_,_,rfl,oz _ _⟩
    | some f=>
     rw[hf] at hcode
     obtain⟨f1,f2,f3⟩:=gI hf
     have hac:∀ f:Fun,ab (.agg (ab f.av))=ab f.av:=fun _=>rfl
     have hpar:ah T 23 (.ip (List.drop 2 (ab f.av)))=some (aK f.params):=by simp
     have hlv:ah T 47 (.ip (ab (vals args)))=some (vals args):=rfl
     have hg3:ax (.bool ((args.length:Int) != (f.params.length:Int))) false 1 (M.pure [.bool !(args.all (bA 4))])=M.pure [gv ((args.length:Int) != (f.params.length:Int)) false (.bool !(args.all (bA 4)))]:=dq _ _ _
     simp -implicitDefEqProofs only[rb,cO,List.getElem?_cons_zero,List.getElem?_cons_succ,ar,i9,aB,dS,Bool.not_true,aA,Bool.false_eq_true,if_false,hlv,yD,hac,FA76_2,hpar,qv,kF,hany,hg3,aL,l7] at hcode
     simp only
     by_cases hr:args.length=f.params.length∧args.all (bA 4)=true
     ·have hr':(((args.length:Int) != (f.params.length:Int)) || !(args.all (bA 4)))=false:=by
       have:((args.length:Int) != (f.params.length:Int))=false:=by simp[hr.1]
       rw[this,hr.2]
       rfl
      simp -implicitDefEqProofs only[hr',Bool.false_eq_true,if_false,Jp,ar] at hcode
      simp only[if_pos hr]
      obtain⟨a,h',g1,g2⟩:=Ca LB st args world fuel (modAt p module) f hst (fun x hx=>(hv x hx).1) (by omega) hlt' f3 hr.1 (fun v hv=>(List.all_eq_true.1 hr.2) v hv) hbe hfu (.int .i64 0) (.int .i64 0) (.int .i64 0) (.sl []) (.sl []) (.sl []) (.sl []) (.sl [])
      rw[g1] at hcode
      exact⟨a,h',hcode.symm,g2⟩
     ·have hr':(((args.length:Int) != (f.params.length:Int)) || !(args.all (bA 4)))=true:=by
       by_cases h1:args.length=f.params.length
       ·have:args.all (bA 4)=false:=by
         rw[← Bool.not_eq_true]
         exact fun h2=>hr ⟨h1,h2⟩
        rw[this]
        simp
       ·have:((args.length:Int) != (f.params.length:Int))=true:=by
         rw[bne_iff_ne]
         omega
        rw[this]
        rfl
      simp -implicitDefEqProofs only[hr',if_true,jW,ar,uh] at hcode
      simp only[if_neg hr]
      rw[← hcode]
      exact⟨_,_,rfl,oz _ _⟩
  ·have hn':(dG p != 0)=true:=by simp[hn]
   simp only[hn',if_true,jW,ar,uh] at hcode
   simp only[if_pos hn]
   rw[← hcode]
   exact⟨_,[],rfl,oz _ _⟩
 obtain⟨a,h',h1,h2⟩:=key
 exact Ft h1 h2
structure LimR (p:List Mod):Prop where
 body:LimB p
 init:∀ m∈p,m.init.length≤274877906944∧∀ e∈m.init,bC e
theorem ie:(l:List Val)→(∀ v∈l,Rv v)→bT l≤l.length * 200000
 | [],_=>by simp[bT]
 | v:: l,h=>by
  have h1:=rX (h v List.mem_cons_self)
  have h2:=ie l fun w hw=>h w (List.mem_cons_of_mem _ hw)
  simp only[bT,List.length_cons]
  omega
theorem pE:(p:List Mod)→(st:List Vars)→eK p= .ok st→∀ x∈st,∃ m∈p,x.values.length=m.init.length
 | [],st,h,x,hx=>by cases h;cases hx
 | m :: ms,st,h,x,hx=>by
  unfold eK at h
  split at h
  ·split at h
   ·cases h
   ·rename_i vs hvs
    split at h
    ·cases h
    ·rename_i r hr
     cases h
     rcases List.mem_cons.1 hx with rfl | hx
     ·exact⟨m,List.mem_cons_self,(lP _ _ hvs).1⟩
     ·obtain⟨m',h1,h2⟩:=pE ms r hr x hx
      exact⟨m',List.mem_cons_of_mem _ h1,h2⟩
  ·cases h
theorem t19{p:List Mod}(L:LimR p)(module fn:aU)(args:List Val)(world:List Int)(fuel:Int)(hargs:bT args≤4611686018427387904):
  ai pg 19 [cw p,.str module,.str fn,vals args,ints world,.int .i64 fuel]=M.pure (oY p module fn args world fuel).av:=by
 have hfr:=t70 p L.body.lim.len (fun m hm=>⟨(L.body.lim.funcs m hm).2,L.init m hm⟩)
 have hcl1:∀ s:aU,cl aw (.str s)= .str s:=fun _=>rfl
 have hcl2:∀ n:Int,cl aw (.int .i64 n)= .int .i64 n:=fun _=>rfl
 have hS:S19 (ai pg) aj (cw p) (.str module) (.str fn) (vals args) (ints world) (.int .i64 fuel)=M.pure (oY p module fn args world fuel).av:=by
  unfold oY
  simp -implicitDefEqProofs only[S19,hfr,aB]
  cases hx:fL p with
  | error e=>
   have he:(e != 0)=true:=by
    have:=zq hx
    simpa using this
   simp -implicitDefEqProofs only[nD,cO,List.getElem?_cons_zero,List.getElem?_cons_succ,ar,zg,he,aA,if_true,jW,uh]
  | ok st=>
   have hb:=gZ (lM hx)
   have hlen:∀ x∈st,x.values.length≤274877906944:=fun x hx'=>by
    unfold fL at hx
    split at hx
    ·obtain⟨m,h1,h2⟩:=pE p st hx x hx'
     rw[h2]
     exact (L.init m h1).1
    ·cases hx
   have hfrom:=t71 L.body st module fn args world fuel (by rw[hb.1];exact L.body.lim.len) (fun x hx'=>⟨hlen x hx',Nat.le_trans (ie _ (hb.2.1 x hx')) (by have:=hlen x hx';omega)⟩) hargs
   have h0:((0:Int) != 0)=false:=rfl
   simp -implicitDefEqProofs only[nD,cO,List.getElem?_cons_zero,List.getElem?_cons_succ,ar,zg,h0,aA,Bool.false_eq_true,if_false,hfrom,aB,uh]
 rw[C19,kH,hcl1,hcl1,jE,uG,hcl2,hS]
 exact bM fun g=>oz g _
mutual
theorem zX:(v:Val)→Gj v v=true
 | .mk k n ns vs=>by
  simp only[Gj,beq_self_eq_true,Bool.true_and]
  exact pR vs
theorem pR:(l:List Val)→vF l l=true
 | []=>rfl
 | v:: l=>by
  simp only[vF,zX v,pR l,Bool.and_self]
end
theorem CE{B n:Nat}{o:Out}(h:OutB B n o)(hr:uq o)(hB:B≤274877906944)(hn:n≤140737488355328):OutLim o where
 deeds:=by have:=h.deeds;omega
 calls:=by have:=h.calls;omega
 args:=fun c hc=>Nat.le_trans (ie _ (hr.2.1 c hc)) (by have:=h.args c hc;omega)
 state:=⟨Nat.le_trans h.state hn,fun x hx=>Nat.le_trans (ie _ (hr.2.2 x hx)) (by have:=h.vals x hx;omega)⟩
 value:=Nat.le_trans (rX hr.1) (by omega)
theorem qS:(l:List Exp)→(∀ x∈l,bC x)→nz l
 | [],_=>trivial
 | x:: l,h=>⟨h x List.mem_cons_self,qS l fun y hy=>h y (List.mem_cons_of_mem _ hy)⟩
theorem BU{e:Exp}(h1:e.names.length≤8796093022208)(h2:e.args.length≤274877906944)(h3:∀ x∈e.args,bC x):bC e:=by
 obtain⟨o,n,s,m,ns,es⟩:=e
 exact⟨h1,h2,qS es h3⟩
theorem tU:∀(d:Nat)(e:Exp),e.Lim→∀ most:Int,0≤most→most≤1000→fb d e most≤most→bC e
 | 0,e,_,most,_,_,h=>by simp only[fb] at h;omega
 | d + 1,e,he,most,h0,h1,h=>by
  have h':ju most (fb d) 1 e.args≤most:=h
  obtain⟨a1,a2,_⟩:=qE (fun _=>0) 0 e.args (fun x _ m h0 _=>(hG d x m h0).1) (fun x _ m _ _ _=>by simp) 1 (by omega) h'
  refine BU he.names (by omega) fun x hx=>?_
  obtain⟨m,b1,b2,b3⟩:=a2 x hx
  exact tU d x (he.kid hx) m b1 (by omega) b3
theorem pK{e:Exp}(he:e.Lim)(h:c9 e=true):bC e:=tU 16 e he 40 (by omega) (by omega) (of_decide_eq_true h)
structure FewP (p:List Mod) (fuel:Int):Prop where
 len:p.length≤4
 fuel:fuel≤2000
 lim:LimR p
 small:∀ m∈p,m.vars.length≤8∧∀ f∈m.funcs,f.params.length≤8
theorem B5{p:List Mod}{args:List Val}{world:List Int}{fuel:Int}(h:zl p args world fuel=true)(hm:∀ m∈p,m.Lim):FewP p fuel:=by
 unfold zl at h
 simp only[Bool.and_eq_true,decide_eq_true_eq,List.all_eq_true,BX] at h
 obtain⟨⟨⟨⟨c1,_⟩,_⟩,c4⟩,c5,_⟩:=h
 have hs:∀ m∈p,m.vars.length≤8∧∀ f∈m.funcs,f.params.length≤8:=fun m hmp=>by
  obtain⟨⟨⟨⟨d1,d2⟩,d3⟩,d4⟩,d5,d6⟩:=c5 m hmp
  exact⟨by omega,fun f hf=>(d6 f hf).2⟩
 refine⟨c1,c4,⟨⟨⟨by omega,fun m hmp=>?_⟩,fun m hmp f hf=>?_⟩,fun m hmp=>?_⟩,hs⟩
 ·obtain⟨⟨⟨⟨d1,d2⟩,d3⟩,d4⟩,d5,d6⟩:=c5 m hmp
  exact⟨by omega,by omega⟩
 ·obtain⟨⟨⟨⟨d1,d2⟩,d3⟩,d4⟩,d5,d6⟩:=c5 m hmp
  exact⟨pK ((hm m hmp).fns f hf).body (d6 f hf).1,by have:=(d6 f hf).2;omega⟩
 ·obtain⟨⟨⟨⟨d1,d2⟩,d3⟩,d4⟩,d5,d6⟩:=c5 m hmp
  exact⟨by omega,fun e he=>pK ((hm m hmp).ies e he) (d5 e he)⟩
theorem zV{p:List Mod}{fu:Int}(F:FewP p fu)(module fn:aU)(args:List Val)(world:List Int)(fuel:Int):OutLim (oY p module fn args world fuel):=
 CE (B:=8) (n:=p.length) (H7 p module fn args world fuel F.small) (CL ..) (by omega) (by have:=F.len;omega)
def BQ(P:Prop)(m:M AV):Prop:=∃ b,m=M.pure (.bool b)∧(b=true→P)
def oI(d:Nat)(v:Val)(f:bP):Bool:=(v.names.zip v.values).any fun x=>x.1== f.1&&hasB d x.2 f.2
theorem FJ(d:Nat)(hd:d≤8)(v:Val)(hv:v.sz≤4611686018427387904)(t:Ty)(ht:t.Lim)(IH:∀(v:Val)(t:Ty),v.sz≤4611686018427387904→t.Lim→ai pg 31 [v.av,t.av,.int .i64 d]=M.pure (.bool (hasB d v t)))(V:List AV→M AV)(i:Nat)(hi:i < t.fields.length):∀(n k:Nat)(th:Bool),(v.names.zip v.values).length - k=n→k≤(v.names.zip v.values).length→
  aj (L31_0 (ai pg) aj V) [.int .i64 ((d + 1:Nat):Int),.ip (ab v.av),.ip (ab t.av),.int .i64 i,.bool th,.int .i64 k]=
   if (th||((v.names.zip v.values).drop k).any fun x=>x.1== t.fields[i].1&&hasB d x.2 t.fields[i].2)=true then V [.int .i64 ((d + 1:Nat):Int),.ip (ab v.av),.ip (ab t.av),.int .i64 ((i + 1:Nat):Int)] else M.pure (.bool false):=by
 have hfl:=ht.len
 have hln:=v.sz_names
 have hlv:=v.sz_len
 have hzl:(v.names.zip v.values).length=min v.names.length v.values.length:=List.length_zip
 have hix3:=mD (l:=t.fields) (n:=(i:Int)) (by omega) (by omega)
 rw[Int.toNat_natCast,getElem!_pos t.fields i hi] at hix3
 have lenStrs:aF T 22 (strs v.names)=some (.int .i64 v.names.length):=by simp[strs]
 have lenVals:aF T 47 (vals v.values)=some (.int .i64 v.values.length):=by simp[vals,cI]
 intro n
 induction n with
 | zero=>
  intro k th hn hk
  have hk':(v.names.zip v.values).length=k:=by omega
  have hdr:(v.names.zip v.values).drop k=[]:=List.drop_eq_nil_of_le (by omega)
  rw[FL31_0]
  simp only[L31_0,hdr]
  rcases Nat.lt_or_ge k v.names.length with h1 | h1
  ·have h2:¬ k < v.values.length:=by omega
   cases th <;> simp (disch:=omega) [h1,h2,lenStrs,lenVals,aV]
  ·have h2:¬ k < v.names.length:=by omega
   cases th <;> simp (disch:=omega) [h2,lenStrs,lenVals,aV]
 | succ n ih=>
  intro k th hn hk
  have hlt:k < (v.names.zip v.values).length:=by omega
  have h1:k < v.names.length:=by omega
  have h2:k < v.values.length:=by omega
  have hdr:(v.names.zip v.values).drop k=(v.names[k],v.values[k]):: (v.names.zip v.values).drop (k + 1):=by
   rw[List.drop_eq_getElem_cons hlt,List.getElem_zip]
  have hix1:=sD (l:=v.names) (n:=(k:Int)) (by omega) (by omega)
  rw[Int.toNat_natCast,getElem!_pos v.names k h1] at hix1
  have hix2:=qq (l:=v.values) (n:=(k:Int)) (by omega) (by omega)
  rw[Int.toNat_natCast,getElem!_pos v.values k h2] at hix2
  have hH:=IH v.values[k] t.fields[i].2 (Nat.le_trans (Nat.le_of_lt (Val.sz_mem (List.getElem_mem h2))) hv) (ht.kid (List.getElem_mem hi))
  have hw:IntKind.i64.wrap (((d + 1:Nat):Int) - 1)=(d:Int):=by rw[aV (by omega) (by omega)];omega
  have h4:=ih (k + 1) (th||(v.names[k]== t.fields[i].1&&hasB d v.values[k] t.fields[i].2)) (by omega) (by omega)
  rw[hdr,List.any_cons,← Bool.or_assoc]
  refine Eq.trans ?_ h4
  rw[FL31_0]
  simp only[L31_0]
  cases th with
  | true=>simp (disch:=omega) [h1,h2,lenStrs,lenVals,aV]
  | false=>
   cases he:v.names[k]== t.fields[i].1 with
   | false=>simp (disch:=omega) [h1,h2,lenStrs,lenVals,aV,hix1,hix2,hix3,he]
   | true=>
    cases hb:hasB d v.values[k] t.fields[i].2 <;> rw[hb] at hH <;>
    simp (disch:=omega) [h1,h2,lenStrs,lenVals,aV,hix1,hix2,hix3,he,hH,hw]
theorem t31:∀(d:Nat),d≤8→∀(v:Val)(t:Ty),v.sz≤4611686018427387904→t.Lim→ai pg 31 [v.av,t.av,.int .i64 d]=M.pure (.bool (hasB d v t))
 | 0,_,v,t,_,_=>by
  rw[C31]
  have e:hasB 0 v t=false:=rfl
  by_cases hk:v.kind=t.kind
  ·simp[S31,e,hk]
  ·simp[S31,e,hk]
 | d + 1,hd,v,t,hv,ht=>by
  have IH:=t31 d (by omega)
  have hfl:=ht.len
  rw[C31,oJ]
  have h1:¬ ((d + 1:Nat):Int) < 1:=by omega
  have hloop:∀(n i:Nat),t.fields.length - i=n→i≤t.fields.length→aj (L31_1 (ai pg) aj) [.int .i64 ((d + 1:Nat):Int),.ip (ab v.av),.ip (ab t.av),.int .i64 i]=M.pure (.bool ((t.fields.drop i).all (oI d v))):=by
   intro n
   induction n with
   | zero=>
    intro i hn hi
    have h1:¬ i < t.fields.length:=by omega
    rw[FL31_1]
    simp only[L31_1,List.drop_eq_nil_of_le (show t.fields.length≤i by omega)]
    simp[h1]
   | succ n ih=>
    intro i hn hi
    have hlt:i < t.fields.length:=by omega
    have h3:=FJ d (by omega) v hv t ht (fun v t a b=>IH v t a b) (aj (L31_1 (ai pg) aj)) i hlt _ 0 false rfl (Nat.zero_le _)
    have h3':aj (L31_0 (ai pg) aj (aj (L31_1 (ai pg) aj))) [.int .i64 ((d + 1:Nat):Int),.ip (ab v.av),.ip (ab t.av),.int .i64 i,.bool false,.int .i64 0]=_:=h3
    rw[ih (i + 1) (by omega) (by omega)] at h3'
    rw[List.drop_eq_getElem_cons hlt,List.all_cons]
    have e:oI d v t.fields[i]=(false||((v.names.zip v.values).drop 0).any fun x=>x.1== t.fields[i].1&&hasB d x.2 t.fields[i].2):=rfl
    rw[e]
    generalize (false||((v.names.zip v.values).drop 0).any fun x=>x.1== t.fields[i].1&&hasB d x.2 t.fields[i].2)=b at *
    rw[FL31_1]
    simp only[L31_1]
    simp only[aL,aS] at h3' ⊢
    have e2:(if b=true then M.pure (AV.bool ((t.fields.drop (i + 1)).all (oI d v))) else M.pure (AV.bool false))=M.pure (AV.bool (b&&(t.fields.drop (i + 1)).all (oI d v))):=by cases b <;> rfl
    rw[e2] at h3'
    rw[← h3']
    simp[hlt]
  have h5:=hloop _ 0 rfl (Nat.zero_le _)
  rw[List.drop_zero] at h5
  have h5':aj (L31_1 (ai pg) aj) [.int .i64 ((d + 1:Nat):Int),.ip (ab v.av),.ip (ab t.av),.int .i64 0]=_:=h5
  have e3:(t.fields.all fun f=>(v.names.zip v.values).any fun x=>x.1== f.1&&hasB d x.2 f.2)=t.fields.all (oI d v):=rfl
  rw[e3]
  simp only[mS,tm,yT]
  by_cases hk:v.kind=t.kind
  ·have hk':(v.kind== t.kind)=true:=beq_iff_eq.2 hk
   have h:S31 (ai pg) aj v.av t.av (.int .i64 ((d + 1:Nat):Int))=M.pure (.bool (t.fields.all (oI d v))):=by
    rw[← h5']
    simp[S31,hk,h1]
    omega
   rw[h,hk',Bool.true_and]
   exact iU _
  ·have hk':(v.kind== t.kind)=false:=beq_eq_false_iff_ne.2 hk
   have h:S31 (ai pg) aj v.av t.av (.int .i64 ((d + 1:Nat):Int))=M.pure (.bool false):=by
    simp[S31,hk]
   rw[h,hk',Bool.false_and]
   exact iU _
theorem J7{p:List Mod}(hpl:p.length≤1000)(hM:∀ m∈p,m.Lim):∀(n i:Nat),p.length - i=n→i≤p.length→(∀ j (h:j < p.length),j < i→Accd p[j] ((p.take j).map ni))→
  BQ (∀ j (h:j < p.length),Accd p[j] ((p.take j).map ni)) (aj (L29_0 (ai pg) aj) [cw p,faces ((p.take i).map ni),.int .i64 i]):=by
 have hlenM:aF T 42 (cw p)=some (.int .i64 p.length):=by simp[cw]
 intro n
 induction n with
 | zero=>
  intro i hn hi hac
  obtain rfl:i=p.length:=by omega
  have h1:¬ p.length < p.length:=by omega
  rw[FL29_0]
  simp only[L29_0]
  refine⟨true,by simp[hlenM],fun _ j h=>hac j h h⟩
 | succ n ih=>
  intro i hn hi hac
  have hlt:i < p.length:=by omega
  have hm:=hM _ (List.getElem_mem hlt)
  have hfsl:((p.take i).map ni).length≤1000:=by simp;omega
  have hC:=NR p[i] hm ((p.take i).map ni) (fun F hF=>by
   obtain⟨m,hm,rfl⟩:=List.mem_map.1 hF
   exact HT (hM m (List.mem_of_mem_take hm))) (by omega)
  have hO:=NS p[i] hm
  have h3:(p.take (i + 1)).map ni=(p.take i).map ni++[ni p[i]]:=by
   rw[List.take_add_one,List.getElem?_eq_getElem hlt,List.map_append]
   rfl
  generalize hFS:(p.take i).map ni=FS at *
  have hB:aI T 30 1 [(0,(ni p[i]).av)]=some (faces [ni p[i]]):=rfl
  have hA:cP T 30 (faces FS) (faces [ni p[i]])=some (faces (FS++[ni p[i]])):=Mu (by simp;omega)
  have x0:∀ x:aU×Int,aD (nh x) 0=some (.str x.1):=fun _=>rfl
  have x1:∀ x:aU×Int,aD (nh x) 1=some (.int .i64 x.2):=fun _=>rfl
  rw[FL29_0]
  simp only[L29_0]
  by_cases h0:(ow p[i] FS).2=0
  ·obtain⟨b,e,hb⟩:=ih (i + 1) (by omega) (by omega) (fun j hj hji=>by
    by_cases hj2:j=i
    ·subst hj2;rw[hFS];exact yR h0
    ·exact hac j hj (by omega))
   rw[h3] at e
   refine⟨b,?_,hb⟩
   rw[← e]
   simp (disch:=omega) [hlenM,hlt,lr,getElem!_pos p i hlt,hC,x0,x1,h0,hO,hB,hA,aV]
  ·refine⟨false,?_,fun h=>by cases h⟩
   have h0':((ow p[i] FS).2 != 0)=true:=by simpa using h0
   simp (disch:=omega) [hlenM,hlt,lr,getElem!_pos p i hlt,hC,x0,x1,h0']
theorem t29{p:List Mod}(hpl:p.length≤1000)(hM:∀ m∈p,m.Lim):BQ (∀ j (h:j < p.length),Accd p[j] ((p.take j).map ni)) (ai pg 29 [cw p]):=by
 obtain⟨b,e,hb⟩:=J7 hpl hM _ 0 rfl (Nat.zero_le _) (fun j h hj=>by omega)
 refine⟨b,?_,hb⟩
 have e':aj (L29_0 (ai pg) aj) [cw p,.sl [],.int .i64 0]=M.pure (.bool b):=e
 rw[C29,kH]
 simp only[S29,e']
 exact iU _
end Go.Proofs.YtkkabinknmldeaaGreat
namespace Go.Proofs.YtkkabinknmldeaaGreat
open Go Go.Av
set_option maxRecDepth 1000000
theorem Gp:dF pg 200 27 [] []= .ok (.bool true) []:=by kernel_rfl
theorem iS:ai pg 27 []=M.pure (.bool true):=by
 funext h
 have h1:=EP hOther Gp (by simp)
 have e:∀ h,ai pg 27 [] h=aE (ci (pg.cx (ai pg) Tryz.f27.ntmps Ek) aj Tryz.f27 (pg.own 27) (dL aw [])) h:=fun h=>congrFun (ay hOther rfl rfl rfl []) h
 rw[e] at h1 ⊢
 unfold aE at h1 ⊢
 generalize ci (pg.cx (ai pg) Tryz.f27.ntmps Ek) aj Tryz.f27 (pg.own 27) (dL aw []) []=r at h1 ⊢
 cases r with
 | ok v h'=>
  simp only[R.ok.injEq] at h1
  show R.ok (ix 6 h' v) h=_
  rw[h1.1];rfl
 | pan v h'=>cases h1
 | fail=>cases h1
end Go.Proofs.YtkkabinknmldeaaGreat
namespace Go.Proofs.YtkkabinknmldeaaGreat
open Go Go.Av Go.Av.Ap
set_option maxRecDepth 100000
theorem JX:∀(d:Nat)(v:Val),kY d v=bA d v:=by
 intro d
 induction d with
 | zero=>intro v;simp[kY,bA]
 | succ d ih=>
  intro v
  have hfd:kY d=bA d:=funext ih
  unfold kY bA
  rw[hfd]
  by_cases hk0:v.kind=0
  ·by_cases hl:v.names.length=v.values.length
   ·rw[if_neg (by omega),if_pos hk0,if_pos (by simp[hk0]),Bool.eq_iff_iff]
    simp only[Bool.and_eq_true,Bool.or_eq_true,beq_iff_eq]
    omega
   ·rw[if_pos (.inr hl),if_pos (by simp[hk0])]
    symm
    rw[Bool.and_eq_false_iff]
    left
    rw[← Bool.not_eq_true]
    simp only[Bool.and_eq_true,beq_iff_eq]
    omega
  by_cases hk1:v.kind=1
  ·by_cases hl:v.names.length=v.values.length
   ·have e1:(v.names.length== 0&&decide (0≤v.n)&&decide (v.n≤1))=(v.names.length== 0&&v.values.length== 0&&(v.kind== 0||v.n== 0||v.n== 1)):=by
     rw[hl,Bool.eq_iff_iff]
     simp only[Bool.and_eq_true,Bool.or_eq_true,beq_iff_eq,decide_eq_true_eq]
     constructor
     ·rintro⟨⟨a,b⟩,c⟩
      exact⟨⟨a,a⟩,by omega⟩
     ·rintro⟨⟨a,_⟩,c⟩
      refine⟨⟨a,?_⟩,?_⟩ <;> rcases c with (c | c) | c <;> omega
    rw[if_neg (by omega),if_neg hk0,if_pos hk1,if_pos (by simp[hk1])]
    exact e1
   ·rw[if_pos (.inr hl),if_pos (by simp[hk1])]
    symm
    rw[Bool.and_eq_false_iff]
    left
    rw[← Bool.not_eq_true]
    simp only[Bool.and_eq_true,beq_iff_eq]
    omega
  by_cases hk2:v.kind=2
  ·rw [if_neg (show ¬ ((v.kind== 0||v.kind== 1)=true) by simp[hk2])]
   by_cases hl:v.names.length=v.values.length
   ·rw [if_neg (by omega),if_neg hk0,if_neg hk1]
    by_cases hn:v.n=0
    ·by_cases h8:8 < v.names.length
     ·rw[if_pos (.inl (.inr h8))]
      have:decide (v.names.length≤8)=false:=by simp;omega
      simp[this]
     ·have h8':decide (v.names.length≤8)=true:=by simp;omega
      cases ha:sA v.names with
      | false=>simp
      | true=>
       rw[if_neg (by simp[hn];omega)]
       simp[hk2,hn,hl] at h8' ⊢
       omega
    ·rw[if_pos (.inl (.inl hn))]
     simp[hn]
   ·rw[if_pos (.inr hl)]
    have:(v.names.length== v.values.length)=false:=by simpa using hl
    simp[this]
  ·rw[if_pos (.inl (by omega)),if_neg (by simp[hk0,hk1])]
   have:(v.kind== 2)=false:=by simpa using hk2
   simp[this]
theorem LI{t:Ty}{v:Val}(h:eX t v)(hr:bN t=true):hasB 8 v t=true:=I7 4 4 t v hr h
theorem Hv(T:TT)(t:Nat)(a b:Int):am T .and t (.int .i64 a) (.int .i64 b)=some (.int .i64 (IntKind.i64.wrap (BitVec.ofInt 64 a &&& BitVec.ofInt 64 b).toNat)):=by
 have:J2 .and .i64 a b=some (AV.int .i64 (IntKind.i64.wrap (BitVec.ofInt 64 a &&& BitVec.ofInt 64 b).toNat)):=rfl
 simpa [am,qg] using this
structure OutB (p:List Mod) (f:Fun) (o:Out):Prop where
 lim:OutLim o
 deeds:∀ d∈o.deeds,Ku f.effects d
 state:∀ i (h:i < o.state.length),∃(hp:i < p.length),(o.state[i].values).length=p[i].vars.length∧∀(n:Nat)(z:bP)(v:Val),p[i].vars[n]? = some z→o.state[i].values[n]? = some v→hasB 8 v z.2=true∧z.2.Lim
theorem EL0{p:List Mod}(hpl:p.length≤1000){f:Fun}{o:Out}(B:OutB p f o)(V:List AV→M AV)(i:Nat)(hi:i < o.state.length):∀(r n:Nat),(o.state[i].values).length - n=r→n≤(o.state[i].values).length→
  aj (L6_0 (ai pg) aj V) [cw p,.bool true,.ip (ab o.av),.int .i64 i,.int .i64 n]=V [cw p,.bool true,.ip (ab o.av),.int .i64 ((i + 1:Nat):Int)]:=by
 obtain⟨hip,hlen,hst⟩:=B.state i hi
 have hsz:=B.lim.state.2 _ (List.getElem_mem hi)
 have hvl:=jr (o.state[i].values)
 have hix:=GT (l:=o.state) (n:=(i:Int)) (by omega) (by omega)
 rw[Int.toNat_natCast,getElem!_pos o.state i hi] at hix
 have hixm:=lr (l:=p) (n:=(i:Int)) (by omega) (by omega)
 rw[Int.toNat_natCast,getElem!_pos p i hip] at hixm
 have lenV:aF T 47 (vals o.state[i].values)=some (.int .i64 (o.state[i].values).length):=by simp[vals,cI]
 have lst:ah T 53 (.ip [cD o.state])=some (cD o.state):=rfl
 intro r
 induction r with
 | zero=>
  intro n hr hn
  have h1:¬ n < (o.state[i].values).length:=by omega
  rw[FL6_0]
  simp only[L6_0]
  simp (disch:=omega) [lst,hix,lenV,h1,aV]
 | succ r ih=>
  intro n hr hn
  have hlt:n < (o.state[i].values).length:=by omega
  have hlt2:n < p[i].vars.length:=by omega
  obtain⟨g1,g2⟩:=hst n _ _ (List.getElem?_eq_getElem hlt2) (List.getElem?_eq_getElem hlt)
  have hH:=t31 8 (by omega) (o.state[i].values)[n] (p[i].vars[n]).2 (Nat.le_trans (gX (List.getElem_mem hlt)) hsz) g2
  rw[g1] at hH
  have hH':ai pg 31 [(o.state[i].values)[n].av,(p[i].vars[n]).2.av,.int .i64 8]=M.pure (.bool true):=hH
  have hixv:=qq (l:=o.state[i].values) (n:=(n:Int)) (by omega) (by omega)
  rw[Int.toNat_natCast,getElem!_pos o.state[i].values n hlt] at hixv
  have hixf:=mD (l:=p[i].vars) (n:=(n:Int)) (by omega) (by omega)
  rw[Int.toNat_natCast,getElem!_pos p[i].vars n hlt2] at hixf
  have h4:=ih (n + 1) (by omega) (by omega)
  refine Eq.trans ?_ h4
  rw[FL6_0]
  simp only[L6_0]
  simp (disch:=omega) [lst,hix,lenV,hlt,hixm,hixv,hixf,hH',aV]
theorem EL1{p:List Mod}(hpl:p.length≤1000){f:Fun}{o:Out}(B:OutB p f o):∀(r i:Nat),o.state.length - i=r→i≤o.state.length→
  aj (L6_1 (ai pg) aj) [cw p,.bool true,.ip (ab o.av),.int .i64 i]=M.pure (.bool true):=by
 have lst:ah T 53 (.ip [cD o.state])=some (cD o.state):=rfl
 have lenS:aF T 53 (cD o.state)=some (.int .i64 o.state.length):=by simp[cD]
 have lenM:aF T 42 (cw p)=some (.int .i64 p.length):=by simp[cw]
 intro r
 induction r with
 | zero=>
  intro i hr hi
  have h1:¬ i < o.state.length:=by omega
  rw[FL6_1]
  simp only[L6_1]
  simp[lst,lenS,h1]
 | succ r ih=>
  intro i hr hi
  have hlt:i < o.state.length:=by omega
  obtain⟨hip,hlen,_⟩:=B.state i hlt
  have h3:=EL0 hpl B (aj (L6_1 (ai pg) aj)) i hlt _ 0 rfl (Nat.zero_le _)
  have h3':aj (L6_0 (ai pg) aj (aj (L6_1 (ai pg) aj))) [cw p,.bool true,.ip (ab o.av),.int .i64 i,.int .i64 0]=_:=h3
  rw[ih (i + 1) (by omega) (by omega)] at h3'
  have hix:=GT (l:=o.state) (n:=(i:Int)) (by omega) (by omega)
  rw[Int.toNat_natCast,getElem!_pos o.state i hlt] at hix
  have hixm:=lr (l:=p) (n:=(i:Int)) (by omega) (by omega)
  rw[Int.toNat_natCast,getElem!_pos p i hip] at hixm
  have lenV:aF T 47 (vals o.state[i].values)=some (.int .i64 p[i].vars.length):=by simp[vals,cI,hlen]
  have lenF:aF T 23 (aK p[i].vars)=some (.int .i64 p[i].vars.length):=by simp[aK,cS]
  have hmin:gw false [.int .i64 (i:Int),.int .i64 ((p.length:Int) - 1)]=some (.int .i64 i):=by
   simp[gw]
   omega
  have hge:¬ (p.length:Int)≤i:=by omega
  have hge2:¬ p.length≤i:=by omega
  rw[FL6_1]
  simp only[L6_1]
  simp only[i6] at h3' ⊢
  simp (disch:=omega) [lst,lenS,hlt,lenM,hge,hge2,hix,lenV,lenF,hixm,hmin,aV]
  exact h3'
theorem EL2{p:List Mod}(hpl:p.length≤1000){f:Fun}{o:Out}(B:OutB p f o):∀(r i:Nat),o.deeds.length - i=r→i≤o.deeds.length→
  aj (L6_2 (ai pg) aj) [cw p,.bool true,.ip (ab f.av),.ip (ab o.av),.int .i64 i]=M.pure (.bool true):=by
 have hdl:=B.lim.deeds
 have ld:∀ c,ah T 52 (.ip (deeds o.deeds:: c))=some (deeds o.deeds):=fun _=>rfl
 have lenD:aF T 52 (deeds o.deeds)=some (.int .i64 o.deeds.length):=by simp[deeds]
 intro r
 induction r with
 | zero=>
  intro i hr hi
  have h1:¬ i < o.deeds.length:=by omega
  have h3:=EL1 hpl B _ 0 rfl (Nat.zero_le _)
  have h3':aj (L6_1 (ai pg) aj) [cw p,.bool true,.ip (ab o.av),.int .i64 0]=_:=h3
  rw[FL6_2]
  simp only[L6_2]
  simp only[i6] at h3' ⊢
  simp[ld,lenD,h1]
  exact h3'
 | succ r ih=>
  intro i hr hi
  have hlt:i < o.deeds.length:=by omega
  obtain⟨g1,g2⟩:=B.deeds _ (List.getElem_mem hlt)
  have h4:=ih (i + 1) (by omega) (by omega)
  have hix:=Mz (l:=o.deeds) (n:=(i:Int)) (by omega) (by omega)
  rw[Int.toNat_natCast,getElem!_pos o.deeds i hlt] at hix
  have hand:=Hv T 3 (o.deeds[i]).effect f.effects
  rw[JC g1 g2] at hand
  have hz:¬ (o.deeds[i]).effect=0:=by omega
  have hz':((o.deeds[i]).effect== 0)=false:=by simpa using hz
  refine Eq.trans ?_ h4
  rw[FL6_2]
  simp only[L6_2]
  simp (disch:=omega) [ld,lenD,hlt,hix,hand,hz,hz',aV]
theorem EL3{p:List Mod}(hacc:∀ i (h:i < p.length),Accd p[i] ((p.take i).map ni))(hM:∀ m∈p,m.Lim){fuel:Int}(F:FewP p fuel)(h0:0≤fuel){a k:Nat}(ha:a < p.length)(hk:k < p[a].funcs.length){args:List Val}(hsz:bT args≤4611686018427387904)(hl:args.length=p[a].funcs[k].params.length)(world:List Int):
  ∀(r i:Nat),args.length - i=r→i≤args.length→(∀ j (hj:j < args.length),j < i→bA 4 args[j]=true∧hasB 8 args[j] (p[a].funcs[k].params[j]'(by omega)).2=true)→
  aj (L6_3 (ai pg) aj) [cw p,vals args,ints world,.int .i64 fuel,.bool true,.ip (ab p[a].av),.ip (ab p[a].funcs[k].av),.int .i64 i]=M.pure (.bool true):=by
 have hpl:p.length≤1000:=by have:=F.len;omega
 have MK:=jQ (hacc a ha).right
 have FO:=MK.fns _ (List.getElem_mem hk)
 have FLim:=(hM _ (List.getElem_mem ha)).fns _ (List.getElem_mem hk)
 have hal:=jr args
 have lenA':aF T 47 (vals args)=some (.int .i64 args.length):=by simp[vals,cI]
 intro r
 induction r with
 | zero=>
  intro i hr hi hall
  obtain rfl:i=args.length:=by omega
  have h1:¬ args.length < args.length:=by omega
  have O:=CM hacc F.len ha hk hl (fun v hv=>by
   obtain⟨j,hj,rfl⟩:=List.getElem_of_mem hv
   exact (hall j hj hj).1) (fun j z v hz hv=>by
   obtain⟨hj1,rfl⟩:=List.getElem?_eq_some_iff.1 hz
   obtain⟨hj,rfl⟩:=List.getElem?_eq_some_iff.1 hv
   exact Ij 8 4 4 _ _ (FO.pars _ (List.getElem_mem hj1)) (hall j hj hj).1 (hall j hj hj).2) world fuel h0 F.fuel
  have hrun:=t19 F.lim p[a].name p[a].funcs[k].name args world fuel hsz
  have OL:=zV F p[a].name p[a].funcs[k].name args world fuel
  generalize oY p p[a].name p[a].funcs[k].name args world fuel=o at *
  have B:OutB p p[a].funcs[k] o:=⟨OL,O.deeds,fun i hi=>by
   obtain⟨hp,g1,g2⟩:=O.state i hi
   refine⟨hp,g1,fun n z v hz hv=>?_⟩
   have hzm:=List.mem_of_getElem? hz
   exact⟨LI (g2 n z v hz hv) ((jQ (hacc i hp).right).vars z hzm),(hM _ (List.getElem_mem hp)).vty z hzm⟩⟩
  have h3:=EL2 hpl B _ 0 rfl (Nat.zero_le _)
  have h3':aj (L6_2 (ai pg) aj) [cw p,.bool true,.ip (ab p[a].funcs[k].av),.ip (ab o.av),.int .i64 0]=_:=h3
  have hv:∀(v:Val),v=o.value→ah T 51 (.ip (ab v.av))=some v.av:=fun v _=>by rw[Val.av_eq];rfl
  rw[FL6_3]
  simp only[L6_3]
  simp only[i6,dT] at h3' ⊢
  rcases O.err with e | e | e | e
  ·have hH:=t31 8 (by omega) o.value p[a].funcs[k].result OL.value FLim.result
   rw[LI (O.val e) FO.res] at hH
   have hH':ai pg 31 [o.value.av,p[a].funcs[k].result.av,.int .i64 8]=M.pure (.bool true):=hH
   simp[lenA',hrun,e,hH'] at h3' ⊢
   exact h3'
  ·simp[lenA',hrun,e] at h3' ⊢
   exact h3'
  ·simp[lenA',hrun,e] at h3' ⊢
   exact h3'
  ·simp[lenA',hrun,e] at h3' ⊢
   exact h3'
 | succ r ih=>
  intro i hr hi hall
  have hlt:i < args.length:=by omega
  have hltp:i < p[a].funcs[k].params.length:=by omega
  have hvz:args[i].sz≤4611686018427387904:=Nat.le_trans (gX (List.getElem_mem hlt)) hsz
  have hR:=t30 args[i] hvz
  have hH:=t31 8 (by omega) args[i] (p[a].funcs[k].params[i]).2 hvz (FLim.pty _ (List.getElem_mem hltp))
  have hH':ai pg 31 [args[i].av,(p[a].funcs[k].params[i]).2.av,.int .i64 8]=_:=hH
  have hixa:=qq (l:=args) (n:=(i:Int)) (by omega) (by omega)
  rw[Int.toNat_natCast,getElem!_pos args i hlt] at hixa
  have hixf:=mD (l:=p[a].funcs[k].params) (n:=(i:Int)) (by omega) (by omega)
  rw[Int.toNat_natCast,getElem!_pos p[a].funcs[k].params i hltp] at hixf
  rw[FL6_3]
  simp only[L6_3]
  cases hr1:kY 4 args[i] with
  | false=>
   rw[hr1] at hR
   simp (disch:=omega) [lenA',hlt,hixa,hR]
  | true=>
   rw[hr1] at hR
   cases hb:hasB 8 args[i] (p[a].funcs[k].params[i]).2 with
   | false=>
    rw[hb] at hH'
    simp (disch:=omega) [lenA',hlt,hixa,hixf,hR,hH']
   | true=>
    rw[hb] at hH'
    have h4:=ih (i + 1) (by omega) (by omega) (fun j hj hji=>by
     by_cases e:j=i
     ·subst e;exact⟨by rw[← JX];exact hr1,hb⟩
     ·exact hall j hj (by omega))
    refine Eq.trans ?_ h4
    simp (disch:=omega) [lenA',hlt,hixa,hixf,hR,hH',aV]
theorem t6(p:List Mod)(hp:p.length≤140737488355328)(hM:∀ m∈p,m.Lim)(a k:Int)(args:List Val)(hl:args.length≤140737488355328)(ha:∀ v∈args,v.Lim)(world:List Int)(fuel:Int):
  ai pg 6 [cw p,.int .i64 a,.int .i64 k,vals args,ints world,.int .i64 fuel]=M.pure (.bool true):=by
 have hfew:=t28 p hp hM args hl ha world fuel
 have lenM:aF T 42 (cw p)=some (.int .i64 p.length):=by simp[cw]
 have lenV:aF T 47 (vals args)=some (.int .i64 args.length):=by simp[vals,cI]
 rw[C6]
 simp only[kH,jE,uG,yT]
 have h:S6 (ai pg) aj (cw p) (.int .i64 a) (.int .i64 k) (vals args) (ints world) (.int .i64 fuel)=M.pure (.bool true):=by
  cases hq:zl p args world fuel with
  | false=>
   rw[hq] at hfew
   simp[S6,iS,hfew]
  | true=>
   rw[hq] at hfew
   have F:=B5 hq hM
   have hsz:=(BZ hq ha).2
   have hpl:=F.len
   by_cases a0:a < 0
   ·simp[S6,iS,hfew,a0]
   by_cases a1:(p.length:Int)≤a
   ·simp[S6,iS,hfew,a0,lenM,a1]
   by_cases f0:fuel < 0
   ·simp[S6,iS,hfew,a0,lenM,a1,f0]
   have hat:a.toNat < p.length:=by omega
   have hix:=lr (l:=p) (n:=a) (by omega) (by omega)
   rw[getElem!_pos p a.toNat hat] at hix
   by_cases k0:k < 0
   ·simp[S6,iS,hfew,a0,lenM,a1,f0,hix,k0]
   have lenF:aF T 25 (eW p[a.toNat].funcs)=some (.int .i64 p[a.toNat].funcs.length):=by simp[eW]
   by_cases k1:(p[a.toNat].funcs.length:Int)≤k
   ·simp[S6,iS,hfew,a0,lenM,a1,f0,hix,k0,lenF,k1]
   have hkt:k.toNat < p[a.toNat].funcs.length:=by omega
   obtain⟨b,hb,hacc⟩:=t29 (p:=p) (by omega) hM
   cases b with
   | false=>simp[S6,iS,hfew,a0,lenM,a1,f0,hix,k0,lenF,k1,hb]
   | true=>
    have hixk:=sE (l:=p[a.toNat].funcs) (n:=k) (by omega) (by omega)
    rw[getElem!_pos p[a.toNat].funcs k.toNat hkt] at hixk
    have lenP:aF T 23 (aK p[a.toNat].funcs[k.toNat].params)=some (.int .i64 p[a.toNat].funcs[k.toNat].params.length):=by simp[aK,cS]
    by_cases hal:args.length=p[a.toNat].funcs[k.toNat].params.length
    ·have h3:=EL3 (hacc rfl) hM F (by omega) hat hkt (args:=args) (by omega) hal world _ 0 rfl (Nat.zero_le _) (fun j hj h=>by omega)
     have h3':aj (L6_3 (ai pg) aj) [cw p,vals args,ints world,.int .i64 fuel,.bool true,.ip (ab p[a.toNat].av),.ip (ab p[a.toNat].funcs[k.toNat].av),.int .i64 0]=_:=h3
     have hne:((args.length:Int) != p[a.toNat].funcs[k.toNat].params.length)=false:=by simp[hal]
     simp only[br,dT] at h3'
     simp[S6,iS,hfew,a0,lenM,a1,f0,hix,k0,lenF,k1,hb,hixk,lenV,lenP,hne]
     exact h3'
    ·have hne:((args.length:Int) != p[a.toNat].funcs[k.toNat].params.length)=true:=by simpa using hal
     simp[S6,iS,hfew,a0,lenM,a1,f0,hix,k0,lenF,k1,hb,hixk,lenV,lenP,hne]
 rw[h]
 exact iU true
end Go.Proofs.YtkkabinknmldeaaGreat
namespace Go.Proofs.YtkkabinknmldeaaGreat.evalTyped
open Go Go.Av Go.Av.Ap Go.ChangeShapes Go.WideShapes Go.ChangeAt Go.RowKit Go.Joins Go.Deep
set_option maxRecDepth 1000000
theorem kids:Kids Tryz.prog (· < Tryz.prog.types.size):=kids_rows (by kernel_rfl) (by kernel_rfl)
theorem xY:∀ t e,t < Tryz.prog.types.size→Tryz.prog.underlying t=some (.slice e)→0 < Tryz.prog.cellsOf e:=slices_full_of Tryz.prog (by kernel_rfl)
theorem EX(H:Type)(enc:TypeId×Value→H)(W:World)(base:Nat)(args:Array Value)(ds gs:List (DataW H)) (before:List MemPlace)
  (hval:∀(j:Nat) t v,Tryz.f6.params[j]? = some t→args[j]? = some v→Value.okWide Tryz.prog W .any base t v)
  (hW:DataW.Whole enc Tryz.prog Tryz.f6.params.toList Rows.evalTypedSpec.vars false W args.toList ds gs before)
  (hz:(DataW.weightsEach Tryz.prog (Tryz.f6.params.toList++Rows.evalTypedSpec.plain.varTypes Tryz.prog) (ds++gs)).all (· ≤reachBytes)=true) (hL:laidMetH Tryz.prog Rows.evalTypedRow.laid W) (hS:W.ShapedOpen Tryz.prog):
  Calls Tryz.prog 6 args W fun e W'=>∃ v,e= .returned v∧Rows.evalTypedSpec.post enc Tryz.prog Tryz.f6 false true false false W args v W':=by
 have hW':=hW
 obtain⟨p,q,hA0,hV,rfl,hfz,hnd⟩:=hW
 have hA:DataW.TrodAll enc Tryz.prog W 0 (fun _=>true) true Tryz.f6.params.toList args.toList ds p:=hA0
 have hA1:=hA
 rw[Tryz.params6] at hA hval hz
 obtain⟨v0,vs0,d0,ds0,p0,q0,ha0,rfl,rfl,h0,r0⟩:=trodAll_cons hA
 obtain⟨v1,vs1,d1,ds1,p1,q1,ha1,rfl,rfl,h1,r1⟩:=trodAll_cons r0
 obtain⟨v2,vs2,d2,ds2,p2,q2,ha2,rfl,rfl,h2,r2⟩:=trodAll_cons r1
 obtain⟨v3,vs3,d3,ds3,p3,q3,ha3,rfl,rfl,h3,r3⟩:=trodAll_cons r2
 obtain⟨v4,vs4,d4,ds4,p4,q4,ha4,rfl,rfl,h4,r4⟩:=trodAll_cons r3
 obtain⟨v5,vs5,d5,ds5,p5,q5,ha5,rfl,rfl,h5,r5⟩:=trodAll_cons r4
 obtain⟨hnil,rfl,rfl⟩:=trodAll_nil r5
 subst hnil
 subst ha5
 subst ha4
 subst ha3
 subst ha2
 subst ha1
 obtain rfl:args= #[v0,v1,v2,v3,v4,v5]:=by cases args;simp_all
 obtain⟨rfl,rfl⟩:=trodVars_none hV
 obtain⟨x0,k0,o0⟩:=ot (fun N=>H4 N) Tryz.underlying42 (hval 0 42 v0 rfl rfl) h0 (gF hz (j:=0) rfl rfl)
 obtain⟨x1,k1,o1⟩:=uz (fun N=>jU Tryz.underlying3) Tryz.underlying3 (hval 1 3 v1 rfl rfl) h1 (gF hz (j:=1) rfl rfl)
 obtain⟨x2,k2,o2⟩:=uz (fun N=>jU Tryz.underlying3) Tryz.underlying3 (hval 2 3 v2 rfl rfl) h2 (gF hz (j:=2) rfl rfl)
 obtain⟨x3,k3,o3⟩:=ot (fun N=>H5 N) Tryz.underlying47 (hval 3 47 v3 rfl rfl) h3 (gF hz (j:=3) rfl rfl)
 obtain⟨x4,k4,o4⟩:=ot (fun N=>H3 N) Tryz.underlying44 (hval 4 44 v4 rfl rfl) h4 (gF hz (j:=4) rfl rfl)
 obtain⟨x5,k5,o5⟩:=uz (fun N=>jU Tryz.underlying3) Tryz.underlying3 (hval 5 3 v5 rfl rfl) h5 (gF hz (j:=5) rfl rfl)
 clear hA0
 simp only[List.append_nil] at hW' hA1
 have hlt:=hW'.lt
 have hv:bj (ll W) [] [cw x0,.int .i64 x1,.int .i64 x2,vals x3,ints x4,.int .i64 x5] [v0,v1,v2,v3,v4,v5]:=by
  simp only[bj]
  exact⟨_,_,rfl,k0,_,_,rfl,k1,_,_,rfl,k2,_,_,rfl,k3,_,_,rfl,k4,_,_,rfl,k5,rfl⟩
 refine (Cl good hOther (J0 hS) hv (by rw[t6 x0 o0.1 o0.2 x1 x2 x3 o3.1 o3.2 x4 x5];rfl)).mono fun e W' ⟨he,hb⟩=>?_
 subst he
 exact⟨_,rfl,sS (pv:=[]) hW' (fun _ _ _=>trodAll_cons_mk (shut_bool Tryz.underlying4 _) trodAll_mk0) (fun sp hsp=>
   yH kids xY (by rw[Tryz.params6];decide +kernel) hA1 hlt hb sp hsp) (fun _ _=>rfl) (by simp)
  hb (ok_one (by kernel_rfl) rfl (okWide_bool_mk Tryz.underlying4 _))⟩
theorem reads(os:Os){H:Type}(enc:TypeId×Value→H):∃ ds places,DataW.whole enc Tryz.prog ((tJ os).forCall (fun _ _=>0) ⟨#[],#[.slice none 0 0,.int .i64 0,.int .i64 0,.slice none 0 0,.slice none 0 0,.int .i64 0],[]⟩).memory Tryz.f6.params.toList Rows.evalTypedSpec.vars false #[.slice none 0 0,.int .i64 0,.int .i64 0,.slice none 0 0,.slice none 0 0,.int .i64 0].toList 8=some (ds,[],places):=
 ⟨[.nil,.lit (.int .i64 0),.lit (.int .i64 0),.nil,.nil,.lit (.int .i64 0)],[],by kernel_rfl⟩
theorem lifted(os:Os)(started:os.Started)(H:Type)(enc:TypeId×Value→H)(F:Stop.Interp):
  ReturnsInHanded {} Tryz.checked os 6 .any ((OpenSpec.ofChange Rows.evalTypedSpec).preRow enc Tryz.prog Tryz.f6 Rows.evalTypedRow.domain false Rows.evalTypedRow.laid) (((OpenSpec.ofChange Rows.evalTypedSpec).at F).post enc Tryz.prog Tryz.f6 false true false false):=by
 obtain⟨ds,places,hx⟩:=reads os enc
 refine returnsInHanded_of_row (C:=Tryz.checked) (s:=OpenSpec.ofChange Rows.evalTypedSpec) Ng started (by kernel_rfl) Tryz.func6
  (witness_row_atRef (enc:=enc) (C:=Tryz.checked) false (tJ os) #[.slice none 0 0,.int .i64 0,.int .i64 0,.slice none 0 0,.slice none 0 0,.int .i64 0] rfl (by kernel_rfl) (by kernel_rfl) (by kernel_rfl)
   (OpenSpec.preRow_of_cond 8 hx (by kernel_rfl) (fun k hk=>by cases hk) (by kernel_rfl) (laidMet_nil _ _))) ?_
 intro W base args ds gs before hval hW _ _ hz hL hS _
 exact EX H enc W base args ds gs before hval hW hz hL hS
end Go.Proofs.YtkkabinknmldeaaGreat.evalTyped
