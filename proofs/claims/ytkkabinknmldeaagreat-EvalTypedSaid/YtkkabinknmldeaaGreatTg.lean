/- What the functions of the seat compute, part 7: the texts of the claim, one behind the other. Conditions: bounds, as each theorem names them. -/
import Derived.Test.YtkkabinknmldeaaGreatTf
set_option linter.unusedSimpArgs false
set_option linter.unusedVariables false
namespace Go.Proofs.YtkkabinknmldeaaGreat
open Go Go.Av Go.Av.Ap
set_option maxRecDepth 100000
def bH(o:Int)(ns:List aU)(vs:List Val):AV:=.agg [.int .i64 o,strs ns,vals vs]
@[simp] theorem ez(o:Int)(ns:List aU)(vs:List Val):ab (bH o ns vs)=[.int .i64 o,strs ns,vals vs]:=rfl
theorem bL(o:Int)(ns:List aU)(vs:List Val):AV.agg [.int .i64 o,strs ns,vals vs]=bH o ns vs:=rfl
theorem wy(g)(o:Int)(ns:List aU)(vs:List Val):cl g (bH o ns vs)=bH o ns vs:=by
 simp[bH,cl,dL,mg,jE]
theorem m7(o:Int)(ns:List aU)(vs:List Val):cm 3 (bH o ns vs)=true:=by simp[cm,aO,strs,vals,bH,cL,ab]
theorem zx(o:Int)(ns:List aU)(vs:List Val):aE (M.pure (bH o ns vs))=M.pure (bH o ns vs):=bM fun g=>wy g o ns vs
set_option maxHeartbeats 1000000 in
theorem t263(n:Int):ai pg 263 [.int .i64 n]=M.pure (.int .i64 (aW n)):=by
 rw[C263]
 unfold aW
 simp only[S263,K263_0,K263_1,K263_2,K263_3,cl,rr,g7,ar,aA,aL,aS,beq_iff_eq]
 by_cases h0:n=0
 ·simp[h0]
 by_cases h1:n=1
 ·simp[h1]
 by_cases h2:n=2
 ·simp[h2]
 by_cases h17:n=17
 ·simp[h17]
 by_cases h10:n=10
 ·simp[h10]
 by_cases h14:n=14
 ·simp[h14]
 by_cases h16:n=16
 ·simp[h16]
 by_cases h18:n=18
 ·simp[h18]
 by_cases h3:n=3
 ·simp[h3]
 by_cases h4:n=4
 ·simp[h4]
 by_cases h5:n=5
 ·simp[h5]
 by_cases h6:n=6
 ·simp[h6]
 by_cases h7:n=7
 ·simp[h7]
 by_cases h8:n=8
 ·simp[h8]
 by_cases h9:n=9
 ·simp[h9]
 by_cases h12:n=12
 ·simp[h12]
 by_cases h11:n=11
 ·simp[h11]
 by_cases h13:n=13
 ·simp[h13]
 by_cases h15:n=15
 ·simp[h15]
 simp[h0,h1,h2,h17,h10,h14,h16,h18,h3,h4,h5,h6,h7,h8,h9,h12,h11,h13,h15]
theorem t246(o:Int)(ns:List aU)(vs:List Val)(s:aU)(v:Val)(h1:ns.length≤1099511627776)(h2:vs.length≤1099511627776):
  ai pg 246 [bH o ns vs,.str s,v.av]=M.pure (bH o (ns++[s]) (vs++[v])):=by
 have hb1:aI T 22 1 [(0,.str s)]=some (strs [s]):=rfl
 have hb2:aI T 47 1 [(0,v.av)]=some (vals [v]):=by rw[v.av_eq];simp[vals,eF,v.av_eq];rfl
 have ha1:cP T 22 (strs ns) (strs [s])=some (strs (ns++[s])):=KP (by simp;omega)
 have ha2:cP T 47 (vals vs) (vals [v])=some (vals (vs++[v])):=GQ (by simp;omega)
 have hb3:aM T false 269 [(0,.int .i64 o),(1,strs (ns++[s])),(2,vals (vs++[v]))]=some (bH o (ns++[s]) (vs++[v])):=rfl
 rw[C246,wy]
 simp[S246,cl,t293,t294,hb1,hb2,ha1,ha2,hb3,bL,m7,zx]
def nq(e:Int):AV:=.iface 33 (.int .i64 e)
def cz(b:Bool)(e:Int)(x:M AV):M AV:=if b=true then x else iE (nq e)
theorem bd(b:Bool)(e:Int)(f:AV→M AV):ae (ai pg 245 [.bool b,.int .i64 e]) f=cz b e (f (.tup [])):=by
 rw[t245]
 unfold cz
 cases b <;> rfl
def dz:X Val→M AV:=fun x=>match x ⟨0,0,[],[],[],[]⟩ with
 | .ok v _=>M.pure v.av
 | .er e _=>iE (nq e)
theorem t266(op:Int)(a b:Val)(h:op=3∨op=4∨op=5∨op=6∨op=7):ai pg 266 [.int .i64 op,a.av,b.av]=dz (ln op a b):=by
 rw[C266]
 unfold ln
 have hn:=t264
 have ht:=t265
 simp only[S266,g7,ar,aA,dU]
 by_cases h7:op=7
 ·by_cases hk:a.kind=b.kind
  ·by_cases h2:a.kind=2
   ·have h2':b.kind=2:=by omega
    simp[h7,hk,h2',bd,cz,dz,X.er]
   ·have h2':¬ b.kind=2:=by omega
    simp[h7,hk,h2',bd,cz,dz,X.ok,ht]
  ·simp[h7,hk,bd,cz,dz,X.er]
 ·by_cases ha:a.kind=0
  ·by_cases hb:b.kind=0
   ·simp only[h7,ha,hb,beq_self_eq_true,and_self,if_true,if_false,beq_iff_eq,FA51_0,FA51_1,List.drop_zero,LD3,ar,g7,dq,aB,oV,aL,bd,cz,Bool.and_self,List.drop_succ_cons,aA,cX,uB,G0,bz,hn,ht]
    by_cases h3:op=3
    ·simp[h3,dz,X.ok,lU,wr]
     rfl
    by_cases h4:op=4
    ·simp[h4,dz,X.ok,lU,wr]
     rfl
    by_cases h5:op=5
    ·simp[h5,dz,X.ok,lU,wr]
     rfl
    simp[h3,h4,h5,dz,X.ok]
   ·simp[h7,ha,hb,bd,cz,dz,X.er]
  ·simp[h7,ha,bd,cz,dz,X.er]
theorem t269(l:List aU)(s:aU)(hb:l.length≤1099511627776):ai pg 269 [strs l,.str s]=M.pure (.int .i64 (aZ (fun x=>s== x) l 0)):=by
 have hl:∀(n:Nat)(i:Int),l.length - i.toNat=n→0≤i→i≤l.length→aj (L269_0 (ai pg) aj) [strs l,.str s,.int .i64 l.length,.int .i64 i]=M.pure (.int .i64 (aZ (fun x=>s== x) (l.drop i.toNat) i)):=by
  intro n
  induction n with
  | zero=>
   intro i hn hi hl
   rw[FL269_0]
   simp only[L269_0]
   have h1:¬ (i < (l.length:Int)):=by omega
   have h2:l.drop i.toNat=[]:=List.drop_eq_nil_of_le (by omega)
   simp[h1,h2,aZ]
  | succ n ih=>
   intro i hn hi hl
   have h1:i < (l.length:Int):=by omega
   have hlt:i.toNat < l.length:=by omega
   have h2:aZ (fun x=>s== x) (l.drop i.toNat) i=if (s== l[i.toNat])=true then i else aZ (fun x=>s== x) (l.drop (i.toNat + 1)) (i + 1):=by rw[List.drop_eq_getElem_cons hlt];rfl
   have h4:=ih (i + 1) (by omega) (by omega) (by omega)
   rw[show (i + 1).toNat=i.toNat + 1 by omega] at h4
   rw[FL269_0]
   simp only[L269_0]
   simp (disch:=omega) [h1,aV,sD,h2]
   by_cases h:s=l[i.toNat]
   ·simp[h]
   ·simp[h]
    simpa using h4
 rw[C269]
 simp[S269,cl,hl l.length 0 rfl (by omega) (by omega)]
theorem t310:∀(n:Nat)(v:Val),v.sz≤n→v.sz≤1099511627776→ai pg 310 [v.av]=M.pure (.int .i64 (fC v:Nat)):=by
 intro n
 induction n with
 | zero=>intro v h;have:=v.sz_pos;omega
 | succ n ih=>
  intro v hn hv
  have hlen:=v.sz_len
  have hlv:∀(l:List Val),bT l≤1099511627776→eQ l≤1099511627776:=by
   intro l
   induction l with
   | nil=>intro _;simp[eQ]
   | cons x l ih2=>
    intro h
    simp only[bT] at h
    have:=ih2 (by omega)
    have hx:∀(k:Nat)(y:Val),y.sz≤k→fC y≤y.sz:=by
     intro k
     induction k with
     | zero=>intro y hy;have:=y.sz_pos;omega
     | succ k ihk=>
      intro y hy
      rw[kg]
      have h1:=y.sz_values
      have h2:eQ y.values≤bT y.values:=(jg _ _).2 fun z hz=>Nat.le_trans (ihk z (by have:=Val.sz_mem hz;omega)) (gX hz)
      omega
    simp only[eQ]
    have:=hx _ x (Nat.le_refl _)
    omega
  have hl:∀(B A:List Val)(c:Nat),A++B=v.values→c≤1099511627776→aj (L310_0 (ai pg) aj) [.int .i64 (c:Nat),vals v.values,.int .i64 v.values.length,.int .i64 A.length]=M.pure (.int .i64 ((max c (eQ B) + 1:Nat))):=by
   intro B
   induction B with
   | nil=>
    intro A c e hc
    simp only[List.append_nil] at e
    subst e
    rw[FL310_0]
    simp (disch:=omega) [L310_0,eQ,aV]
   | cons x B ih2=>
    intro A c e hc
    have hll:A.length + (B.length + 1)=v.values.length:=by rw[← e];simp
    have h1:(A.length:Int) < (v.values.length:Int):=by omega
    have hx:v.values[A.length]! = x:=by
     rw[← e,getElem!_pos _ _ (by simp)]
     simp
    have hm:x∈v.values:=by rw[← e];simp
    have hx':v.values[A.length]'(by omega)=x:=by rw[← hx,getElem!_pos]
    have h3:=ih x (by have:=Val.sz_mem hm;omega) (by have:=Val.sz_mem hm;omega)
    have hxb:fC x≤1099511627776:=Nat.le_trans ((jg v.values _).1 (hlv v.values (by have:=v.sz_values;omega)) x hm) (Nat.le_refl _)
    have h4:=ih2 (A++[x]) (max c (fC x)) (by rw[← e];simp) (by omega)
    rw[FL310_0]
    have hmx:(max (c:Int) (fC x:Int))=((max c (fC x):Nat):Int):=by omega
    simp (disch:=omega) [L310_0,h1,aV,qq,hx',h3,hmx] at h4 ⊢
    rw[h4]
    simp only[eQ]
  rw[C310]
  have:=hl v.values [] 0 rfl (by omega)
  simp at this
  simp[S310,this,kg]
theorem t311(f:bP)(e:Exp):ai pg 311 [bF f,.ip (ab e.av)]=M.pure (.bool (f.1== e.s)):=by
 rw[C311];simp[S311,cl,dL]
theorem Me(l:List bP)(hl:l.length≤1099511627776)(e:Exp):ai pg 228 [aK l,.fn (.func 311) [] [.ip (ab e.av)]]=M.pure (.int .i64 (jc l e.s)):=
 t228 _ _ l (by omega) (fun g=>by simp[cl,dL]) (fun f _=>t311 f e)
def vu(t:Bool)(p:List Mod):AV:=if t=true then (match p with | []=>.hn | _=>cw p) else cw p
theorem ql{t:Bool}{p:List Mod}(h:p≠[]):vu t p=cw p:=by
 cases t with
 | false=>rfl
 | true=>cases p with
  | nil=>exact absurd rfl h
  | cons _ _=>rfl
def su(t:Bool)(w:List Int):AV:=if t=true then .hn else ints w
def rowP(p:List Mod)(t:Bool)(m:Ms)(dv cv sv:AV):List AV:=[vu t p,su t m.world,.int .i64 m.fuel,.int .i64 m.frames,.int .i64 0,.int .i64 0,.int .i64 0,.hn,.hn,dv,cv,sv]
abbrev eH(p:List Mod)(nm:SNm):=NH (rowP p nm.told) nm
structure LimP (p:List Mod):Prop where
 len:p.length≤1099511627776
 funcs:∀ m∈p,m.funcs.length≤1099511627776∧m.vars.length≤1099511627776
theorem LimP.funcsAt{p:List Mod}(L:LimP p)(i:Nat):(p[i]?.getD default).funcs.length≤1099511627776∧(p[i]?.getD default).vars.length≤1099511627776:=by
 cases h:p[i]? with
 | none=>exact⟨Nat.zero_le _,Nat.zero_le _⟩
 | some m=>exact L.funcs m (List.mem_of_getElem? h)
theorem lN{α:Type}(F:α→Bool):(l:List α)→(i:Int)→aZ F l i= -1∨(i≤aZ F l i∧aZ F l i < i + l.length)
 | [],i=>.inl rfl
 | x:: l,i=>by
  simp only[aZ]
  split
  ·exact .inr ⟨Int.le_refl _,by simp;omega⟩
  ·rcases lN F l (i + 1) with h | h
   ·exact .inl h
   ·exact .inr ⟨by omega,by simp;omega⟩
theorem t162{p:List Mod}{nm:SNm}{m:Ms}{h:Hp}(R:eH p nm m h)(L:LimP p)(s:aU):ai pg 162 [.hp 0 0,.str s] h= .ok (.int .i64 (modAt p s)) h:=by
 obtain⟨tag,dv,cv,sv,R⟩:=R
 have h0:aR T 42 (.hp 0 (0 + 0)) h= .ok (vu nm.told p) h:=dc rfl rfl R.r0 rfl
 have hpv:∀ f:AV,ai pg 200 [vu nm.told p,f]=ai pg 200 [cw p,f]:=fun f=>by
  by_cases hp:p=[]
  ·subst hp
   cases nm.told with
   | false=>rfl
   | true=>rw[C200,C200];rfl
  ·rw[ql hp]
 rw[C162]
 simp only[S162,dV,ar,FH240_0]
 rw[bS h0,hpv]
 have:=Mc p (by have:=L.len;omega) s
 simp only[gA,this,aB]
 rfl
def rb:Option Fun→AV
 | some f=>.tup [f.av,.bool true]
 | none=>.tup [Fun.av default,.bool false]
theorem t163{p:List Mod}{nm:SNm}{m:Ms}{h:Hp}(R:eH p nm m h)(L:LimP p)(a:Int)(ha:a < p.length)(s:aU):ai pg 163 [.hp 0 0,.int .i64 a,.str s] h= .ok (rb (f9 p a s)) h:=by
 obtain⟨tag,dv,cv,sv,R⟩:=R
 have h0:p≠[]→aR T 42 (.hp 0 (0 + 0)) h= .ok (cw p) h:=fun hp=>dc rfl rfl R.r0 (by rw[← ql (t:=nm.told) hp];rfl)
 have hz:aM T false 76 []=some (Fun.av default):=rfl
 have hzz:∀ f:Fun,AV.agg [nth (ab f.av) 0,nth (ab f.av) 1,nth (ab f.av) 2,nth (ab f.av) 3,nth (ab f.av) 4,nth (ab f.av) 5,nth (ab f.av) 6,nth (ab f.av) 7,nth (ab f.av) 8,nth (ab f.av) 9,nth (ab f.av) 10,nth (ab f.av) 11]=f.av:=fun f=>by simp
 have hcf:∀ f:Fun,ao 12 [] f.av=M.pure (.agg (ab f.av)):=fun f=>aY (jh f)
 have hac:∀ f:Fun,ab (.agg (ab f.av))=ab f.av:=fun _=>rfl
 rw[C163]
 unfold f9
 simp only[S163,bz,ar,aA]
 by_cases h1:a < 0
 ·simp only[h1,decide_true,if_true,hz,ar,hcf,aB,hac,hzz]
  rfl
 ·simp only[h1,decide_false,Bool.false_eq_true,if_false,dV,ar,FH240_0]
  rw[bS (h0 (fun e=>by subst e;simp at ha;omega))]
  have hi:=lr (l:=p) (n:=a) (by omega) ha
  have hlt:a.toNat < p.length:=by omega
  have e1:p[a.toNat]! = p[a.toNat]?.getD default:=by rw[getElem!_pos p a.toNat hlt,List.getElem?_eq_getElem hlt];rfl
  have hlen:=(L.funcsAt a.toNat).1
  have hx:=Md (p[a.toNat]?.getD default).funcs (by omega) s
  generalize hm:p[a.toNat]?.getD default=md at hx hlen e1
  rw[hi,e1]
  simp only[ar,br,FA29_4,List.drop_succ_cons,List.drop_zero,LD25,gA,hx,aB,bz,aA]
  by_cases h2:kb md.funcs s < 0
  ·simp only[h2,decide_true,if_true,hz,ar,hcf,aB,hac,hzz]
   rfl
  ·simp only[h2,decide_false,Bool.false_eq_true,if_false]
   rcases lN (fun f=>f.name== s) md.funcs 0 with h3 | h3
   ·exact absurd (show kb md.funcs s < 0 by unfold kb;rw[h3];decide) h2
   ·have h4:kb md.funcs s < (md.funcs.length:Int):=by unfold kb;omega
    have h5:(kb md.funcs s).toNat < md.funcs.length:=by omega
    rw[sE (by omega) h4,getElem!_pos md.funcs _ h5,List.getElem?_eq_getElem h5]
    have hld:ah T 76 (.ip (ab (md.funcs[(kb md.funcs s).toNat]).av))=some (md.funcs[(kb md.funcs s).toNat]).av:=by simp
    simp only[ar,hld,hcf,aB,hac,hzz]
    rfl
def iL{α:Type}(p:List Mod)(nm:SNm)(enc:α→AV)(r:Rs α)(c:R AV):Prop:=match r with
 | .ok v s=>∃ h',c= .ok (enc v) h'∧eH p nm s h'
 | .er e s=>∃ h',c= .pan (nq e) h'∧eH p nm s h'
theorem ca{α β:Type}{p:List Mod}{nm:SNm}{enc:α→AV}{enc':β→AV}{x:X α}{f:α→X β}{c:M AV}{d:AV→M AV}{m:Ms}{h:Hp} (H:iL p nm enc (x m) (c h))
  (K:∀ a s h',x m= .ok a s→eH p nm s h'→iL p nm enc' (f a s) (d (enc a) h')):iL p nm enc' (x.bind f m) (ae c d h):=by
 unfold X.bind
 cases hr:x m with
 | ok a s=>
  rw[hr] at H
  obtain⟨h',h1,h2⟩:=H
  rw[bS h1]
  exact K a s h' hr h2
 | er e s=>
  rw[hr] at H
  obtain⟨h',h1,h2⟩:=H
  exact⟨h',Ar h1,h2⟩
theorem dR{α:Type}{p:List Mod}{nm:SNm}{enc:α→AV}{a:α}{m:Ms}{h:Hp}(R:eH p nm m h):iL p nm enc (X.ok a m) (M.pure (enc a) h):=⟨h,rfl,R⟩
theorem fc{α:Type}{p:List Mod}{nm:SNm}{enc:α→AV}{e:Int}{m:Ms}{h:Hp}(R:eH p nm m h):iL p nm enc (X.er e m) (iE (nq e) h):=⟨h,rfl,R⟩
theorem Jf(v:Val):ae (ao 4 [] v.av) (fun w=>M.pure (AV.agg [nth (ab w) 0,nth (ab w) 1,nth (ab w) 2,nth (ab w) 3]))=M.pure v.av:=by simp
def iK(m:Ms):Ms:={ m with fuel:=m.fuel - 1 }
theorem Ge{p:List Mod}{nm:SNm}{tag:Nat→Nat}{dv cv sv:AV}{m:Ms}{h:Hp}(R:RepT (rowP p nm.told) nm tag dv cv sv m h):RepT (rowP p nm.told) nm tag dv cv sv (iK m) (h.set 0 (rowP p nm.told (iK m) dv cv sv)):=R.set0 rfl rfl rfl id
theorem step0{p:List Mod}{nm:SNm}{m:Ms}{h:Hp}(R:eH p nm m h):∃ h1,eH p nm (iK m) h1∧
  (∀ f:AV→M AV,ae (aR T 3 (.hp 0 2)) f h=f (.int .i64 m.fuel) h)∧(∀ f:AV→M AV,ae (bo T 3 (.hp 0 2) (.int .i64 (m.fuel - 1))) f h=f (.tup []) h1):=by
 obtain⟨tag,dv,cv,sv,R⟩:=R
 refine⟨_,⟨tag,dv,cv,sv,Ge R⟩,fun f=>bS (dc rfl rfl R.r0 rfl),fun f=>bS (fp rfl R.r0 rfl (show 2 + 1≤12 by decide) (by decide))⟩
theorem E3{p:List Mod}{nm:SNm}{m:Ms}{h:Hp}(R:eH p nm m h)(hf:¬ 0 < m.fuel)(sc:AV)(e:Exp):ai pg 191 [.hp 0 0,sc,e.av] h= .pan (nq 16) h:=by
 obtain⟨tag,dv,cv,sv,R⟩:=R
 have h0:∀ f:AV→M AV,ae (aR T 3 (.hp 0 2)) f h=f (.int .i64 m.fuel) h:=fun f=>bS (dc rfl rfl R.r0 rfl)
 rw[C191]
 simp[S191,h0,hf,bd,cz,iE]
def pb(e:Exp):Prop:=¬ aW e.op= -2∧(aW e.op= -1∨aW e.op=e.args.length)
theorem JU{p:List Mod}{nm:SNm}{m:Ms}{h:Hp}(R:eH p nm m h)(G:GoodM p m)(hf:0 < m.fuel)(sc:AV)(e:Exp)(hc:¬ pb e):∃ h1,eH p nm (iK m) h1∧ai pg 191 [.hp 0 0,sc,e.av] h= .pan (nq 13) h1:=by
 obtain⟨h1,R1,hl,hs⟩:=step0 R
 refine⟨h1,R1,?_⟩
 have hw:IntKind.i64.wrap (m.fuel - 1)=m.fuel - 1:=aV (by omega) (by have:=G.bud;simp only[mu] at this;omega)
 unfold pb at hc
 rw[C191]
 simp[S191,hl,hs,hf,bd,cz,hw,t263,hc]
 rfl
mutual
def bC:Exp→Prop
 | .mk _ _ _ _ ns es=>ns.length≤8796093022208∧es.length≤274877906944∧nz es
def nz:List Exp→Prop
 | []=>True
 | e:: es=>bC e∧nz es
end
theorem pt:{l:List Exp} →nz l→∀ e∈l,bC e
 | [],_,_,h=>by cases h
 | x:: l,H,e,h=>by
  simp only[nz] at H
  rcases List.mem_cons.1 h with rfl | h
  ·exact H.1
  ·exact pt H.2 e h
theorem bu{e x:Exp}(H:bC e)(h:x∈e.args):bC x:=by
 obtain⟨o,n,s,m,ns,es⟩:=e
 simp only[bC] at H
 exact pt H.2.2 x h
theorem kJ{e:Exp}(H:bC e):e.names.length≤8796093022208∧e.args.length≤274877906944:=by
 obtain⟨o,n,s,m,ns,es⟩:=e
 simp only[bC] at H
 exact⟨H.1,H.2.1⟩
structure LimB (p:List Mod):Prop where
 lim:LimP p
 body:∀ m∈p,∀ f∈m.funcs,bC f.body∧f.params.length≤274877906944
structure Sc (p:List Mod) (own:Int) (ns:List aU) (vs:List Val) (m:Ms):Prop where
 own:own < p.length
 right:ly ns vs
 len:(ns.length:Int) + m.fuel≤549755813888
def pY(p:List Mod)(nm:SNm)(n:Nat):Prop:=∀ own ns vs e m h,eH p nm m h→GoodM p m→m.fuel≤n→Sc p own ns vs m→bC e→iL p nm Val.av (bm p n own ns vs e m) (ai pg 191 [.hp 0 0,bH own ns vs,e.av] h)
def Jh(p:List Mod)(nm:SNm)(n:Nat):Prop:=∀ own ns vs e m h,eH p nm m h→GoodM p m→m.fuel≤n→Sc p own ns vs m→bC e→iL p nm AV.bool (boolX (bm p n own ns vs e) m) (ai pg 267 [.hp 0 0,bH own ns vs,e.av] h)
def Il(p:List Mod)(nm:SNm)(n:Nat):Prop:=∀ own ns vs e m h,eH p nm m h→GoodM p m→m.fuel≤n→Sc p own ns vs m→bC e→iL p nm Val.av (hP (bm p n own ns vs) e m) (ai pg 268 [.hp 0 0,bH own ns vs,e.av] h)
def C0(p:List Mod)(nm:SNm)(n:Nat):Prop:=∀ own ns vs e m h,eH p nm m h→GoodM p m→mu m < 1000000→m.fuel≤n→Sc p own ns vs m→bC e→iL p nm Val.av (mG p (bm p n) own ns vs e m) (ai pg 270 [.hp 0 0,bH own ns vs,e.av] h)
def sr(p:List Mod)(r:Exp→X Val)(own:Int)(e:Exp):X Val:=if e.op=16 then sF (r e.args[0]!) e else sq p r own e
def Am(p:List Mod)(nm:SNm)(n:Nat):Prop:=∀ own ns vs e m h,e.op=16∨e.op=17∨e.op=18→pb e→eH p nm m h→GoodM p m→mu m < 1000000→m.fuel≤n→Sc p own ns vs m→bC e→iL p nm Val.av (sr p (bm p n own ns vs) own e m) (ai pg 271 [.hp 0 0,bH own ns vs,e.av] h)
theorem Sc.less{p:List Mod}{own:Int}{ns:List aU}{vs:List Val}{m s:Ms}(H:Sc p own ns vs m)(h:s.fuel≤m.fuel):Sc p own ns vs s:=⟨H.own,H.right,by have:=H.len;omega⟩
theorem t267{p:List Mod}{nm:SNm}{n:Nat}(IH:pY p nm n):Jh p nm n:=by
 intro own ns vs e m h R G hn hs he
 unfold boolX
 have hsc:ah T 269 (.ip (ab (bH own ns vs)))=some (bH own ns vs):=rfl
 have hex:ah T 74 (.ip (ab e.av))=some e.av:=by simp
 rw[C267]
 simp only[S267,hsc,hex,ar]
 refine ca (IH own ns vs e m h R G hn hs he) fun v s h' hv Rs=>?_
 simp only[ba (eq v),aB,bY,dU,FA51_0,FA51_1,List.drop_zero,LD3,ar,g7,bd,cz,List.drop_succ_cons]
 by_cases hk:v.kind=1
 ·simp only[hk,beq_self_eq_true,if_true]
  exact dR Rs
 ·have:(v.kind== 1)=false:=by simpa using hk
  simp only[hk,this,if_false,Bool.false_eq_true]
  exact fc Rs
theorem tN:∀(ns:List aU)(vs:List Val)(n:aU)(v:Val)(s:aU),ns.length=vs.length→Ap.eZ (ns++[n]) (vs++[v]) s=if n=s then some v else Ap.eZ ns vs s
 | [],[],n,v,s,_=>by simp[Ap.eZ]
 | a:: ns,b:: vs,n,v,s,h=>by
  simp only[List.cons_append,Ap.eZ,tN ns vs n v s (by simpa using h)]
  by_cases hn:n=s
  ·simp[hn]
  ·simp[hn]
 | [],_:: _,_,_,_,h=>by simp at h
 | _:: _,[],_,_,_,h=>by simp at h
def FE(o:Option Val):M AV:=match o with
 | some v=>M.pure v.av
 | none=>iE (nq 12)
theorem xx(kk:List AV→M AV)(own:Int)(ns:List aU)(vs:List Val)(e:Exp)(x1 x2 x3 x4:AV)(hl:ns.length=vs.length)(hb:ns.length≤1099511627776):∀(i:Nat),i≤ns.length→
  aj (L191_0 (ai pg) aj kk) [.hp 0 0,.ip [.int .i64 own,strs ns,vals vs],.ip (ab e.av),.int .i64 ((i:Int) - 1),x1,x2,x3,x4]=FE (Ap.eZ (ns.take i) (vs.take i) e.s)
 | 0,_=>by
  have hi:kj T 33 (.int .i64 12)=some (nq 12):=rfl
  rw[FL191_0]
  simp only[L191_0,aL,aS,kE,ar,aA,hi]
  simp[Ap.eZ,FE,HX]
  rfl
 | i + 1,hi=>by
  have ih:=xx kk own ns vs e x1 x2 x3 x4 hl hb i (by omega)
  have h1:i < ns.length:=by omega
  have h2:i < vs.length:=by omega
  have h3:(ns.take (i + 1))=ns.take i++[ns[i]]:=by simp
  have h4:(vs.take (i + 1))=vs.take i++[vs[i]]:=by simp
  rw[h3,h4,tN _ _ _ _ _ (by simp;omega),FL191_0]
  have e1:((i + 1:Nat):Int) - 1=(i:Int):=by omega
  rw[e1]
  simp only[L191_0]
  simp (disch:=omega) [aV,sD,qq,h1,h2]
  simp only[a7] at ih
  by_cases hs:ns[i]=e.s
  ·simp[hs,FE]
  ·simp[hs,ih]
end Go.Proofs.YtkkabinknmldeaaGreat
namespace Go.Proofs.YtkkabinknmldeaaGreat
open Go Go.Av Go.Av.Ap
set_option maxRecDepth 100000
@[simp] theorem LQ(a:Exp)(l:List Exp):ak T 24 (cb (a:: l)) (.int .i64 0)=some (.ip (ab a.av)):=by
 have:=lj (l:=a:: l) (n:=0) (by omega) (by simp <;> omega)
 simpa using this
@[simp] theorem NM(a b:Exp)(l:List Exp):ak T 24 (cb (a:: b:: l)) (.int .i64 1)=some (.ip (ab b.av)):=by
 have:=lj (l:=a:: b:: l) (n:=1) (by omega) (by simp <;> omega)
 simpa using this
@[simp] theorem NN(a b c:Exp)(l:List Exp):ak T 24 (cb (a:: b:: c:: l)) (.int .i64 2)=some (.ip (ab c.av)):=by
 have:=lj (l:=a:: b:: c:: l) (n:=2) (by omega) (by simp <;> omega)
 simpa using this
section
variable (o n:Int) (s m:aU) (ns:List aU) (es:List Exp)
@[simp] theorem lY:(Exp.mk o n s m ns es).op=o:=rfl
@[simp] theorem sQ:(Exp.mk o n s m ns es).n=n:=rfl
@[simp] theorem zW:(Exp.mk o n s m ns es).s=s:=rfl
@[simp] theorem Cr:(Exp.mk o n s m ns es).m=m:=rfl
@[simp] theorem fa:(Exp.mk o n s m ns es).names=ns:=rfl
@[simp] theorem gY:(Exp.mk o n s m ns es).args=es:=rfl
end
theorem ka(o n:Int)(s m:aU)(ns:List aU)(es:List Exp):AV.agg [.int .i64 o,.int .i64 n,.str s,.str m,strs ns,cb es]=(Exp.mk o n s m ns es).av:=by rw[Exp.av,Exp.cells_eq];rfl
theorem qT:∀(ns:List aU)(vs:List Val)(s:aU)(i:Int),ns.length=vs.length→(aZ (fun x=>s== x) ns i= -1∧ek ns vs s=none)∨(∃(k:Nat)(h:k < vs.length),aZ (fun x=>s== x) ns i=i + k∧ek ns vs s=some vs[k])
 | [],[],s,i,_=>.inl ⟨rfl,rfl⟩
 | n:: ns,v:: vs,s,i,h=>by
  simp only[aZ,ek]
  by_cases hn:n=s
  ·right
   exact⟨0,by simp,by simp[hn],by simp[hn]⟩
  ·have hn':(s== n)=false:=by simpa using fun e=>hn e.symm
   simp only[if_neg hn,hn',Bool.false_eq_true,if_false]
   rcases qT ns vs s (i + 1) (by simpa using h) with ⟨h1,h2⟩ | ⟨k,hk,h1,h2⟩
   ·left
    exact⟨by simpa using h1,h2⟩
   ·right
    exact⟨k + 1,by simp;omega,by simp[h1];omega,by simpa using h2⟩
 | [],_:: _,_,_,h=>by simp at h
 | _:: _,[],_,_,h=>by simp at h
theorem ko{p:List Mod}{nm:SNm}{x:X Val}(hx:(∃ v,x= .ok v)∨(∃ e,x= .er e)){m:Ms}{h:Hp}(R:eH p nm m h):iL p nm Val.av (x m) (dz x h):=by
 rcases hx with ⟨v,rfl⟩ | ⟨e,rfl⟩
 ·exact dR R
 ·exact fc R
theorem jV(op:Int)(a b:Val):(∃ v,ln op a b= .ok v)∨(∃ e,ln op a b= .er e):=by
 unfold ln
 split
 ·split
  ·exact .inl ⟨_,rfl⟩
  ·exact .inr ⟨_,rfl⟩
 ·split
  ·split
   ·exact .inl ⟨_,rfl⟩
   ·split
    ·exact .inl ⟨_,rfl⟩
    ·split
     ·exact .inl ⟨_,rfl⟩
     ·exact .inl ⟨_,rfl⟩
  ·exact .inr ⟨_,rfl⟩
theorem J4{l:List Exp}(h:l.length=1):∃ a,l=[a]:=by
 match l,h with
 | [a],_=>exact⟨a,rfl⟩
theorem xt{l:List Exp}(h:l.length=2):∃ a b,l=[a,b]:=by
 match l,h with
 | [a,b],_=>exact⟨a,b,rfl⟩
theorem M9{l:List Exp}(h:l.length=3):∃ a b c,l=[a,b,c]:=by
 match l,h with
 | [a,b,c],_=>exact⟨a,b,c,rfl⟩
theorem A6{α:Type}{p:List Mod}{nm:SNm}{enc:α→AV}{c:Prop}[Decidable c]{x y:X α}{a b:M AV}{m:Ms}{h:Hp}(h1:c→iL p nm enc (x m) (a h))(h2:¬ c→iL p nm enc (y m) (b h)):iL p nm enc ((if c then x else y) m) ((if c then a else b) h):=by
 split
 ·exact h1 ‹_›
 ·exact h2 ‹_›
theorem AC(a b:Bool):am T .eql 4 (.bool a) (.bool b)=some (.bool (a== b)):=by cases a <;> cases b <;> rfl
theorem o9(v:Val)(h:Hp):ae (ao 4 [] v.av) (fun w=>M.pure (AV.agg [nth (ab w) 0,nth (ab w) 1,nth (ab w) 2,nth (ab w) 3])) h=M.pure v.av h:=by rw[Jf]
theorem dn{p:List Mod}{nm:SNm}{r:Rs Val}{c:M AV}{h:Hp}(H:iL p nm Val.av r (c h)):iL p nm Val.av r (ae c (fun v=>ae (ao 4 [] v) fun w=>M.pure (AV.agg [nth (ab w) 0,nth (ab w) 1,nth (ab w) 2,nth (ab w) 3])) h):=by
 cases r with
 | ok v s=>
  obtain⟨h',h1,h2⟩:=H
  refine⟨h',?_,h2⟩
  rw[bS h1,Jf]
  rfl
 | er e s=>
  obtain⟨h',h1,h2⟩:=H
  exact⟨h',Ar h1,h2⟩
theorem BS{p:List Mod}{nm:SNm}{n:Nat}(IH:pY p nm n)(IR:Il p nm n)(IC:C0 p nm n)(IW:Am p nm n):pY p nm (n + 1):=by
 intro own ns vs e m h R G hn hs he
 have IB:=t267 IH
 by_cases hf:0 < m.fuel
 rotate_left
 ·have e1:bm p (n + 1) own ns vs e m= .er 16 m:=by
   show lg p (bm p n) own ns vs e m=_
   unfold lg X.get
   simp only
   rw[if_pos (by omega)]
   rfl
  rw[e1]
  exact⟨h,E3 R hf _ e,R⟩
 have hspec:bm p (n + 1) own ns vs e m=(if aW e.op= -2∨(aW e.op≠-1∧aW e.op≠e.args.length) then .er 13
   else if e.op=0 then .ok (lU e.n)
   else if e.op=1 then (if e.n=0∨e.n=1 then .ok (fP (e.n== 1)) else .er 13)
   else if e.op=2 then (match Ap.eZ ns vs e.s with | some v=>.ok v | none=>.er 12)
   else if e.op=3∨e.op=4∨e.op=5∨e.op=6∨e.op=7 then (bm p n own ns vs e.args[0]!).bind fun a=>(bm p n own ns vs e.args[1]!).bind fun b=>ln e.op a b
   else if e.op=8∨e.op=9 then (boolX (bm p n own ns vs e.args[0]!)).bind fun x=>if x=(e.op== 9) then .ok (fP (e.op== 9)) else (boolX (bm p n own ns vs e.args[1]!)).bind fun y=>.ok (fP y)
   else if e.op=10 then (boolX (bm p n own ns vs e.args[0]!)).bind fun x=>.ok (fP !x)
   else if e.op=11 then (boolX (bm p n own ns vs e.args[0]!)).bind fun x=>if x=true then bm p n own ns vs e.args[1]! else bm p n own ns vs e.args[2]!
   else if e.op=12 then (bm p n own ns vs e.args[0]!).bind fun v=>bm p n own (ns++[e.s]) (vs++[v]) e.args[1]!
   else if e.op=13 then hP (bm p n own ns vs) e
   else if e.op=14 then (bm p n own ns vs e.args[0]!).bind fun v=>(match ek v.names v.values e.s with | some x=>if v.kind=2 then .ok x else .er 13 | none=>.er 13)
   else if e.op=15 then mG p (bm p n) own ns vs e
   else sr p (bm p n own ns vs) own e:X Val) (iK m):=by
  show lg p (bm p n) own ns vs e m=_
  unfold lg X.get
  simp only
  rw[if_neg (by omega)]
  have hw:(if e.op=16 then sF (bm p n own ns vs e.args[0]!) e else sq p (bm p n own ns vs) own e)=sr p (bm p n own ns vs) own e:=rfl
  rw[hw]
  rfl
 have hbm:=G.bud
 have G1:GoodM p (iK m):=⟨G.right,by simp only[mu,iK] at hbm ⊢;omega,G.fr,by simp only[iK];omega,G.shape⟩
 have hmu:mu (iK m) < 1000000:=by simp only[mu,iK] at hbm ⊢;omega
 have hn1:(iK m).fuel≤n:=by simp only[iK];omega
 have hft:(iK m).fuel≤m.fuel:=by simp only[iK];omega
 have hs1:Sc p own ns vs (iK m):=hs.less hft
 by_cases hc:pb e
 rotate_left
 ·obtain⟨h1,R1,e1⟩:=JU R G hf (bH own ns vs) e hc
  have hc':aW e.op= -2∨(aW e.op≠-1∧aW e.op≠e.args.length):=by
   unfold pb at hc
   by_cases k:aW e.op= -2
   ·exact .inl k
   ·right
    exact⟨fun k2=>hc ⟨k,.inl k2⟩,fun k2=>hc ⟨k,.inr k2⟩⟩
  rw[hspec,if_pos hc']
  exact⟨h1,e1,R1⟩
 obtain⟨h1,R1,hl,hst⟩:=step0 R
 have hw:IntKind.i64.wrap (m.fuel - 1)=m.fuel - 1:=aV (by omega) (by simp only[mu] at hbm;omega)
 have hc':¬ (aW e.op= -2∨(aW e.op≠-1∧aW e.op≠e.args.length)):=by
  unfold pb at hc
  rintro (k | ⟨k1,k2⟩)
  ·exact hc.1 k
  ·rcases hc.2 with k | k
   ·exact k1 k
   ·exact k2 k
 rw[hspec,if_neg hc']
 have hcc:=hc
 have hce:=hc.2
 obtain⟨op,en,es,em,en2,ea⟩:=e
 simp only[lY,sQ,zW,gY] at hce ⊢
 unfold pb at hc
 simp only[lY,gY] at hc
 generalize hcode:ai pg 191 [.hp 0 0,bH own ns vs,(Exp.mk op en es em en2 ea).av] h=code
 rw[C191] at hcode
 have hW:∀ v:Val,∀ h,ae (ao 4 [] v.av) (fun w=>M.pure (AV.agg [nth (ab w) 0,nth (ab w) 1,nth (ab w) 2,nth (ab w) 3])) h=M.pure v.av h:=o9
 by_cases k0:op=0
 ·subst k0
  have hlen:ea.length=0:=by simp[aW] at hce;omega
  obtain rfl:=List.eq_nil_of_length_eq_zero hlen
  simp[S191,hl,hst,hf,bd,cz,hw,t263,aW,K191_2,K191_1,K191_0,bL,t264] at hcode
  simp
  rw[← hcode]
  exact dR (a:=lU en) R1
 by_cases k1:op=1
 ·subst k1
  have hlen:ea.length=0:=by simp[aW] at hce;omega
  obtain rfl:=List.eq_nil_of_length_eq_zero hlen
  simp[S191,hl,hst,hf,bd,cz,hw,t263,aW,K191_2,K191_1,K191_0,bL,t265] at hcode
  simp
  rw[← hcode]
  exact A6 (fun _=>dR (a:=fP (en== 1)) R1) (fun _=>fc R1)
 by_cases k2:op=2
 ·subst k2
  have hlen:ea.length=0:=by simp[aW] at hce;omega
  obtain rfl:=List.eq_nil_of_length_eq_zero hlen
  have hnl:=hs.right.1
  have hns:(ns.length:Int)≤549755813888:=by have:=hs.len;omega
  have hloop:=xx (K191_0 (ai pg) aj) own ns vs (.mk 2 en es em en2 []) (.int .i64 0) (.int .i64 0) (.sl []) (.sl []) hnl (by omega) ns.length (Nat.le_refl _)
  have hwl:IntKind.i64.wrap ((ns.length:Int) - 1)=(ns.length:Int) - 1:=aV (by omega) (by omega)
  rw[List.take_length,hnl,List.take_length] at hloop
  simp only[a7,lY,sQ,zW,Cr,fa,gY] at hloop
  simp[S191,hl,hst,hf,bd,cz,hw,t263,aW,hwl] at hcode
  rw[hnl,hloop] at hcode
  simp
  rw[← hcode]
  cases Ap.eZ ns vs es with
  | none=>exact fc R1
  | some v=>exact dR R1
 by_cases k3:op=3
 ·subst k3
  have hlen:ea.length=2:=by simp[aW] at hce;omega
  obtain⟨a,b,rfl⟩:=xt hlen
  have ha:bC a:=bu he (by simp)
  have hb:bC b:=bu he (by simp)
  simp[S191,hl,hst,hf,bd,cz,hw,t263,aW,K191_2,K191_1,K191_0,bL] at hcode
  simp
  rw[← hcode]
  refine ca (IH own ns vs a _ _ R1 G1 hn1 hs1 ha) fun x s1 h2 hx R2=>?_
  obtain⟨G2,_,f2⟩:=G1.eval hs1.right hx
  refine ca (IH own ns vs b _ _ R2 G2 (by omega) (hs1.less f2) hb) fun y s2 h3 hy R3=>?_
  rw[t266 3 x y (by simp)]
  exact dn (c:=dz (ln 3 x y)) (ko (jV _ _ _) R3)
 by_cases k4:op=4
 ·subst k4
  have hlen:ea.length=2:=by simp[aW] at hce;omega
  obtain⟨a,b,rfl⟩:=xt hlen
  have ha:bC a:=bu he (by simp)
  have hb:bC b:=bu he (by simp)
  simp[S191,hl,hst,hf,bd,cz,hw,t263,aW,K191_2,K191_1,K191_0,bL] at hcode
  simp
  rw[← hcode]
  refine ca (IH own ns vs a _ _ R1 G1 hn1 hs1 ha) fun x s1 h2 hx R2=>?_
  obtain⟨G2,_,f2⟩:=G1.eval hs1.right hx
  refine ca (IH own ns vs b _ _ R2 G2 (by omega) (hs1.less f2) hb) fun y s2 h3 hy R3=>?_
  rw[t266 4 x y (by simp)]
  exact dn (c:=dz (ln 4 x y)) (ko (jV _ _ _) R3)
 by_cases k5:op=5
 ·subst k5
  have hlen:ea.length=2:=by simp[aW] at hce;omega
  obtain⟨a,b,rfl⟩:=xt hlen
  have ha:bC a:=bu he (by simp)
  have hb:bC b:=bu he (by simp)
  simp[S191,hl,hst,hf,bd,cz,hw,t263,aW,K191_2,K191_1,K191_0,bL] at hcode
  simp
  rw[← hcode]
  refine ca (IH own ns vs a _ _ R1 G1 hn1 hs1 ha) fun x s1 h2 hx R2=>?_
  obtain⟨G2,_,f2⟩:=G1.eval hs1.right hx
  refine ca (IH own ns vs b _ _ R2 G2 (by omega) (hs1.less f2) hb) fun y s2 h3 hy R3=>?_
  rw[t266 5 x y (by simp)]
  exact dn (c:=dz (ln 5 x y)) (ko (jV _ _ _) R3)
 by_cases k6:op=6
 ·subst k6
  have hlen:ea.length=2:=by simp[aW] at hce;omega
  obtain⟨a,b,rfl⟩:=xt hlen
  have ha:bC a:=bu he (by simp)
  have hb:bC b:=bu he (by simp)
  simp[S191,hl,hst,hf,bd,cz,hw,t263,aW,K191_2,K191_1,K191_0,bL] at hcode
  simp
  rw[← hcode]
  refine ca (IH own ns vs a _ _ R1 G1 hn1 hs1 ha) fun x s1 h2 hx R2=>?_
  obtain⟨G2,_,f2⟩:=G1.eval hs1.right hx
  refine ca (IH own ns vs b _ _ R2 G2 (by omega) (hs1.less f2) hb) fun y s2 h3 hy R3=>?_
  rw[t266 6 x y (by simp)]
  exact dn (c:=dz (ln 6 x y)) (ko (jV _ _ _) R3)
 by_cases k7:op=7
 ·subst k7
  have hlen:ea.length=2:=by simp[aW] at hce;omega
  obtain⟨a,b,rfl⟩:=xt hlen
  have ha:bC a:=bu he (by simp)
  have hb:bC b:=bu he (by simp)
  simp[S191,hl,hst,hf,bd,cz,hw,t263,aW,K191_2,K191_1,K191_0,bL] at hcode
  simp
  rw[← hcode]
  refine ca (IH own ns vs a _ _ R1 G1 hn1 hs1 ha) fun x s1 h2 hx R2=>?_
  obtain⟨G2,_,f2⟩:=G1.eval hs1.right hx
  refine ca (IH own ns vs b _ _ R2 G2 (by omega) (hs1.less f2) hb) fun y s2 h3 hy R3=>?_
  rw[t266 7 x y (by simp)]
  exact dn (c:=dz (ln 7 x y)) (ko (jV _ _ _) R3)
 by_cases k8:op=8
 ·subst k8
  have hlen:ea.length=2:=by simp[aW] at hce;omega
  obtain⟨a,b,rfl⟩:=xt hlen
  have ha:bC a:=bu he (by simp)
  have hb:bC b:=bu he (by simp)
  simp[S191,hl,hst,hf,bd,cz,hw,t263,aW,K191_2,K191_1,K191_0,bL] at hcode
  simp
  rw[← hcode]
  refine ca (IB own ns vs a _ _ R1 G1 hn1 hs1 ha) fun x s1 h2 hx R2=>?_
  obtain⟨G2,f2⟩:=G1.bool hs1.right hx
  rw[AC]
  simp only[ar,aA]
  cases x
  ·simp[t265]
   exact dR R2
  ·simp[t265]
   refine ca (IB own ns vs b _ _ R2 G2 (by omega) (hs1.less f2) hb) fun y s2 h3 hy R3=>?_
   simp only[t265,dW,aB,hW]
   exact dR R3
 by_cases k9:op=9
 ·subst k9
  have hlen:ea.length=2:=by simp[aW] at hce;omega
  obtain⟨a,b,rfl⟩:=xt hlen
  have ha:bC a:=bu he (by simp)
  have hb:bC b:=bu he (by simp)
  simp[S191,hl,hst,hf,bd,cz,hw,t263,aW,K191_2,K191_1,K191_0,bL] at hcode
  simp
  rw[← hcode]
  refine ca (IB own ns vs a _ _ R1 G1 hn1 hs1 ha) fun x s1 h2 hx R2=>?_
  obtain⟨G2,f2⟩:=G1.bool hs1.right hx
  rw[AC]
  simp only[ar,aA]
  cases x
  ·simp[t265]
   refine ca (IB own ns vs b _ _ R2 G2 (by omega) (hs1.less f2) hb) fun y s2 h3 hy R3=>?_
   simp only[t265,dW,aB,hW]
   exact dR R3
  ·simp[t265]
   exact dR R2
 by_cases k10:op=10
 ·subst k10
  have hlen:ea.length=1:=by simp[aW] at hce;omega
  obtain⟨a,rfl⟩:=J4 hlen
  have ha:bC a:=bu he (by simp)
  simp[S191,hl,hst,hf,bd,cz,hw,t263,aW,K191_2,K191_1,K191_0,bL] at hcode
  simp
  rw[← hcode]
  refine ca (IB own ns vs a _ _ R1 G1 hn1 hs1 ha) fun x s1 h2 hx R2=>?_
  simp only[dS,ar,t265,dW,aB,hW]
  exact dR R2
 by_cases k11:op=11
 ·subst k11
  have hlen:ea.length=3:=by simp[aW] at hce;omega
  obtain⟨a,b,c,rfl⟩:=M9 hlen
  have ha:bC a:=bu he (by simp)
  have hb:bC b:=bu he (by simp)
  have hc3:bC c:=bu he (by simp)
  simp[S191,hl,hst,hf,bd,cz,hw,t263,aW,K191_2,K191_1,K191_0,bL] at hcode
  simp
  rw[← hcode]
  refine ca (IB own ns vs a _ _ R1 G1 hn1 hs1 ha) fun x s1 h2 hx R2=>?_
  obtain⟨G2,f2⟩:=G1.bool hs1.right hx
  simp only[aA]
  exact A6 (fun _=>dn (IH own ns vs b _ _ R2 G2 (by omega) (hs1.less f2) hb)) (fun _=>dn (IH own ns vs c _ _ R2 G2 (by omega) (hs1.less f2) hc3))
 by_cases k12:op=12
 ·subst k12
  have hlen:ea.length=2:=by simp[aW] at hce;omega
  obtain⟨a,b,rfl⟩:=xt hlen
  have ha:bC a:=bu he (by simp)
  have hb:bC b:=bu he (by simp)
  simp[S191,hl,hst,hf,bd,cz,hw,t263,aW,K191_2,K191_1,K191_0,bL] at hcode
  simp
  rw[← hcode]
  refine ca (IH own ns vs a _ _ R1 G1 hn1 hs1 ha) fun x s1 h2 hx R2=>?_
  obtain⟨G2,rx,f2⟩:=G1.eval hs1.right hx
  have hsl:=hs1.len
  have hrl:=hs1.right.1
  have hfu:=G1.fuel
  rw[t246 own ns vs es x (by omega) (by omega)]
  simp only[dW,aB]
  refine dn (IH own (ns++[es]) (vs++[x]) b _ _ R2 G2 (by omega) ⟨hs1.own,⟨by simp[hrl],fun w hw=>?_⟩,?_⟩ hb)
  ·rcases List.mem_append.1 hw with k | k
   ·exact hs1.right.2 w k
   ·simp only[List.mem_singleton] at k;subst k;exact rx
  ·have:(iK m).fuel=m.fuel - 1:=rfl
   have:=hs.len
   simp only[List.length_append,List.length_singleton]
   omega
 by_cases k13:op=13
 ·subst k13
  simp[S191,hl,hst,hf,bd,cz,hw,t263,aW,K191_2,K191_1,K191_0,bL,ka] at hcode
  simp
  rw[← hcode]
  exact dn (IR own ns vs _ _ _ R1 G1 hn1 hs1 he)
 by_cases k14:op=14
 ·subst k14
  have hlen:ea.length=1:=by simp[aW] at hce;omega
  obtain⟨a,rfl⟩:=J4 hlen
  have ha:bC a:=bu he (by simp)
  simp[S191,hl,hst,hf,bd,cz,hw,t263,aW,K191_2,K191_1,K191_0,bL] at hcode
  simp
  rw[← hcode]
  refine ca (IH own ns vs a _ _ R1 G1 hn1 hs1 ha) fun x s1 h2 hx R2=>?_
  obtain⟨G2,rx,f2⟩:=G1.eval hs1.right hx
  have hrl:=zT rx
  have h8:=zS rx
  have hi:=t269 x.names es (by omega)
  rw[ba (eq x)]
  simp only[aB,bY,dU,List.drop_succ_cons,List.drop_zero,LD22,LD47,LD3,ar,hi,g7,kE,dq,aL,oV,bd,cz]
  rcases qT x.names x.values es 0 hrl with ⟨j1,j2⟩ | ⟨k,hk,j1,j2⟩
  ·rw[j1,j2]
   simp only[show decide ((0:Int)≤-1)=false by decide,Bool.and_false,Bool.false_eq_true,if_false]
   exact fc R2
  ·rw[j1,j2]
   have hk0:decide ((0:Int)≤0 + (k:Int))=true:=by simp
   rw[hk0]
   simp only[Bool.and_true]
   by_cases hk2:x.kind=2
   ·have hix:=qq (l:=x.values) (n:=0 + (k:Int)) (by omega) (by omega)
    have e5:(0 + (k:Int)).toNat=k:=by omega
    rw[e5,getElem!_pos x.values k hk] at hix
    have hld:ah T 51 (.ip (ab (x.values[k]).av))=some (x.values[k]).av:=by simp
    simp only[hk2,beq_self_eq_true,if_true,hix,ar,hld,hW]
    exact dR R2
   ·have hk2':(x.kind== 2)=false:=by simpa using hk2
    simp only[hk2,hk2',Bool.false_eq_true,if_false]
    exact fc R2
 by_cases k15:op=15
 ·subst k15
  simp[S191,hl,hst,hf,bd,cz,hw,t263,aW,K191_2,K191_1,K191_0,bL,ka] at hcode
  simp
  rw[← hcode]
  exact dn (IC own ns vs _ _ _ R1 G1 hmu hn1 hs1 he)
 by_cases k16:op=16
 ·subst k16
  simp[S191,hl,hst,hf,bd,cz,hw,t263,aW,K191_2,K191_1,K191_0,bL,ka] at hcode
  have hce':aW 16=ea.length:=by simp only[aW] at hce ⊢;simpa using hce
  simp only[aW] at hce'
  simp at hce'
  simp[← hce'] at hcode
  simp
  rw[← hcode]
  exact dn (IW own ns vs (.mk 16 en es em en2 ea) _ _ (by simp) hcc R1 G1 hmu hn1 hs1 he)
 by_cases k17:op=17
 ·subst k17
  simp[S191,hl,hst,hf,bd,cz,hw,t263,aW,K191_2,K191_1,K191_0,bL,ka] at hcode
  have hce':aW 17=ea.length:=by simp only[aW] at hce ⊢;simpa using hce
  simp only[aW] at hce'
  simp at hce'
  simp[← hce'] at hcode
  simp
  rw[← hcode]
  exact dn (IW own ns vs (.mk 17 en es em en2 ea) _ _ (by simp) hcc R1 G1 hmu hn1 hs1 he)
 by_cases k18:op=18
 ·subst k18
  simp[S191,hl,hst,hf,bd,cz,hw,t263,aW,K191_2,K191_1,K191_0,bL,ka] at hcode
  have hce':aW 18=ea.length:=by simp only[aW] at hce ⊢;simpa using hce
  simp only[aW] at hce'
  simp at hce'
  simp[← hce'] at hcode
  simp
  rw[← hcode]
  exact dn (IW own ns vs (.mk 18 en es em en2 ea) _ _ (by simp) hcc R1 G1 hmu hn1 hs1 he)
 exfalso
 apply hc.1
 simp[aW,k0,k1,k2,k3,k4,k5,k6,k7,k8,k9,k10,k11,k12,k13,k14,k15,k16,k17,k18]
end Go.Proofs.YtkkabinknmldeaaGreat
namespace Go.Proofs.YtkkabinknmldeaaGreat
open Go Go.Av Go.Av.Ap
set_option maxRecDepth 100000
theorem pX{α β γ:Type}(x:X α)(f:α→X β)(g:β→X γ):(x.bind f).bind g=x.bind fun a=>(f a).bind g:=by
 funext m
 unfold X.bind
 cases x m <;> rfl
theorem ol{α β:Type}(a:α)(f:α→X β):(X.ok a).bind f=f a:=rfl
theorem t309(l:List aU)(h:l.length≤8796093022208):ai pg 309 [strs l]=M.pure (strs l):=by
 have e:ai pg 309 [strs l]=fA T 22 (ai pg) [strs l]:=dy hOther rfl _
 rw[e]
 show af (cP T 22 (.sl []) (strs l))=_
 have:=KP (a:=[]) (b:=l) (by simp;omega)
 simp only[List.nil_append] at this
 show af (cP T 22 (strs []) (strs l))=_
 rw[this]
 rfl
theorem xw{p:List Mod}{nm:SNm}{n:Nat}(IH:pY p nm n)(own:Int)(ns:List aU)(vs:List Val)(en:List aU)(es:List Exp)(x5 x6 x7 x8:AV)(hes:∀ e∈es,bC e)(h8:es.length≤8):
  ∀(B A:List Exp)(acc:List Val)(m:Ms)(h:Hp),A++B=es→acc.length=A.length→(∀ v∈acc,Rv v)→en.length≤8→eH p nm m h→GoodM p m→m.fuel≤n→Sc p own ns vs m→
  iL p nm Val.av ((listX (bm p n own ns vs) B).bind (fun ws=>if fC (.mk 2 0 en (acc++ws))≤4 then .ok (.mk 2 0 en (acc++ws)) else .er 6) m)
   (aj (L268_0 (ai pg) aj) [.hp 0 0,.ip (ab (bH own ns vs)),cb es,.int .i64 es.length,.int .i64 A.length,x5,x6,x7,x8,.int .i64 2,.int .i64 0,strs en,vals acc] h)
 | [],A,acc,m,h,e,ha,hr,hen,R,G,hn,hs=>by
  simp only[List.append_nil] at e
  subst e
  have hsz:(Val.mk 2 0 en acc).sz≤1099511627776:=by
   have h2:bT acc≤acc.length * 200000:=by
    have key:∀ l:List Val,(∀ v∈l,Rv v)→bT l≤l.length * 200000:=by
     intro l
     induction l with
     | nil=>intro _;simp[bT]
     | cons v l ih=>
      intro h
      have h1:=rX (h v List.mem_cons_self)
      have h2:=ih fun w hw=>h w (List.mem_cons_of_mem _ hw)
      simp only[bT,List.length_cons]
      omega
    exact key acc hr
   simp only[Val.sz]
   have:acc.length * 200000≤8 * 200000:=Nat.mul_le_mul_right _ (by omega)
   omega
  have hlv:=t310 _ (.mk 2 0 en acc) (Nat.le_refl _) hsz
  rw[Val.av_eq] at hlv
  simp only[Val.kind_mk,Val.n_mk,Val.names_mk,Val.values_mk] at hlv
  have hw:∀ h,ae (ao 4 [] (AV.agg [.int .i64 2,.int .i64 0,strs en,vals acc])) (fun w=>M.pure (AV.agg [nth (ab w) 0,nth (ab w) 1,nth (ab w) 2,nth (ab w) 3])) h=M.pure (Val.mk 2 0 en acc).av h:=fun h=>by
   have:=o9 (Val.mk 2 0 en acc) h
   rw[Val.av_eq] at this ⊢
   exact this
  rw[FL268_0]
  simp only[listX,ol,List.append_nil]
  simp only[L268_0,aL,aS,bz,ar,aA,Int.lt_irrefl,decide_false,Bool.false_eq_true,if_false,hlv,aB,nk,bd,cz,hw]
  by_cases h4:fC (.mk 2 0 en acc)≤4
  ·have h4':decide (((fC (.mk 2 0 en acc):Nat):Int)≤4)=true:=by simp;omega
   simp only[h4,h4',if_true,hw]
   exact dR R
  ·have h4':decide (((fC (.mk 2 0 en acc):Nat):Int)≤4)=false:=by simp;omega
   simp only[h4,h4',Bool.false_eq_true,if_false]
   exact fc R
 | x:: B,A,acc,m,h,e,ha,hr,hen,R,G,hn,hs=>by
  have hll:A.length + (B.length + 1)=es.length:=by rw[← e];simp
  have h1:(A.length:Int) < (es.length:Int):=by omega
  have hx:es[A.length]'(by omega)=x:=by subst e;simp
  have hm:x∈es:=by rw[← e];simp
  have hi:=lj (l:=es) (n:=(A.length:Int)) (by omega) h1
  rw[show ((A.length:Int)).toNat=A.length by omega,getElem!_pos es A.length (by omega),hx] at hi
  have hsc:ah T 269 (.ip (ab (bH own ns vs)))=some (bH own ns vs):=rfl
  have hex:ah T 74 (.ip (ab x.av))=some x.av:=by simp
  rw[FL268_0]
  simp only[listX,pX,ol]
  simp only[L268_0,aL,aS,bz,ar,aA,h1,decide_true,if_true,hi,hex,ba (iq x),aB,hsc,bY]
  refine ca (IH own ns vs x m h R G hn hs (hes x hm)) fun v s h' hv Rs=>?_
  obtain⟨G2,rv,f2⟩:=G.eval hs.right hv
  have hb2:aI T 47 1 [(0,v.av)]=some (vals [v]):=by rw[v.av_eq];simp[vals,eF,v.av_eq];rfl
  have ha2:cP T 47 (vals acc) (vals [v])=some (vals (acc++[v])):=GQ (by simp;omega)
  have hc1:cn (vals (acc++[v]))=M.pure (vals (acc++[v])):=rfl
  have hw:IntKind.i64.wrap ((A.length:Int) + 1)=((A.length + 1:Nat):Int):=bq (by omega)
  simp only[hb2,ar,ha2,hc1,aB,cX,hw]
  have ih:=xw IH own ns vs en es x5 x6 x7 x8 hes h8 B (A++[x]) (acc++[v]) s h' (by rw[← e];simp) (by simp[ha]) (fun w hw=>by
   rcases List.mem_append.1 hw with k | k
   ·exact hr w k
   ·simp only[List.mem_singleton] at k;subst k;exact rv) hen Rs G2 (by omega) (hs.less f2)
  simp only[List.append_assoc,List.singleton_append,List.length_append,List.length_singleton] at ih
  exact ih
theorem t268{p:List Mod}{nm:SNm}{n:Nat}(IH:pY p nm n):Il p nm n:=by
 intro own ns vs e m h R G hn hs he
 obtain⟨l1,l2⟩:=kJ he
 unfold hP
 have ha:=t272 e.names (by omega)
 have hcl:=t309 e.names (by omega)
 have hB:aM T true 51 [(0,.int .i64 2),(2,strs e.names)]=some (.agg [.int .i64 2,.int .i64 0,strs e.names,.hn]):=rfl
 have hC:ao 4 [3] (.agg [.int .i64 2,.int .i64 0,strs e.names,.hn])=M.pure (.agg [.int .i64 2,.int .i64 0,strs e.names,.hn]):=rfl
 rw[C268]
 simp only[S268,a7,FA74_4,FA74_5,List.drop_succ_cons,List.drop_zero,LD22,LD24,qu,ul,ar,g7,ha,aB,dq,aL,aS,oV,bd,cz,nk,hcl,hB,hC,bY]
 have hsc:(AV.ip (ab (bH own ns vs)))= .ip [.int .i64 own,strs ns,vals vs]:=rfl
 by_cases hl:e.names.length=e.args.length
 ·by_cases hasc:sA e.names=true
  ·have e1:((e.names.length:Int)== (e.args.length:Int)&&sA e.names)=true:=by simp[hl,hasc]
   simp only[hl,hasc,e1,and_self,if_true]
   by_cases h8:e.args.length≤8
   ·have h8':decide ((e.args.length:Int)≤8)=true:=by simp;omega
    have e2:((e.args.length:Int)== (e.args.length:Int)&&true)=true:=by simp
    simp only[h8,h8',e2,if_true]
    have:=xw IH own ns vs e.names e.args (.int .i64 0) (.int .i64 0) (.sl []) (.sl []) (fun x hx=>bu he hx) h8 e.args [] [] m h rfl rfl (fun v hv=>by cases hv) (by omega) R G hn hs
    simp only[List.nil_append] at this
    exact this
   ·have h8':decide ((e.args.length:Int)≤8)=false:=by simp;omega
    have e2:((e.args.length:Int)== (e.args.length:Int)&&true)=true:=by simp
    simp only[h8,h8',e2,if_true,Bool.false_eq_true,if_false]
    exact fc R
  ·have e1:((e.names.length:Int)== (e.args.length:Int)&&false)=false:=by simp
   have hasc':sA e.names=false:=by simpa using hasc
   simp only[e1,hasc',and_false,Bool.false_eq_true,if_false]
   exact fc R
 ·have e1:((e.names.length:Int)== (e.args.length:Int)&&sA e.names)=false:=by
   have:((e.names.length:Int)== (e.args.length:Int))=false:=by
    rw[beq_eq_false_iff_ne]
    omega
   rw[this]
   rfl
  simp only[e1,hl,false_and,Bool.false_eq_true,if_false]
  exact fc R
theorem zI(s t:aU)(v:AV)(h:aO v=true):cm 3 (.agg [.str s,.str t,v])=true:=by
 simp only[cm,cL,ab,List.all_cons,List.all_nil]
 rw[h]
 rfl
theorem yX{p:List Mod}{nm:SNm}{tag:Nat→Nat}{dv cv sv:AV}{m:Ms}{h:Hp}(R:RepT (rowP p nm.told) nm tag dv cv sv m h)(l:List Val)(hb:l.length≤274877906944):
  ∃ av h1 tag1,ai pg 166 [vals l] h= .ok av h1∧RepT (rowP p nm.told) nm tag1 dv cv sv m h1∧sC tag1 4 h1 l av∧aO av=true:=by
 have e0:ai pg 166 [vals l]=di T 47 (ai pg) [vals l]:=dy hOther rfl _
 have e1:=po (T:=T) (t:=47) rfl rfl rfl rfl rfl (by decide) (ai pg) l (show l.length * 64≤140737488355328 by omega) h
 rw[e0]
 by_cases hl:l=[]
 ·rw[if_pos hl] at e1
  exact⟨_,h,tag,e1,R,.inl (by rw[hl]),rfl⟩
 ·rw[if_neg hl] at e1
  refine⟨_,_,_,e1,(R.more (bp l) 4).1,.inr ⟨h.length,rfl,by simp,by simp⟩,rfl⟩
theorem CG{p:List Mod}{nm:SNm}{tag:Nat→Nat}{dv cv sv:AV}{m:Ms}{h:Hp}(R:RepT (rowP p nm.told) nm tag dv cv sv m h)(c:Ap.Call)(av:AV)(ha:sC tag 4 h c.args av)(hok:aO av=true)(hb:m.calls.length≤2000000):
  ∃ cv' h1 h2,appH T 43 false cv (.sl [.agg [.str c.module,.str c.func,av]]) h= .ok cv' h1∧bo T 43 (.hp 0 10) cv' h1= .ok (.tup []) h2∧eH p nm { m with calls:=m.calls++[c] } h2:=by
 obtain⟨h1,cv',tag',e1,K,H,hc⟩:=rP (T:=T) (t:=43) rfl rfl rfl rfl (by decide) rfl (by decide) (x:=.agg [.str c.module,.str c.func,av]) R.cs (fun h0=>by
  have:m.calls=[]:=List.eq_nil_of_length_eq_zero h0
  rw[this];rfl) (fun cs h=>h.ok.1) (zI _ _ _ hok) (show (m.calls.length + 1) * 56≤140737488355328 by omega)
 have h0:=(K 0 _ R.r0 (by rw[R.t0];decide)).1
 refine⟨cv',h1,_,e1,fp rfl h0 (fN hc).1 (show 10 + 1≤12 by decide) (by decide),?_⟩
 have hac:ab cv'=[cv']:=(fN hc).2.1
 have:=R.pushCall (m':={ m with calls:=m.calls++[c] }) K ha H rfl rfl rfl id
 refine⟨tag',dv,cv',sv,?_⟩
 rw[hac]
 exact this
theorem r8{p:List Mod}{nm:SNm}{m:Ms}{h:Hp}(R:eH p nm m h)(x:Int):∃ h1,eH p nm { m with frames:=x } h1∧(∀ f:AV→M AV,ae (aR T 3 (.hp 0 3)) f h=f (.int .i64 m.frames) h)∧
  (∀ f:AV→M AV,ae (bo T 3 (.hp 0 3) (.int .i64 x)) f h=f (.tup []) h1):=by
 obtain⟨tag,dv,cv,sv,R⟩:=R
 exact⟨_,⟨tag,dv,cv,sv,R.set0 rfl rfl rfl id⟩,fun f=>bS (dc rfl rfl R.r0 rfl),fun f=>bS (fp rfl R.r0 rfl (show 3 + 1≤12 by decide) (by decide))⟩
theorem tO(f:Fun)(a:Int)(ps:List bP)(l:List Val)(x6 x7 x8 x9:AV)(hb:ps.length≤274877906944)(hl:l.length=ps.length):∀(B A:List bP)(lb la:List Val),A++B=ps→la++lb=l→la.length=A.length→
  aj (L169_0 (ai pg) aj) [.hp 0 0,vals l,.ip (ab f.av),aK ps,.int .i64 ps.length,.int .i64 A.length,x6,x7,x8,x9,.int .i64 a,strs (A.map (·.1)),vals la]=
  aj (L169_0 (ai pg) aj) [.hp 0 0,vals l,.ip (ab f.av),aK ps,.int .i64 ps.length,.int .i64 ps.length,x6,x7,x8,x9,.int .i64 a,strs (ps.map (·.1)),vals l]
 | [],A,lb,la,e,e2,hla=>by
  simp only[List.append_nil] at e
  subst e
  have hz:lb=[]:=by
   apply List.eq_nil_of_length_eq_zero
   have:(la++lb).length=l.length:=by rw[e2]
   rw[List.length_append] at this
   omega
  rw[hz,List.append_nil] at e2
  rw[e2]
 | x:: B,A,lb,la,e,e2,hla=>by
  have hll:A.length + (B.length + 1)=ps.length:=by rw[← e];simp
  have h1:(A.length:Int) < (ps.length:Int):=by omega
  have hx:ps[A.length]'(by omega)=x:=by subst e;simp
  obtain⟨v,lb',rfl⟩:∃ v lb',lb=v:: lb':=by
   cases lb with
   | nil=>
    have:(la++([]:List Val)).length=l.length:=by rw[e2]
    simp at this
    omega
   | cons v lb'=>exact⟨v,lb',rfl⟩
  have hv:l[A.length]'(by omega)=v:=by
   subst e2
   rw[List.getElem_append_right (by omega)]
   simp[hla]
  have hi:=mD (l:=ps) (n:=(A.length:Int)) (by omega) h1
  rw[show ((A.length:Int)).toNat=A.length by omega,getElem!_pos ps A.length (by omega),hx] at hi
  have hj:=qq (l:=l) (n:=(A.length:Int)) (by omega) (by omega)
  rw[show ((A.length:Int)).toNat=A.length by omega,getElem!_pos l A.length (by omega),hv] at hj
  have hfl:ah T 87 (.ip [.str x.1,.int .i64 x.2.kind,aK x.2.fields])=some (bF x):=by simp
  have hvl:ah T 51 (.ip (ab v.av))=some v.av:=by simp
  have hw:IntKind.i64.wrap ((A.length:Int) + 1)=((A.length + 1:Nat):Int):=bq (by omega)
  have hbd:=t246 a (A.map (·.1)) la x.1 v (by simp;omega) (by omega)
  have ih:=tO f a ps l x6 x7 x8 x9 hb hl B (A++[x]) lb' (la++[v]) (by rw[← e];simp) (by rw[← e2];simp) (by simp[hla])
  simp only[List.map_append,List.map_cons,List.map_nil,List.length_append,List.length_singleton] at ih
  rw[← ih,FL169_0]
  simp only[L169_0,aL,aS,bz,ar,aA,h1,decide_true,if_true,hi,hfl,ba (ir x),aB,bY,df,FA87_0,List.drop_zero,LD9,hj,hvl,bL,hbd,dW,aY (m7 _ _ _),ez,cX,hw]
def uj(p:List Mod)(nm:SNm)(n:Nat):Prop:=∀(a:Int) (f:Fun) (l:List Val) m h,0≤a→a < p.length→f∈(p[a.toNat]?.getD default).funcs→l.length=f.params.length→(∀ v∈l,Rv v)→eH p nm m h→GoodM p m→mu m < 1000000→m.fuel≤n→
 iL p nm Val.av (cF p (bm p n) a f l m) (ai pg 169 [.hp 0 0,.int .i64 a,f.av,vals l] h)
theorem yL(s t:aU)(v:AV)(h:aO v=true):aM T false 49 [(0,.str s),(1,.str t),(2,v)]=some (.agg [.str s,.str t,v]):=by
 have hc:=fN h
 show (pu _ _ [(0,.str s),(1,.str t),(2,v)]).map AV.agg=_
 simp only[pu]
 have h2:=hc.2.2
 have h3:=hc.2.1
 cases v with
 | any=>cases h
 | agg _=>cases h
 | tup _=>cases h
 | _=>rfl
theorem wq(x:AV)(hx:cL x=some 3):aI T 43 1 [(0,x)]=some (.sl [x]):=by
 have h1:aI T 43 1 [(0,x)]=(iO 3 (List.replicate 1 (.agg [.str [],.str [],.sl []])) [(0,x)]).map .sl:=rfl
 rw[h1]
 simp only[iO,hx,List.length_replicate]
 rfl
theorem zc{p:List Mod}{nm:SNm}{n:Nat}(LB:LimB p)(IH:pY p nm n)(a:Int)(f:Fun)(l:List Val)(m:Ms)(h0:0≤a)(ha:a < p.length)(hf:f∈(p[a.toNat]?.getD default).funcs)(hl:l.length=f.params.length)(hr:∀ v∈l,Rv v)(G:GoodM p m)(hmu:mu m < 1000000)(hn:m.fuel≤n):
  ∀ (m1:Ms) (h1:Hp),eH p nm m1 h1→m1= { m with calls:=if f.pub=true then m.calls++[⟨(p[a.toNat]?.getD default).name,f.name,l⟩] else m.calls } →m.frames < 60→
   iL p nm Val.av (((bm p n a (f.params.map (·.1)) l f.body).bind fun v=>.upd (fun m=>{ m with frames:=m.frames - 1 }) (.ok v)) (iN p a f l m))
    (K169_0 (ai pg) aj [.hp 0 0,.int .i64 a,vals l,.ip (ab f.av),.int .i64 0,.int .i64 0,.sl [],.sl []] h1):=by
 have hlt:a.toNat < p.length:=by omega
 have hmp:p[a.toNat]?.getD default∈p:=by rw[List.getElem?_eq_getElem hlt];exact List.getElem_mem hlt
 obtain⟨hbody,hparams⟩:=LB.body _ hmp f hf
 have hfb:=G.bud
 have hfu:=G.fuel
 have hfr:=G.fr
 intro m1 h1 R1 e1 h60
 have hB:aM T false 269 [(0,.int .i64 a)]=some (bH a [] []):=rfl
 have hcell:=aY (m7 a [] [])
 have hloop:=tO f a f.params l (.int .i64 0) (.int .i64 0) (.sl []) (.sl []) hparams hl f.params [] l [] rfl rfl rfl
 have hw1:IntKind.i64.wrap (m.frames + 1)=m.frames + 1:=aV (by omega) (by omega)
 obtain⟨h2,R2,l2,s2⟩:=r8 R1 (m.frames + 1)
 have e2:{ m1 with frames:=m.frames + 1 } = iN p a f l m:=by rw[e1];rfl
 have hm1f:m1.frames=m.frames:=by rw[e1]
 rw[e2] at R2
 rw[hm1f] at l2
 have hld:ah T 23 (.ip (aK f.params:: [.int .i64 f.result.kind,aK f.result.fields,.int .i64 f.effects,.int .i64 f.body.op,.int .i64 f.body.n,.str f.body.s,.str f.body.m,strs f.body.names,cb f.body.args]))=some (aK f.params):=rfl
 have hex:ah T 74 (.ip [.int .i64 f.body.op,.int .i64 f.body.n,.str f.body.s,.str f.body.m,strs f.body.names,cb f.body.args])=some f.body.av:=by
  have:ah T 74 (.ip (ab f.body.av))=some f.body.av:=by simp
  rwa [a7] at this
 simp only[List.map_nil,List.length_nil] at hloop
 have hz:((0:Nat):Int)=0:=rfl
 rw[hz] at hloop
 have hm2:(if f.pub=true then m.calls++[(⟨(p[a.toNat]?.getD default).name,f.name,l⟩:Ap.Call)] else m.calls).length≤m.calls.length + 1:=by
  split
  ·simp
  ·omega
 have G2:GoodM p (iN p a f l m):=by
  refine⟨⟨G.right.1,fun c hc=>?_⟩,?_,by simp only[iN];omega,hfu,G.shape⟩
  ·simp only[iN] at hc
   split at hc
   ·rcases List.mem_append.1 hc with k | k
    ·exact G.right.2 c k
    ·simp only[List.mem_singleton] at k
     subst k
     exact hr
   ·exact G.right.2 c hc
  ·simp only[mu,iN] at hmu ⊢
   omega
 simp only[K169_0,aL,aS,hB,ar,hcell,aB,bY,ez,dT,FA76_2,FA76_5,List.drop_succ_cons,List.drop_zero,hld,qv] at hloop ⊢
 rw[show strs []=strs [] from rfl] at hloop
 rw[hloop,FL169_0]
 simp only[L169_0,aL,aS,bz,ar,aA,Int.lt_irrefl,decide_false,Bool.false_eq_true,if_false,dV,FH240_3,Nat.zero_add,l2,cX,hw1,s2,FA76_5,List.drop_succ_cons,List.drop_zero,hex,bL]
 have hns:((f.params.map (·.1)).length:Int) + (iN p a f l m).fuel≤549755813888:=by
  simp only[List.length_map,iN]
  simp only[mu] at hfb
  omega
 refine ca (IH a (f.params.map (·.1)) l f.body _ _ R2 G2 hn ⟨ha,⟨by simp[hl],hr⟩,hns⟩ hbody) fun v s h3 hv R3=>?_
 obtain⟨G3,_,_⟩:=G2.eval ⟨by simp[hl],hr⟩ hv
 obtain⟨h4,R4,l4,s4⟩:=r8 R3 (s.frames - 1)
 have hfr3:=G3.fr
 have hw2:IntKind.i64.wrap (s.frames - 1)=s.frames - 1:=aV (by omega) (by omega)
 have hvl:ah T 51 (.ip (ab v.av))=some v.av:=by simp
 simp only[ba (eq v),aB,bY,dV,ar,FH240_3,Nat.zero_add,l4,uB,hw2,s4,hvl]
 have e9:_=Av.R.ok v.av h4:=o9 v h4
 rw[e9]
 exact⟨h4,rfl,R4⟩
theorem t169{p:List Mod}{nm:SNm}{n:Nat}(LB:LimB p)(IH:pY p nm n):uj p nm n:=by
 intro a f l m h h0 ha hf hl hr R G hmu hn
 have hlt:a.toNat < p.length:=by omega
 have hmp:p[a.toNat]?.getD default∈p:=by rw[List.getElem?_eq_getElem hlt];exact List.getElem_mem hlt
 obtain⟨hbody,hparams⟩:=LB.body _ hmp f hf
 have hfb:=G.bud
 have hfu:=G.fuel
 have hfr:=G.fr
 have tail:=zc LB IH a f l m h0 ha hf hl hr G hmu hn
 simp only[dT] at tail
 obtain⟨tag,dv,cv,sv,R0⟩:=R
 have l3:∀ g:AV→M AV,ae (aR T 3 (.hp 0 3)) g h=g (.int .i64 m.frames) h:=fun g=>bS (dc rfl rfl R0.r0 rfl)
 have lc:∀ g:AV→M AV,ae (aR T 43 (.hp 0 10)) g h=g cv h:=fun g=>bS (dc rfl rfl R0.r0 rfl)
 have lm:∀ g:AV→M AV,ae (aR T 42 (.hp 0 0)) g h=g (cw p) h:=fun g=>bS (dc rfl rfl R0.r0 (by rw[← ql (t:=nm.told) (fun e=>by subst e;simp at hlt)];rfl))
 generalize hcode:ai pg 169 [.hp 0 0,.int .i64 a,f.av,vals l] h=code
 rw[C169] at hcode
 simp -implicitDefEqProofs only[S169,dV,ar,FH240_3,Nat.zero_add,l3,bz,bd,rr] at hcode
 by_cases h60:m.frames < 60
 ·rw[j9,if_pos h60]
  have hd:decide (m.frames < 60)=true:=by simpa using h60
  simp only[hd,cz,if_true] at hcode
  simp -implicitDefEqProofs only[dT,FA76_1,FA76_0,List.drop_succ_cons,List.drop_zero,LD4,LD9,ar,aA] at hcode
  by_cases hp:f.pub=true
  ·simp only[hp,if_true] at hcode tail
   have hi:=lr (l:=p) (n:=a) h0 ha
   rw[getElem!_pos p a.toNat hlt] at hi
   have e3:p[a.toNat]?.getD default=p[a.toNat]:=by rw[List.getElem?_eq_getElem hlt];rfl
   obtain⟨av,h1,tag1,c1,R1,A1,ok1⟩:=yX R0 l (by omega)
   obtain⟨cv',h2,h3,p1,p2,R3⟩:=CG R1 ⟨p[a.toNat].name,f.name,l⟩ av A1 ok1 (by simp only[mu] at hmu;omega)
   have hB:aM T false 49 [(0,.str p[a.toNat].name),(1,.str f.name),(2,av)]=some (.agg [.str p[a.toNat].name,.str f.name,av]):=yL _ _ _ ok1
   have hBS:=wq (.agg [.str p[a.toNat].name,.str f.name,av]) rfl
   have lc1:∀ g:AV→M AV,ae (aR T 43 (.hp 0 10)) g h=g cv h:=lc
   simp -implicitDefEqProofs only[lc,lm,hi,br,FA29_0,FH240_0,FH240_4,FH55_3,List.drop_zero,LD9,ar,Nat.zero_add,Nat.reduceAdd] at hcode
   rw[bS c1] at hcode
   simp only[hB,hBS,ar] at hcode
   rw[bS p1] at hcode
   rw[bS p2] at hcode
   rw[← hcode]
   exact tail _ h3 R3 (by rw[e3]) h60
  ·simp only[hp,Bool.false_eq_true,if_false] at hcode tail
   rw[← hcode]
   exact tail m h ⟨tag,dv,cv,sv,R0⟩ rfl h60
 ·rw[j9,if_neg h60]
  have hd:decide (m.frames < 60)=false:=by simpa using h60
  simp only[hd,cz,Bool.false_eq_true,if_false] at hcode
  rw[← hcode]
  exact⟨h,rfl,tag,dv,cv,sv,R0⟩
theorem tP{p:List Mod}{nm:SNm}{n:Nat}(IH:pY p nm n)(IE:uj p nm n)(own:Int)(ns:List aU)(vs:List Val)(at_:Int)(f:Fun)(es:List Exp)(x8 x9 x10 x11:AV)(ha:0≤at_)(hat:at_ < p.length)(hf:f∈(p[at_.toNat]?.getD default).funcs)(hes:∀ e∈es,bC e)(h8:es.length≤274877906944)(hlen:es.length=f.params.length):
  ∀(B A:List Exp)(acc:List Val)(m:Ms)(h:Hp),A++B=es→acc.length=A.length→(∀ v∈acc,Rv v)→eH p nm m h→GoodM p m→mu m < 1000000→m.fuel≤n→Sc p own ns vs m→
  iL p nm Val.av ((listX (bm p n own ns vs) B).bind (fun ws=>cF p (bm p n) at_ f (acc++ws)) m)
   (aj (L270_0 (ai pg) aj) [.hp 0 0,.ip (ab (bH own ns vs)),.int .i64 at_,.ip (ab f.av),vals acc,cb es,.int .i64 es.length,.int .i64 A.length,x8,x9,x10,x11] h)
 | [],A,acc,m,h,e,hac,hr,R,G,hmu,hn,hs=>by
  simp only[List.append_nil] at e
  subst e
  have hfl:ah T 76 (.ip (ab f.av))=some f.av:=by simp
  have IE':=IE at_ f acc m h ha hat hf (by omega) hr R G hmu hn
  generalize hcode:aj (L270_0 (ai pg) aj) [.hp 0 0,.ip (ab (bH own ns vs)),.int .i64 at_,.ip (ab f.av),vals acc,cb A,.int .i64 A.length,.int .i64 A.length,x8,x9,x10,x11] h=code
  rw[FL270_0] at hcode
  simp -implicitDefEqProofs only[L270_0,aL,aS,bz,ar,aA,Int.lt_irrefl,decide_false,Bool.false_eq_true,if_false,hfl] at hcode
  simp only[listX,ol,List.append_nil]
  rw[← hcode]
  exact dn IE'
 | x:: B,A,acc,m,h,e,hac,hr,R,G,hmu,hn,hs=>by
  have hll:A.length + (B.length + 1)=es.length:=by rw[← e];simp
  have h1:(A.length:Int) < (es.length:Int):=by omega
  have hx:es[A.length]'(by omega)=x:=by subst e;simp
  have hm:x∈es:=by rw[← e];simp
  have hi:=lj (l:=es) (n:=(A.length:Int)) (by omega) h1
  rw[show ((A.length:Int)).toNat=A.length by omega,getElem!_pos es A.length (by omega),hx] at hi
  have hsc:ah T 269 (.ip (ab (bH own ns vs)))=some (bH own ns vs):=rfl
  have hex:ah T 74 (.ip (ab x.av))=some x.av:=by simp
  have hw:IntKind.i64.wrap ((A.length:Int) + 1)=((A.length + 1:Nat):Int):=bq (by omega)
  generalize hcode:aj (L270_0 (ai pg) aj) [.hp 0 0,.ip (ab (bH own ns vs)),.int .i64 at_,.ip (ab f.av),vals acc,cb es,.int .i64 es.length,.int .i64 A.length,x8,x9,x10,x11] h=code
  rw[FL270_0] at hcode
  simp -implicitDefEqProofs only[L270_0,aL,aS,bz,ar,aA,h1,decide_true,if_true,hi,hex,ba (iq x),aB,hsc] at hcode
  have hex':ah T 74 (.ip (ab (.agg (ab x.av))))=some x.av:=hex
  simp -implicitDefEqProofs only[hex',ar] at hcode
  rw[← hcode]
  simp only[listX,pX,ol]
  refine ca (IH own ns vs x m h R G hn hs (hes x hm)) fun v s h' hv Rs=>?_
  obtain⟨G2,rv,f2⟩:=G.eval hs.right hv
  obtain⟨t1,_⟩:=kU n own ns vs x m v s G.fuel hv
  have hb2:aI T 47 1 [(0,v.av)]=some (vals [v]):=by rw[v.av_eq];simp[vals,eF,v.av_eq];rfl
  have ha2:cP T 47 (vals acc) (vals [v])=some (vals (acc++[v])):=GQ (by simp;omega)
  have ih:=tP IH IE own ns vs at_ f es x8 x9 x10 x11 ha hat hf hes h8 hlen B (A++[x]) (acc++[v]) s h' (by rw[← e];simp) (by simp[hac]) (fun w hw=>by
   rcases List.mem_append.1 hw with k | k
   ·exact hr w k
   ·simp only[List.mem_singleton] at k;subst k;exact rv) Rs G2 (by omega) (by omega) (hs.less f2)
  simp only[List.append_assoc,List.singleton_append,List.length_append,List.length_singleton] at ih
  simp only[hb2,ar,ha2,cX,hw]
  exact ih
theorem i9(f:Fun):aH 12 f.av=M.pure (.agg (ab f.av)):=ba (jh f)
theorem td{p:List Mod}{nm:SNm}{n:Nat}(LB:LimB p)(IH:pY p nm n)(own:Int)(ns:List aU)(vs:List Val)(e:Exp)(at_:Int)(hat:at_ < p.length)(m:Ms)(h:Hp)(R:eH p nm m h)(G:GoodM p m)(hmu:mu m < 1000000)(hn:m.fuel≤n)(hs:Sc p own ns vs m)(he:bC e)(y1 y2 y3 y4:AV):
  iL p nm Val.av ((match f9 p at_ e.s with
   | none=>.er 12
   | some f=>if e.m=[]∨f.pub=true then
     (if e.args.length=f.params.length then (listX (bm p n own ns vs) e.args).bind fun l=>cF p (bm p n) at_ f l else .er 13)
    else .er 12:X Val) m)
   (K270_0 (ai pg) aj [.hp 0 0,.ip (ab (bH own ns vs)),.ip (ab e.av),.int .i64 at_,y1,y2,y3,y4] h):=by
 have IE:=t169 LB IH
 obtain⟨l1,l2⟩:=kJ he
 have hfn:=t163 R LB.lim at_ hat e.s
 generalize hcode:K270_0 (ai pg) aj [.hp 0 0,.ip (ab (bH own ns vs)),.ip (ab e.av),.int .i64 at_,y1,y2,y3,y4] h=code
 simp -implicitDefEqProofs only[K270_0,aL,aS,a7,FA74_2,FA74_3,FA74_5,List.drop_succ_cons,List.drop_zero,LD9,LD24,ul,ar] at hcode
 rw[bS hfn] at hcode
 cases hf:f9 p at_ e.s with
 | none=>
  rw[hf] at hcode
  simp -implicitDefEqProofs only[rb,cO,List.getElem?_cons_zero,List.getElem?_cons_succ,ar,i9,aB,Ch,List.replicate,aL,zv,l6,bd,cz,Bool.false_eq_true,if_false] at hcode
  rw[← hcode]
  exact fc R
 | some f=>
  rw[hf] at hcode
  obtain⟨f1,f2,f3⟩:=gI hf
  have hmp:p[at_.toNat]?.getD default∈p:=by rw[List.getElem?_eq_getElem f2];exact List.getElem_mem f2
  obtain⟨_,hparams⟩:=LB.body _ hmp f f3
  have hac:∀ f:Fun,ab (.agg (ab f.av))=ab f.av:=fun _=>rfl
  simp -implicitDefEqProofs only[rb,cO,List.getElem?_cons_zero,List.getElem?_cons_succ,ar,i9,aB,ga,vJ,aL,hac] at hcode
  have hpub:ah T 4 (.ip (List.drop 1 (ab f.av)))=some (.bool f.pub):=by simp
  have hpar:ah T 23 (.ip (List.drop 2 (ab f.av)))=some (aK f.params):=by simp
  have hgu:ax (.bool (e.m== [])) false 1 (M.pure [.bool f.pub])=M.pure [gv (e.m== []) false (.bool f.pub)]:=dq _ _ _
  have hpk:aG (.bool (e.m== [])) (.bool true) (gv (e.m== []) false (.bool f.pub))=some (.bool ((e.m== [])||f.pub)):=l7 _ _
  simp -implicitDefEqProofs only[FA76_1,FA76_2,hpub,hpar,ar,hgu,aB,aL,hpk,m8,bd,qv,g7] at hcode
  by_cases h1:e.m=[]∨f.pub=true
  ·have h1':(e.m== []||f.pub)=true:=by
    simp only[Bool.or_eq_true,beq_iff_eq]
    exact h1
   simp only[h1',cz,if_true] at hcode
   simp only[if_pos h1]
   by_cases h2:e.args.length=f.params.length
   ·have h2':((e.args.length:Int)== (f.params.length:Int))=true:=by simp[h2]
    simp only[h2',if_true] at hcode
    simp only[if_pos h2]
    rw[← hcode]
    have:=tP IH IE own ns vs at_ f e.args y1 y2 y3 y4 (by omega) hat f3 (fun x hx=>bu he hx) (by omega) h2 e.args [] [] m h rfl rfl (fun v hv=>by cases hv) R G hmu hn hs
    simp only[List.nil_append] at this
    exact this
   ·have h2':((e.args.length:Int)== (f.params.length:Int))=false:=by
     rw[beq_eq_false_iff_ne]
     omega
    simp only[h2',Bool.false_eq_true,if_false] at hcode
    simp only[if_neg h2]
    rw[← hcode]
    exact fc R
  ·have h1':(e.m== []||f.pub)=false:=by
    rw[← Bool.not_eq_true]
    simp only[Bool.or_eq_true,beq_iff_eq]
    exact h1
   simp only[h1',cz,Bool.false_eq_true,if_false] at hcode
   simp only[if_neg h1]
   rw[← hcode]
   exact fc R
theorem t270{p:List Mod}{nm:SNm}{n:Nat}(LB:LimB p)(IH:pY p nm n):C0 p nm n:=by
 intro own ns vs e m h R G hmu hn hs he
 unfold mG
 have hown:ah T 3 (.ip [.int .i64 own,strs ns,vals vs])=some (.int .i64 own):=rfl
 have hmd:=t162 R LB.lim e.m
 generalize hcode:ai pg 270 [.hp 0 0,bH own ns vs,e.av] h=code
 rw[C270] at hcode
 simp -implicitDefEqProofs only[S270,ez,a7,FA269_0,FA74_3,List.drop_succ_cons,List.drop_zero,hown,LD9,ar,rr,Ia,aA] at hcode
 by_cases h0:e.m=[]
 ·have h0':(!(e.m== []))=false:=by simp[h0]
  simp only[h0',Bool.false_eq_true,if_false] at hcode
  simp only[if_pos h0]
  rw[← hcode]
  have:=td LB IH own ns vs e own hs.own m h R G hmu hn hs he (.int .i64 0) (.int .i64 0) (.sl []) (.sl [])
  simp only[ez,a7] at this
  exact this
 ·have h0':(!(e.m== []))=true:=by simp[h0]
  simp only[h0',if_true] at hcode
  rw[bS hmd] at hcode
  simp only[if_neg h0]
  rw[← hcode]
  have hlt:modAt p e.m < p.length:=by
   rcases lN (fun (x:Mod)=>x.name== e.m) p 0 with k | k
   ·show aZ _ p 0 < _
    rw[k];omega
   ·show aZ _ p 0 < _
    omega
  have:=td LB IH own ns vs e (modAt p e.m) hlt m h R G hmu hn hs he (.int .i64 0) (.int .i64 0) (.sl []) (.sl [])
  simp only[ez,a7] at this
  exact this
theorem NC{t e:Nat}{ti ei:TI}(ht:T t=some ti)(hk:ti.kind= .slice e)(he:T e=some ei){l off len sz:Nat}{ag:Bool}{n:Int}(h0:0≤n)(h1:n < len):ak T t (.hs l off len sz ag) (.int .i64 n)=some (.hp l (off + n.toNat * ei.size)):=by
 simp[ak,ht,hk,he,h0,h1]
theorem CH{p:List Mod}{nm:SNm}{tag:Nat→Nat}{dv cv sv:AV}{m:Ms}{h:Hp}(R:RepT (rowP p nm.told) nm tag dv cv sv m h)(d:Deed)(hb:m.deeds.length≤2000000):
  ∃ dv' h1 h2,appH T 52 false dv (.sl [d.av]) h= .ok dv' h1∧bo T 52 (.hp 0 9) dv' h1= .ok (.tup []) h2∧eH p nm { m with deeds:=m.deeds++[d] } h2:=by
 obtain⟨h1,dv',tag',e1,K,H,hc⟩:=rP (T:=T) (t:=52) rfl rfl rfl rfl (by decide) rfl (by decide) (x:=d.av) R.ds (fun h0=>by
  have:m.deeds=[]:=List.eq_nil_of_length_eq_zero h0
  rw[this];rfl) (fun cs h=>by rw[h];exact uN _) (oS d) (show (m.deeds.length + 1) * 24≤140737488355328 by omega)
 have h0:=(K 0 _ R.r0 (by rw[R.t0];decide)).1
 refine⟨dv',h1,_,e1,fp rfl h0 (fN hc).1 (show 9 + 1≤12 by decide) (by decide),?_⟩
 have hac:ab dv'=[dv']:=(fN hc).2.1
 have:=R.pushDeed (m':={ m with deeds:=m.deeds++[d] }) K H rfl rfl rfl id
 refine⟨tag',dv',cv,sv,?_⟩
 rw[hac]
 exact this
theorem wb{p:List Mod}{nm:SNm}{m:Ms}{h:Hp}(R:eH p nm m h)(hb:m.deeds.length≤2000000)(e:Exp)(v:Val)(n:Int)(x1 x2 x3 x4:AV):
  iL p nm Val.av (X.ok (lU n) { m with deeds:=m.deeds++[⟨e.n,v.n,n⟩] }) (K271_0 (ai pg) aj [.hp 0 0,.ip (ab e.av),.ip (ab v.av),.int .i64 n,x1,x2,x3,x4] h):=by
 obtain⟨tag,dv,cv,sv,R0⟩:=R
 obtain⟨dv',h1,h2,e1,e2,R2⟩:=CH R0 ⟨e.n,v.n,n⟩ hb
 have hB:aM T false 60 [(0,.int .i64 e.n),(1,.int .i64 v.n),(2,.int .i64 n)]=some (Deed.av ⟨e.n,v.n,n⟩):=rfl
 have hBS:aI T 52 1 [(0,Deed.av ⟨e.n,v.n,n⟩)]=some (.sl [Deed.av ⟨e.n,v.n,n⟩]):=rfl
 have ld:∀ g:AV→M AV,ae (aR T 52 (.hp 0 9)) g h=g dv h:=fun g=>bS (dc rfl rfl R0.r0 rfl)
 generalize hcode:K271_0 (ai pg) aj [.hp 0 0,.ip (ab e.av),.ip (ab v.av),.int .i64 n,x1,x2,x3,x4] h=code
 simp -implicitDefEqProofs only[K271_0,aL,aS,dV,ar,FH240_4,FH55_2,Nat.zero_add,Nat.reduceAdd,ld,a7,FA74_1,List.drop_succ_cons,List.drop_zero,LD3,dU,FA51_1,hB,hBS] at hcode
 rw[bS e1] at hcode
 rw[bS e2] at hcode
 simp -implicitDefEqProofs only[t264,aB] at hcode
 rw[o9] at hcode
 rw[← hcode]
 exact dR R2
theorem CN{p:List Mod}{nm:SNm}{m:Ms}{h:Hp}(R:eH p nm m h)(w:List Int)(hw0:m.world=[]→w=[]):∃ h1,(m.world≠[]→eH p nm { m with world:=w } h1)∧(∀ f:AV→M AV,ae (aR T 44 (.hp 0 1)) f h=f (su nm.told m.world) h)∧
  (m.world≠[]→∀ f:AV→M AV,ae (bo T 44 (.hp 0 1) (ints w)) f h=f (.tup []) h1):=by
 obtain⟨tag,dv,cv,sv,R⟩:=R
 refine⟨h.set 0 (setCells (rowP p nm.told m dv cv sv) 1 (ab (ints w))),fun hne=>⟨tag,dv,cv,sv,?_⟩,fun f=>bS (dc rfl rfl R.r0 rfl),fun _ f=>bS (fp rfl R.r0 rfl (show 1 + 1≤12 by decide) (by decide))⟩
 have ht:nm.told=false:=by
  cases ht:nm.told with
  | false=>rfl
  | true=>exact absurd (R.wok ht) hne
 have e:setCells (rowP p nm.told m dv cv sv) 1 (ab (ints w))=rowP p nm.told { m with world:=w } dv cv sv:=by
  simp only[ht]
  rfl
 rw[e]
 exact R.set0 rfl rfl rfl hw0
theorem t271{p:List Mod}{nm:SNm}{n:Nat}(LB:LimB p)(IH:pY p nm n):Am p nm n:=by
 intro own ns vs e m h hop hcn R G hmu hn hs he
 obtain⟨l1,l2⟩:=kJ he
 have hscl:ah T 269 (.ip [.int .i64 own,strs ns,vals vs])=some (bH own ns vs):=rfl
 have hown:ah T 3 (.ip [.int .i64 own,strs ns,vals vs])=some (.int .i64 own):=rfl
 generalize hcode:ai pg 271 [.hp 0 0,bH own ns vs,e.av] h=code
 rw[C271] at hcode
 obtain⟨op,en,es,em,en2,ea⟩:=e
 simp only[lY] at hop
 unfold pb at hcn
 simp only[lY,gY] at hcn
 have hlen:op=16∨op=18→∃ a,ea=[a]:=by
  intro h
  apply J4
  rcases h with rfl | rfl
  ·simp[aW] at hcn;omega
  ·simp[aW] at hcn;omega
 by_cases h16:op=16
 ·obtain⟨a,rfl⟩:=hlen (.inl h16)
  subst h16
  have ha:bC a:=bu he (by simp)
  simp -implicitDefEqProofs only[S271,ez,a7,lY,sQ,zW,Cr,fa,gY,FA74_0,FA74_1,FA74_5,List.drop_succ_cons,List.drop_zero,LD3,LD24,ar,g7,beq_self_eq_true,aA,if_true,hscl,LQ] at hcode
  have hex:ah T 74 (.ip [.int .i64 a.op,.int .i64 a.n,.str a.s,.str a.m,strs a.names,cb a.args])=some a.av:=by
   have:ah T 74 (.ip (ab a.av))=some a.av:=by simp
   rwa [a7] at this
  simp -implicitDefEqProofs only[hex,ar] at hcode
  rw[← hcode]
  simp only[sr,lY,if_true,sF]
  have e0:([a]:List Exp)[0]! = a:=rfl
  simp only[gY,e0]
  refine ca (IH own ns vs a _ _ R G hn hs ha) fun v s1 h2 hv R2=>?_
  obtain⟨G2,rv,f2⟩:=G.eval hs.right hv
  generalize hcode2:ae (aH 4 v.av) _ h2=code2
  simp -implicitDefEqProofs only[ba (eq v),aB,bY,dU,FA51_0,List.drop_zero,LD3,ar,g7,bd,dq,aL,l7] at hcode2
  by_cases hk:v.kind=0
  ·have hk':(v.kind== 0)=true:=by simp[hk]
   simp only[hk',cz,if_true] at hcode2
   simp only[if_pos hk]
   by_cases hn4':(Exp.mk 16 en es em en2 [a]).n=1∨(Exp.mk 16 en es em en2 [a]).n=2∨(Exp.mk 16 en es em en2 [a]).n=4∨(Exp.mk 16 en es em en2 [a]).n=8
   ·have hn4:en=1∨en=2∨en=4∨en=8:=hn4'
    have hn':(en== 1||en== 2||en== 4||en== 8)=true:=by
     simp only[Bool.or_eq_true,beq_iff_eq]
     omega
    simp only[hn',if_true] at hcode2
    simp only[if_pos hn4']
    obtain⟨h3,R3,lw,sw⟩:=CN R2 s1.world.tail (fun h=>by rw[h];rfl)
    have hmu2:=(kU n own ns vs a m v s1 G.fuel hv).1
    have hdl:s1.deeds.length≤2000000:=by
     have:=G2.fuel
     simp only[mu] at hmu2 hmu
     omega
    show iL p nm Val.av (X.ok (lU (s1.world.headD 0)) { s1 with world:=s1.world.tail,deeds:=s1.deeds++[⟨en,v.n,s1.world.headD 0⟩] }) code2
    have lenw:aF T 44 (su nm.told s1.world)=some (.int .i64 s1.world.length):=by
     unfold su
     split
     ·rename_i ht
      obtain⟨_,_,_,_,R2'⟩:=R2
      rw[R2'.wok ht]
      rfl
     ·exact Jo _
    simp -implicitDefEqProofs only[rr,dV,ar,FH240_1,Nat.zero_add,lw,lenw,ar,qb,aA] at hcode2
    cases hwd:s1.world with
    | nil=>
     rw[hwd] at hcode2
     simp only[List.length_nil,show decide ((0:Int) < ((0:Nat):Int))=false by decide,Bool.false_eq_true,if_false] at hcode2
     have:=wb R2 hdl (.mk 16 en es em en2 [a]) v 0 (.int .i64 0) (.int .i64 0) (.sl []) (.sl [])
     simp only[a7,dU,lY,sQ,zW,Cr,fa,gY] at this
     rw[hcode2] at this
     have e5:({ s1 with deeds:=s1.deeds++[⟨en,v.n,0⟩] }:Ms)= { s1 with world:=([]:List Int).tail,deeds:=s1.deeds++[⟨en,v.n,([]:List Int).headD 0⟩] }:=by
      cases s1
      simp only at hwd
      subst hwd
      rfl
     rw[e5] at this
     exact this
    | cons x wl=>
     have hd:decide ((0:Int) < (((x:: wl).length:Nat):Int))=true:=by simp <;> omega
     have hne:s1.world≠[]:=by rw[hwd];simp
     have sw:=sw hne
     have R3:=R3 hne
     have hwv:su nm.told s1.world=ints s1.world:=by
      unfold su
      rw[if_neg]
      intro ht
      obtain⟨_,_,_,_,R2'⟩:=R2
      exact hne (R2'.wok ht)
     rw[hwv] at lw
     rw[hwd] at hcode2 sw R3 lw
     have hix:ak T 44 (ints (x:: wl)) (.int .i64 0)=some (.ip [.int .i64 x]):=by
      have:=My (l:=x:: wl) (n:=0) (by omega) (by simp <;> omega)
      simpa using this
     have hsl:dx T 44 (ints (x:: wl)) (some (.int .i64 1)) none none=some (ints wl):=by
      have:=CP (T:=T) (t:=44) (e:=3) rfl rfl rfl ((x:: wl).map (AV.int .i64)) (by exact Cy _) (n:=1) (by omega) (by simp <;> omega)
      simpa [ints] using this
     simp only[List.tail_cons] at sw R3
     simp -implicitDefEqProofs only[hd,if_true,lw,hix,ar,LD3,hsl,sw] at hcode2
     have:=wb R3 hdl (.mk 16 en es em en2 [a]) v x (.int .i64 0) (.int .i64 0) (.sl []) (.sl [])
     simp only[a7,dU,lY,sQ,zW,Cr,fa,gY] at this
     rw[hcode2] at this
     exact this
   ·have hn4:¬ (en=1∨en=2∨en=4∨en=8):=hn4'
    have hn':(en== 1||en== 2||en== 4||en== 8)=false:=by
     rw[← Bool.not_eq_true]
     simp only[Bool.or_eq_true,beq_iff_eq]
     omega
    simp only[hn',Bool.false_eq_true,if_false] at hcode2
    simp only[if_neg hn4']
    rw[← hcode2]
    exact fc R2
  ·have hk':(v.kind== 0)=false:=by simpa using hk
   simp only[hk',cz,Bool.false_eq_true,if_false] at hcode2
   simp only[if_neg hk]
   rw[← hcode2]
   exact fc R2
 have h16':((op:Int)== 16)=false:=by simpa using h16
 have h16x:¬ ((Exp.mk op en es em en2 ea).op=16):=h16
 unfold sr
 simp only[if_neg h16x]
 unfold sq
 simp -implicitDefEqProofs only[S271,ez,a7,lY,sQ,zW,Cr,fa,gY,FA269_0,FA74_0,FA74_1,FA74_2,FA74_5,List.drop_succ_cons,List.drop_zero,LD3,LD24,ar,g7,h16',Bool.false_eq_true,aA,if_false,hown,hscl,kE,bd,rr] at hcode
 by_cases ho:own < 0
 ·have ho':decide (0≤own)=false:=by simp;omega
  simp only[ho',cz,Bool.false_eq_true,if_false] at hcode
  simp only[if_pos ho]
  rw[← hcode]
  exact fc R
 have ho':decide (0≤own)=true:=by simp;omega
 simp only[ho',cz,if_true] at hcode
 simp only[if_neg ho]
 have hol:=hs.own
 have hlt:own.toNat < p.length:=by omega
 have hix:=lr (l:=p) (n:=own) (by omega) hol
 rw[getElem!_pos p own.toNat hlt] at hix
 have e3:p[own.toNat]?.getD default=p[own.toNat]:=by rw[List.getElem?_eq_getElem hlt];rfl
 have hvl:=(LB.lim.funcsAt own.toNat).2
 rw[e3] at hvl ⊢
 have hff:=Me p[own.toNat].vars hvl (.mk op en es em en2 ea)
 simp only[a7,lY,sQ,zW,Cr,fa,gY] at hff
 have Rk:=R
 obtain⟨tag,dv,cv,sv,R0⟩:=R
 have lm:∀ g:AV→M AV,ae (aR T 42 (.hp 0 0)) g h=g (cw p) h:=fun g=>bS (dc rfl rfl R0.r0 (by rw[← ql (t:=nm.told) (fun e=>by subst e;simp at hlt)];rfl))
 have lsv:∀ g:AV→M AV,ae (aR T 53 (.hp 0 11)) g h=g nm.sv h:=fun g=>bS (dc rfl rfl R0.r0 (by rw[← R0.sve];rfl))
 simp -implicitDefEqProofs only[dV,ar,FH240_0,FH240_4,FH55_4,Nat.zero_add,Nat.reduceAdd,lm,hix,br,FA29_2,List.drop_succ_cons,List.drop_zero,LD23,hff,dW,aB,kE,bd] at hcode
 by_cases hi:jc p[own.toNat].vars (Exp.mk op en es em en2 ea).s < 0
 ·have hi':decide (0≤jc p[own.toNat].vars es)=false:=by
   have:jc p[own.toNat].vars es < 0:=hi
   simp;omega
  simp only[hi',cz,Bool.false_eq_true,if_false] at hcode
  simp only[if_pos hi]
  rw[← hcode]
  exact fc Rk
 have hi0:0≤jc p[own.toNat].vars es:=by
  have:¬ jc p[own.toNat].vars es < 0:=hi
  omega
 have hi':decide (0≤jc p[own.toNat].vars es)=true:=by simp;omega
 simp only[hi',cz,if_true,lsv] at hcode
 simp only[if_neg hi]
 have hil:jc p[own.toNat].vars es < p[own.toNat].vars.length:=by
  rcases lN (fun (x:bP)=>x.1== es) p[own.toNat].vars 0 with k | k
  ·have:jc p[own.toNat].vars es= -1:=k
   omega
  ·have:jc p[own.toNat].vars es=aZ (fun (x:bP)=>x.1== es) p[own.toNat].vars 0:=rfl
   omega
 obtain⟨l,hl1,hl2⟩:=G.shape own.toNat _ (List.getElem?_eq_getElem hlt)
 have hne:l≠[]:=fun e=>by rw[e] at hl2;simp at hl2;omega
 have hsl:own.toNat < m.state.length:=(List.getElem?_eq_some_iff.1 hl1).1
 obtain⟨q,r,v1,v2,v3,v4,v5,v6⟩:=R0.var (fun _=>rfl) hl1 hne
 have hx1:ak T 53 nm.sv (.int .i64 own)=some (.hp q (own.toNat * 2)):=by
  rw[v1]
  have:=NC (t:=53) rfl rfl rfl (l:=q) (off:=0) (len:=m.state.length) (sz:=2) (ag:=true) (n:=own) (by omega) (by omega)
  rw[this]
  simp
 have lv:∀ g:AV→M AV,ae (aR T 47 (.hp q (own.toNat * 2 + 1))) g h=g (.hs r 0 l.length 4 true) h:=fun g=>bS (dc rfl rfl v2 v3)
 simp -implicitDefEqProofs only[hx1,ar,FH62_1,lv] at hcode
 generalize hI:jc p[own.toNat].vars es=I at *
 have hI2:jc p[own.toNat].vars (Exp.mk op en es em en2 ea).s=I:=hI
 rw[hI2]
 have hx2:ak T 47 (.hs r 0 l.length 4 true) (.int .i64 I)=some (.hp r (I.toNat * 4)):=by
  have:=NC (t:=47) rfl rfl rfl (l:=r) (off:=0) (len:=l.length) (sz:=4) (ag:=true) (n:=I) (by omega) (by omega)
  rw[this]
  simp
 have hk:I.toNat < l.length:=by omega
 by_cases h18:op=18
 ·have h18x:(Exp.mk op en es em en2 ea).op=18:=h18
  simp only[if_pos h18x]
  obtain⟨a,rfl⟩:=hlen (.inr h18)
  have ha:bC a:=bu he (by simp)
  have hb18:(op== 18)=true:=by simp[h18]
  have hex:ah T 74 (.ip (ab a.av))=some a.av:=by simp
  have e0:(Exp.mk op en es em en2 [a]).args[0]! = a:=rfl
  simp -implicitDefEqProofs only[hb18,if_true,LQ,ar,hex] at hcode
  rw[← hcode,e0]
  refine ca (IH own ns vs a _ _ Rk G hn hs ha) fun v s1 h2 hv R2=>?_
  obtain⟨G2,rv,f2⟩:=G.eval hs.right hv
  obtain⟨tag2,dv2,cv2,sv2,R20⟩:=R2
  obtain⟨l',hl1',hl2'⟩:=G2.shape own.toNat _ (List.getElem?_eq_getElem hlt)
  have hne':l'≠[]:=fun e=>by rw[e] at hl2';simp at hl2';omega
  obtain⟨q',r',w1,w2,w3,w4,w5,w6⟩:=R20.var (fun _=>rfl) hl1' hne'
  have hll:l'.length=l.length:=by omega
  have hrr:r'=r:=by
   rw[v3] at w3
   simp only[Option.some.injEq,AV.hs.injEq] at w3
   exact w3.1.symm
  subst hrr
  have hst:bo T 51 (.hp r' (I.toNat * 4)) v.av h2= .ok (.tup []) (h2.set r' (bp (l'.set I.toNat v))):=by
   have:=fp (T:=T) (t:=51) rfl w5 (v:=v.av) (k:=I.toNat * 4) (eq v) (by rw[iT];show I.toNat * 4 + 4≤_;omega) (by decide)
   rw[this,vU (by omega)]
  have R3:=w6 I.toNat v (by omega)
  have hset:((s1.state[own.toNat]?.getD []).set I.toNat v)=l'.set I.toNat v:=by rw[hl1'];rfl
  have hld2:aR T 51 (.hp r' (I.toNat * 4)) (h2.set r' (bp (l'.set I.toNat v)))= .ok v.av (h2.set r' (bp (l'.set I.toNat v))):=by
   have hlt2:r' < h2.length:=(List.getElem?_eq_some_iff.1 w5).1
   have:=oN (T:=T) (t:=51) rfl rfl (h:=h2.set r' (bp (l'.set I.toNat v))) (l:=r') (k:=I.toNat * 4) (List.getElem?_set_self hlt2) (by rw[iT,List.length_set];show I.toNat * 4 + 4≤_;omega)
   rw[this]
   have hg:=kV (l:=l'.set I.toNat v) (k:=I.toNat) (by simp;omega)
   show Av.R.ok (AV.agg (((bp (l'.set I.toNat v)).drop (I.toNat * 4)).take 4)) _=_
   rw[hg,List.getElem_set_self]
   rw[Val.av_eq]
   rfl
  generalize hcode2:ae (af (ak T 47 (.hs r' 0 l.length 4 true) (.int .i64 I))) _ h2=code2
  simp -implicitDefEqProofs only[hx2,ar] at hcode2
  rw[bS hst] at hcode2
  simp -implicitDefEqProofs only[K271_1,aL,aS,hx2,ar] at hcode2
  rw[bS hld2,o9] at hcode2
  rw[← hcode2]
  exact⟨_,rfl,tag2,dv2,cv2,sv2,R3⟩
 ·have h18x:¬ ((Exp.mk op en es em en2 ea).op=18):=h18
  have hb18:(op== 18)=false:=by simpa using h18
  have hld2:aR T 51 (.hp r (I.toNat * 4)) h= .ok (l[I.toNat]).av h:=by
   have:=oN (T:=T) (t:=51) rfl rfl (h:=h) (l:=r) (k:=I.toNat * 4) v5 (by rw[iT];show I.toNat * 4 + 4≤_;omega)
   rw[this]
   have hg:=kV (l:=l) (k:=I.toNat) hk
   show Av.R.ok (AV.agg (((bp l).drop (I.toNat * 4)).take 4)) _=_
   rw[hg,Val.av_eq]
   rfl
  simp only[if_neg h18x]
  simp -implicitDefEqProofs only[hb18,Bool.false_eq_true,if_false,K271_1,aL,aS,hx2,ar] at hcode
  rw[bS hld2,o9] at hcode
  rw[← hcode]
  have hgs:mI m.state own.toNat I.toNat=l[I.toNat]:=by
   simp[mI,List.getD_eq_getElem?_getD,hl1,hk]
  show iL p nm Val.av (X.ok (mI m.state own.toNat I.toNat) m) _
  rw[hgs]
  exact dR Rk
theorem JS{p:List Mod}{nm:SNm}(LB:LimB p):∀ n,pY p nm n
 | 0=>fun own ns vs e m h R G hn hs he=>⟨h,E3 R (by omega) _ e,R⟩
 | n + 1=>by
  have IH:=JS (nm:=nm) LB n
  exact BS IH (t268 IH) (t270 LB IH) (t271 LB IH)
theorem Ho{p:List Mod}{nm:SNm}(LB:LimB p)(n:Nat):uj p nm n:=t169 LB (JS LB n)
theorem AM{m:M AV}{r:AV}{h':Hp}(h1:m []= .ok r h')(h2:∀ g,cl g r=r):aE m=M.pure r:=by
 funext h
 unfold aE
 rw[h1]
 simp only[M.pure]
 have:ix 6 h' r=r:=h2 _
 rw[this]
theorem GH(l:List Val):(l.any fun v=>!bA 4 v)= !(l.all (bA 4)):=by
 induction l with
 | nil=>rfl
 | cons v l ih=>simp only[List.any_cons,List.all_cons,ih];cases bA 4 v <;> simp
theorem Nf(v:Val):ah T 51 (.ip (ab v.av))=some v.av:=by simp
theorem t189(v:Val)(hv:v.sz≤4611686018427387904):ai pg 189 [v.av]=M.pure (.bool !bA 4 v):=by
 rw[C189]
 simp only[S189,mS,Nf,ar,t97 v hv,aB,dS]
 exact bM fun g=>rfl
theorem t165(v:Val)(hv:v.sz≤4611686018427387904):ai pg 165 [v.av]=M.pure (.bool !bA 4 v):=by
 rw[C165]
 simp only[S165,mS,Nf,ar,t97 v hv,aB,dS]
 exact bM fun g=>rfl
theorem t240(v:Val)(hv:v.sz≤4611686018427387904):ai pg 240 [v.av]=M.pure (.bool !bA 4 v):=by
 rw[C240]
 simp only[S240,mS,Nf,ar,t97 v hv,aB,dS]
 exact bM fun g=>rfl
theorem uy(k:Nat)(hk:∀ v:Val,v.sz≤4611686018427387904→ai pg k [v.av]=M.pure (.bool !bA 4 v))(l:List Val)(hl:bT l≤4611686018427387904):ai pg 164 [vals l,.fn (.func k) [] []]=M.pure (.bool !(l.all (bA 4))):=by
 have:=t164 (.fn (.func k) [] []) (fun v=>!bA 4 v) l (Nat.le_trans (jr l) hl) (fun g=>rfl) (fun v hv=>hk v (Nat.le_trans (gX hv) hl))
 rw[this,GH]
theorem t167(f:AV)(h:Hp):ai pg 167 [f] h=vR 33 .i64 (.agg [.int .i64 0,.int .i64 0,.sl [],.sl []]) (bw (ai pg) f [] h):=by
 have e:ai pg 167 [f]=ym 33 .i64 (.agg [.int .i64 0,.int .i64 0,.sl [],.sl []]) (ai pg) [f]:=dy hOther rfl _
 rw[e]
 rfl
def ND:SNm:=⟨[],.hn,[],true⟩
theorem Fx:LimB []:=⟨⟨by simp,fun m hm=>by cases hm⟩,fun m hm=>by cases hm⟩
theorem H6:eH [] ND (aX [] 100000 []) [[.hn,.hn,.int .i64 100000,.int .i64 0,.int .i64 0,.int .i64 0,.int .i64 0,.hn,.hn,.hn,.hn,.hn]]:=
 ⟨fun _=>0,.hn,.hn,.hn,rfl,rfl,.inl ⟨rfl,rfl⟩,.inl ⟨rfl,rfl⟩,.inl ⟨rfl,rfl⟩,rfl,fun _=>rfl⟩
theorem Fj:GoodM [] (aX [] 100000 []):=⟨⟨fun l hl=>by simp[aX] at hl,fun c hc=>by simp[aX] at hc⟩,by simp[mu,aX],by simp[aX],by simp[aX],fun i x hx=>by simp at hx⟩
def l5:Rs Val→AV
 | .ok v _=>.tup [v.av,.int .i64 0]
 | .er e _=>.tup [Val.av default,.int .i64 e]
theorem uI(g)(v:Val)(e:Int):cl g (.tup [v.av,.int .i64 e])= .tup [v.av,.int .i64 e]:=by simp[cl,dL]
theorem t94(e:Exp)(ns:List aU)(vs:List Val)(he:bC e)(hn:ns.length≤274877906944)(hv:bT vs≤4611686018427387904):ai pg 94 [e.av,strs ns,vals vs]=M.pure (l5 (ny e ns vs)):=by
 have ha:=uy 189 t189 vs hv
 have hl1:ah T 22 (.ip (ab (strs ns)))=some (strs ns):=rfl
 have hl2:ah T 47 (.ip (ab (vals vs)))=some (vals vs):=rfl
 have hB:aM T true 240 [(2,.int .i64 100000)]=some (.agg [.hn,.hn,.int .i64 100000,.int .i64 0,.int .i64 0,.int .i64 0,.int .i64 0,.hn,.hn,.hn,.hn,.hn]):=rfl
 have hZ:aM T false 51 []=some (Val.av default):=rfl
 have hcl:∀ h:AV→M AV,ae (newH [.hn,.hn,.int .i64 100000,.int .i64 0,.int .i64 0,.int .i64 0,.int .i64 0,.hn,.hn,.hn,.hn,.hn]) h []=h (.hp 0 0) [[.hn,.hn,.int .i64 100000,.int .i64 0,.int .i64 0,.int .i64 0,.int .i64 0,.hn,.hn,.hn,.hn,.hn]]:=fun h=>rfl
 rw[C94,mg,jE,yS]
 unfold ny
 by_cases hr:ns.length=vs.length∧vs.all (bA 4)=true
 ·rw[if_pos hr]
  have hne:((ns.length:Int) != (vs.length:Int))=false:=by simp[hr.1]
  have hrs:ly ns vs:=⟨hr.1,fun v hv=>(List.all_eq_true.1 hr.2) v hv⟩
  have hev:=JS (nm:=ND) Fx 100000 (-1) ns vs e _ _ H6 Fj (by simp[aX]) ⟨by simp,hrs,by simp only[aX];omega⟩ he
  have hcell:aH 1 (.hp 0 0)=M.pure (.agg [.hp 0 0]):=rfl
  have hBS:aM T false 269 [(0,.int .i64 (-1)),(1,strs ns),(2,vals vs)]=some (bH (-1) ns vs):=rfl
  have hlp:ah T 238 (.ip [.hp 0 0])=some (.hp 0 0):=rfl
  have hex:ah T 74 (.ip (ab e.av))=some e.av:=by simp
  have hcall:∀ h,ai pg 190 [.ip [.hp 0 0],.ip (ab (strs ns)),.ip (ab (vals vs)),.ip (ab e.av)] h=ae (ai pg 191 [.hp 0 0,bH (-1) ns vs,e.av]) (fun v=>ae (ao 4 [] v) fun w=>M.pure (AV.agg [nth (ab w) 0,nth (ab w) 1,nth (ab w) 2,nth (ab w) 3])) h:=fun h=>by
   rw[C190]
   simp -implicitDefEqProofs only[S190,hlp,hl1,hl2,hex,hBS,ar]
  have hS:S94 (ai pg) aj e.av (strs ns) (vals vs) []= .ok (l5 (bm [] 100000 (-1) ns vs e (aX [] 100000 []))) []∨∃ h',S94 (ai pg) aj e.av (strs ns) (vals vs) []= .ok (l5 (bm [] 100000 (-1) ns vs e (aX [] 100000 []))) h':=by
   right
   simp -implicitDefEqProofs only[S94,hl1,hl2,ar,qu,yD,kF,hne,ga,ha,aB,dS,hr.2,Bool.not_true,aL,l6,aA,Bool.false_eq_true,if_false,hB,bY,hcl,hcell]
   have htry:=t167 (.fn (.func 190) [] [.ip [.hp 0 0],.ip (ab (strs ns)),.ip (ab (vals vs)),.ip (ab e.av)]) [[.hn,.hn,.int .i64 100000,.int .i64 0,.int .i64 0,.int .i64 0,.int .i64 0,.hn,.hn,.hn,.hn,.hn]]
   have hcv:bw (ai pg) (.fn (.func 190) [] [.ip [.hp 0 0],.ip (ab (strs ns)),.ip (ab (vals vs)),.ip (ab e.av)]) []=ai pg 190 [.ip [.hp 0 0],.ip (ab (strs ns)),.ip (ab (vals vs)),.ip (ab e.av)]:=rfl
   rw[hcv,hcall] at htry
   have how:=dn hev
   generalize bm [] 100000 (-1) ns vs e (aX [] 100000 [])=r at how ⊢
   cases r with
   | ok v s=>
    obtain⟨h',e1,_⟩:=how
    refine⟨h',?_⟩
    rw[e1] at htry
    simp only[vR,eq,cond_true] at htry
    rw[bS htry]
    simp[l5,M.pure]
   | er c s=>
    obtain⟨h',e1,_⟩:=how
    refine⟨h',?_⟩
    rw[e1] at htry
    have ht:vR 33 .i64 (.agg [.int .i64 0,.int .i64 0,.sl [],.sl []]) (.pan (nq c) h')= .ok (.tup [Val.av default,.int .i64 c]) h':=rfl
    rw[ht] at htry
    rw[bS htry]
    simp[l5,M.pure]
  rcases hS with h | ⟨h',h⟩
  ·exact AM h fun g=>by cases bm [] 100000 (-1) ns vs e (aX [] 100000 []) <;> exact uI g _ _
  ·exact AM h fun g=>by cases bm [] 100000 (-1) ns vs e (aX [] 100000 []) <;> exact uI g _ _
 ·rw [if_neg hr]
  have hb:((ns.length:Int) != (vs.length:Int) || !(vs.all (bA 4)))=true:=by
   by_cases h1:ns.length=vs.length
   ·have:vs.all (bA 4)=false:=by
     rw[← Bool.not_eq_true]
     exact fun h2=>hr ⟨h1,h2⟩
    simp[this]
   ·have:((ns.length:Int) != (vs.length:Int))=true:=by
     rw[bne_iff_ne]
     omega
    simp[this]
  have hgu:ax (.bool ((ns.length:Int) != (vs.length:Int))) false 1 (M.pure [.bool !(vs.all (bA 4))])=M.pure [gv ((ns.length:Int) != (vs.length:Int)) false (.bool !(vs.all (bA 4)))]:=dq _ _ _
  have hS:S94 (ai pg) aj e.av (strs ns) (vals vs)=M.pure (.tup [Val.av default,.int .i64 1]):=by
   simp -implicitDefEqProofs only[S94,hl1,hl2,ar,qu,yD,kF,ha,aB,dS,hgu,aL,l7,hb,aA,if_true,hZ]
   simp
  rw[hS]
  exact bM fun g=>uI g _ _
end Go.Proofs.YtkkabinknmldeaaGreat
