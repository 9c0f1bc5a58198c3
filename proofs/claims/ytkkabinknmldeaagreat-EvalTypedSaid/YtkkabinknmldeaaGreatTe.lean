/- What the functions of the seat compute, part 5: the texts of the claim, one behind the other. Conditions: bounds, as each theorem names them. -/
import Derived.Test.YtkkabinknmldeaaGreatTd
set_option linter.unusedSimpArgs false
set_option linter.unusedVariables false
namespace Go.Proofs.YtkkabinknmldeaaGreat
open Go Go.Av Go.Av.Ap
set_option maxRecDepth 100000
theorem bX{m:M AV}{v r:AV}{h':Hp}(e:m []= .ok v h')(f:ix 6 h' v=r):aE m=M.pure r:=by
 funext hp
 unfold aE
 rw[e]
 show R.ok (ix 6 h' v) hp=R.ok r hp
 rw[f]
theorem t226(t:Ty)(k:Int):ai pg 226 [t.av,.ip [.int .i64 k]]=M.pure (.bool (t.kind != k)):=by
 rw[C226]
 simp[S226,cl,dL]
theorem t225(k:Int)(l:List Ty)(hl:l.length≤1000000):ai pg 225 [.int .i64 k,.ip [ib l]]=M.pure (.bool (jt k l)):=by
 have h:=t142 (.fn (.func 226) [] [.ip [.int .i64 k]]) (fun t=>t.kind != k) l (by omega) (fun g=>by simp[cl,dL]) (fun t _=>t226 t k)
 rw[C225]
 have e:(!l.any fun t=>t.kind != k)=jt k l:=by
  unfold jt
  rw[List.not_any_eq_all_not]
  congr 1
  funext t
  simp[bne]
 simp[S225,cl,dL,h,e]
theorem B1(f:AV→M AV):ae (newH [.int .i64 0,.hn]) f []=f (.hp 0 0) [[.int .i64 0,.hn]]:=rfl
theorem B2(f:AV→M AV)(k:Int)(fs:List AV)(c1 c2:AV):ae (bo T 72 (.hp 0 0) (.agg [.int .i64 k,.sl fs])) f [[c1,c2]]=f (.tup []) [[.int .i64 k,.sl fs]]:=rfl
theorem yv(f:AV→M AV)(k:Int)(c1 c2:AV):ae (bo T 72 (.hp 0 0) (.agg [.int .i64 k,.hn])) f [[c1,c2]]=f (.tup []) [[.int .i64 k,.hn]]:=rfl
theorem B3(f:AV→M AV)(k:Int)(c1 c2:AV):ae (bo T 3 (.hp 0 0) (.int .i64 k)) f [[c1,c2]]=f (.tup []) [[.int .i64 k,c2]]:=rfl
theorem B4(f:AV→M AV)(c1 c2:AV):ae (aR T 72 (.hp 0 0)) f [[c1,c2]]=f (.agg [c1,c2]) [[c1,c2]]:=rfl
theorem fa0:aa T 72 (.hp 0 0) 0=some (.hp 0 0):=rfl
theorem fa1:aa T 72 (.hp 0 0) 1=some (.hp 0 1):=rfl
theorem yy:aM T true 72 []=some (.agg [.int .i64 0,.hn]):=rfl
theorem Aq:aM T false 72 []=some ty0.av:=rfl
theorem yz(k:Int):ao 2 [] (.agg [.int .i64 k,.hn])=M.pure (.agg [.int .i64 k,.hn]):=aY rfl
theorem yA(k:Int)(fs:List AV):ao 2 [] (.agg [.int .i64 k,.sl fs])=M.pure (.agg [.int .i64 k,.sl fs]):=aY rfl
theorem NJ(k:Int)(l n:Nat):ao 2 [] (.agg [.int .i64 k,.hs l 0 n 3 true])=M.pure (.agg [.int .i64 k,.hs l 0 n 3 true]):=aY rfl
theorem I0(n:Int):cn (.int .i64 n)=M.pure (.int .i64 n):=rfl
theorem GD:ty0.av= .agg [.int .i64 0,.sl []]:=rfl
theorem KR(f:AV→M AV)(t:Ty)(c1 c2:AV):ae (bo T 72 (.hp 0 0) t.av) f [[c1,c2]]=f (.tup []) [[.int .i64 t.kind,aK t.fields]]:=by
 rw[← eP];rfl
theorem cnt(t:Ty):ao 2 [] (.agg [.int .i64 t.kind,aK t.fields])=M.pure (.agg [.int .i64 t.kind,aK t.fields]):=aY rfl
def GR(h:Hp)(acc:List bP):Prop:=(acc=[]∧h[0]? = some [.int .i64 2,.hn])∨(acc≠[]∧∃ q,q≠0∧h[0]? = some [.int .i64 2,.hs q 0 acc.length 3 true]∧h[q]? = some (rowOf bF acc))
theorem Jd:(l:List bP)→(rowOf bF l).all aO=true
 | []=>rfl
 | f:: l=>by
  rw[jo,List.all_append,Jd l,Bool.and_true,df]
  rfl
theorem C4{h:Hp}{acc:List bP}(A:GR h acc)(hl:acc.length≤1000000)(f:bP):∃ sv rv h1 h2,aR T 23 (.hp 0 1) h= .ok sv h∧appH T 23 false sv (aK [f]) h= .ok rv h1∧bo T 23 (.hp 0 1) rv h1= .ok (.tup []) h2∧GR h2 (acc++[f]):=by
 have hfl:aK [f]= .sl [bF f]:=by rw[lJ];rfl
 have h0l:0 < h.length:=by
  rcases A with ⟨_,h0⟩ | ⟨_,q,_,h0,_⟩
  ·exact (List.getElem?_eq_some_iff.1 h0).1
  ·exact (List.getElem?_eq_some_iff.1 h0).1
 rcases A with ⟨rfl,h0⟩ | ⟨hne,q,hq0,h0,hq⟩
 ·have e1:aR T 23 (.hp 0 1) h= .ok .hn h:=mY rfl rfl h0 rfl
  have e2:=IV (T:=T) (t:=23) (e:=87) rfl rfl rfl (x:=bF f) (ir f) (by decide) (by decide) (by decide) h
  rw[← hfl] at e2
  have h0':(h++[ab (bF f)])[0]? = some [.int .i64 2,.hn]:=by rw[List.getElem?_append_left h0l];exact h0
  have e3:=vI (T:=T) (t:=23) rfl (k:=1) (v:=.hs h.length 0 1 3 true) h0' rfl (by decide) (by decide)
  refine⟨_,_,_,_,e1,e2,e3,.inr ⟨by simp,h.length,by omega,?_,?_⟩⟩
  ·rw[List.getElem?_set_self (by simp)];rfl
  ·rw[List.getElem?_set_ne (by omega),List.getElem?_append_right (Nat.le_refl _),Nat.sub_self]
   simp[rowOf]
 ·have e1:aR T 23 (.hp 0 1) h= .ok (.hs q 0 acc.length 3 true) h:=mY rfl rfl h0 rfl
  have hln:=fY (f:=bF) I4 acc
  have hpos:0 < acc.length:=List.length_pos_iff.2 hne
  have e2:=IX (T:=T) (t:=23) (e:=87) rfl rfl rfl (x:=bF f) (ir f) (by decide) (by decide) hq (Jd acc) hln hpos (show (acc.length + 1) * 48≤_ by omega)
  rw[← hfl] at e2
  have hql:q < h.length:=(List.getElem?_eq_some_iff.1 hq).1
  have h0':((h.set q [])++[rowOf bF acc++ab (bF f)])[0]? = some [.int .i64 2,.hs q 0 acc.length 3 true]:=by
   rw[List.getElem?_append_left (by simpa using h0l),List.getElem?_set_ne (by omega)];exact h0
  have e3:=vI (T:=T) (t:=23) rfl (k:=1) (v:=.hs h.length 0 (acc.length + 1) 3 true) h0' rfl (show 1 + 1≤2 by omega) (by decide)
  refine⟨_,_,_,_,e1,e2,e3,.inr ⟨by simp,h.length,by omega,?_,?_⟩⟩
  ·rw[List.getElem?_set_self (by simp),List.length_append];rfl
  ·rw[List.getElem?_set_ne (by omega),List.getElem?_append_right (by simp),List.length_set,Nat.sub_self]
   simp[rowOf]
theorem C3{h:Hp}{acc:List bP}(A:GR h acc):∃ v,aR T 72 (.hp 0 0) h= .ok v h∧ao 2 [] v=M.pure v∧(∃ c1 c2,v= .agg [c1,c2])∧ix 6 h (.tup [v,.int .i64 0])= .tup [(Ty.mk 2 acc).av,.int .i64 0]:=by
 have e:(Ty.mk 2 acc).av= .agg [.int .i64 2,aK acc]:=rfl
 rcases A with ⟨rfl,h0⟩ | ⟨hne,q,hq0,h0,hq⟩
 ·exact⟨.agg [.int .i64 2,.hn],FB (T:=T) (t:=72) rfl rfl h0 (show 0 + 2≤2 by omega),yz 2,⟨_,_,rfl⟩,rfl⟩
 ·refine⟨.agg [.int .i64 2,.hs q 0 acc.length 3 true],FB (T:=T) (t:=72) rfl rfl h0 (show 0 + 2≤2 by omega),NJ 2 q acc.length,⟨_,_,rfl⟩,?_⟩
  have hfr:=oG (f:=bF) I4 (fun x=>by rw[df,ij]) (fun x g=>ER g x) (by decide) hq 5
  rw[e,lJ,← hfr]
  rfl
theorem Hz(e:Exp)(l:List Ty)(x1 x2:AV)(hlen:l.length≤1000000)(hn:e.names.length=l.length):∀(n i:Nat)(h:Hp),l.length - i=n→i≤l.length→GR h ((e.names.zip l).take i)→
  ∃ v h',aj (L150_0 (ai pg) aj (K150_0 (ai pg) aj)) [.ip (ab e.av),.hp 0 0,.bool true,ib l,.int .i64 l.length,.int .i64 i,x1,x2] h= .ok v h'∧ix 6 h' v= .tup [(Ty.mk 2 (e.names.zip l)).av,.int .i64 0]:=by
 intro n
 induction n with
 | zero=>
  intro i h hi hle A
  have h1:¬ ((i:Int) < (l.length:Int)):=by omega
  have h2:(e.names.zip l).take i=e.names.zip l:=List.take_of_length_le (by rw[List.length_zip];omega)
  rw[h2] at A
  obtain⟨v,e1,e2,⟨c1,c2,rfl⟩,e3⟩:=C3 A
  refine⟨_,h,?_,e3⟩
  rw[FL150_0]
  simp only[L150_0,K150_0,aL,aS,bz,ar,h1,decide_false,aA,Bool.false_eq_true,if_false,dS,Bool.not_true]
  rw[aP e1]
  simp only[e2,aB,bY,aL,aS]
  rfl
 | succ n ih=>
  intro i h hi hle A
  have hlt:i < l.length:=by omega
  have hlt2:i < e.names.length:=by omega
  have h1:(i:Int) < (l.length:Int):=by omega
  have hw:IntKind.i64.wrap ((i:Int) + 1)=(i:Int) + 1:=bq (by omega)
  have hix:=pd (l:=l) (n:=(i:Int)) (by omega) h1
  rw[Int.toNat_natCast,getElem!_pos l i hlt] at hix
  have hix2:=sD (l:=e.names) (n:=(i:Int)) (by omega) (by omega)
  rw[Int.toNat_natCast,getElem!_pos e.names i hlt2] at hix2
  have ht:(e.names.zip l).take (i + 1)=(e.names.zip l).take i++[(e.names[i],l[i])]:=by
   rw[List.take_succ_eq_append_getElem (by rw[List.length_zip];omega),List.getElem_zip]
  obtain⟨sv,rv,h2,h3,e1,e2,e3,A3⟩:=C4 A (by rw[List.length_take,List.length_zip];omega) (e.names[i],l[i])
  rw[← ht] at A3
  obtain⟨v,h',e4,e5⟩:=ih (i + 1) h3 (by omega) (by omega) A3
  refine⟨v,h',?_,e5⟩
  have e4':aj (L150_0 (ai pg) aj (K150_0 (ai pg) aj)) [.ip (ab e.av),.hp 0 0,.bool true,ib l,.int .i64 l.length,.int .i64 ((i:Int) + 1),x1,x2] h3= .ok v h':=e4
  rw[← e4']
  generalize hcode:aj (L150_0 (ai pg) aj (K150_0 (ai pg) aj)) [.ip (ab e.av),.hp 0 0,.bool true,ib l,.int .i64 l.length,.int .i64 i,x1,x2] h=code
  rw[FL150_0] at hcode
  simp -implicitDefEqProofs only[L150_0,aL,aS,bz,ar,h1,decide_true,aA,if_true,hix,ej,LD72,List.length_cons,List.length_nil,Nat.zero_add,Nat.reduceAdd,Nat.le_refl,List.take_succ_cons,List.take_zero,eP,Av.gE,aB,fa1] at hcode
  rw[aP e1] at hcode
  simp -implicitDefEqProofs only[a7,FA74_4,ar,List.drop_succ_cons,List.drop_zero,LD22,hix2,gA,LD9,LD72,List.length_cons,List.length_nil,Nat.zero_add,Nat.reduceAdd,Nat.le_refl,if_true,List.take_succ_cons,List.take_zero,eP,uW,Mp] at hcode
  rw[aP e2] at hcode
  rw[aP e3] at hcode
  simp -implicitDefEqProofs only[cX,ar,hw] at hcode
  rw[← hcode,a7]
theorem fI(l:List Ty):ab (ib l)=[ib l]:=rfl
theorem t150 (e:Exp) (l:List Ty) (hl:∀ t∈l,eG t) (hlen:l.length≤1000000) (h11:e.op=11→l.length=3) (h14:e.op=14→l.length=1) (h13:e.op=13→e.names.length=l.length):ai pg 150 [e.av,ib l]=M.pure (match bO e l with | some t=>.tup [t.av,.int .i64 0] | none=>.tup [ty0.av,.int .i64 13]):=by
 have h0:=t225 0 l hlen
 have h1:=t225 1 l hlen
 rw[C150,yS,ET]
 have fin:∀ k:Int,ix 6 [[.int .i64 k,.hn]] (.tup [.agg [.int .i64 k,.hn],.int .i64 0])= .tup [(Ty.mk k []).av,.int .i64 0]:=fun k=>rfl
 have fin0:∀ h:Hp,ix 6 h (.tup [ty0.av,.int .i64 13])= .tup [ty0.av,.int .i64 13]:=fun h=>rfl
 have fins:∀(h:Hp)(t:Ty),ix 6 h (.tup [.agg [.int .i64 t.kind,aK t.fields],.int .i64 0])= .tup [t.av,.int .i64 0]:=fun h t=>by
  have hc:Ap.Clean (AV.tup [t.av,.int .i64 0]):=fun g=>by simp[cl,dL]
  rw[eP]
  exact hc.frz 6 h
 by_cases o3:e.op=3∨e.op=4∨e.op=5∨e.op=16
 ·have ep:bO e l=if jt 0 l=true then some (.mk 0 []) else none:=by unfold bO;rw[if_pos o3]
  rw[ep]
  cases hb:jt 0 l with
  | true=>
   rw[hb] at h0
   refine bX (v:=.tup [.agg [.int .i64 0,.hn],.int .i64 0]) (h':=[[.int .i64 0,.hn]]) ?_ (fin 0)
   rcases o3 with hop | hop | hop | hop <;> simp[S150,K150_0,K150_1,K150_2,yy,Aq,B1,B2,yv,B3,B4,fa0,hop,yz,yA,bw,fI,h0,h1] <;> rfl
  | false=>
   rw[hb] at h0
   refine bX (v:=.tup [ty0.av,.int .i64 13]) (h':=[[.int .i64 0,.hn]]) ?_ (fin0 _)
   rcases o3 with hop | hop | hop | hop <;> simp[S150,K150_0,K150_1,K150_2,yy,Aq,B1,B2,yv,B3,B4,fa0,hop,yz,yA,bw,fI,h0,h1] <;> rfl
 ·by_cases hop:e.op=1
  ·have ep:bO e l=some (.mk 1 []):=by unfold bO;rw[if_neg o3,if_pos hop]
   rw[ep]
   refine bX (v:=.tup [.agg [.int .i64 1,.hn],.int .i64 0]) (h':=[[.int .i64 1,.hn]]) ?_ (fin 1)
   simp[S150,K150_0,K150_1,K150_2,yy,Aq,B1,B2,yv,B3,B4,fa0,hop,yz,yA,bw,fI,h0,h1,I0]
   rfl
  ·by_cases hop6:e.op=6
   ·have hop:=hop6
    have ep:bO e l=if jt 0 l=true then some (.mk 1 []) else none:=by unfold bO;rw[if_neg o3,if_neg (by omega),if_pos hop6]
    rw[ep]
    cases hb:jt 0 l with
    | true=>
     rw[hb] at h0
     refine bX (v:=.tup [.agg [.int .i64 1,.hn],.int .i64 0]) (h':=[[.int .i64 1,.hn]]) ?_ (fin 1)
     simp[S150,K150_0,K150_1,K150_2,yy,Aq,B1,B2,yv,B3,B4,fa0,hop,yz,yA,bw,fI,h0,h1,I0]
     rfl
    | false=>
     rw[hb] at h0
     refine bX (v:=.tup [ty0.av,.int .i64 13]) (h':=[[.int .i64 1,.hn]]) ?_ (fin0 _)
     simp[S150,K150_0,K150_1,K150_2,yy,Aq,B1,B2,yv,B3,B4,fa0,hop,yz,yA,bw,fI,h0,h1,I0]
     rfl
   ·by_cases hop7:e.op=7
    ·have hop:=hop7
     have ep:bO e l=if (jt 0 l||jt 1 l)=true then some (.mk 1 []) else none:=by unfold bO;rw[if_neg o3,if_neg (by omega),if_neg hop6,if_pos hop7]
     rw[ep]
     cases hb:jt 0 l <;> cases hb1:jt 1 l <;> rw[hb] at h0 <;> rw[hb1] at h1
     ·refine bX (v:=.tup [ty0.av,.int .i64 13]) (h':=[[.int .i64 1,.hn]]) ?_ (fin0 _)
      simp[S150,K150_0,K150_1,K150_2,yy,Aq,B1,B2,yv,B3,B4,fa0,hop,yz,yA,bw,fI,h0,h1,I0]
      rfl
     all_goals
      refine bX (v:=.tup [.agg [.int .i64 1,.hn],.int .i64 0]) (h':=[[.int .i64 1,.hn]]) ?_ (fin 1)
      simp[S150,K150_0,K150_1,K150_2,yy,Aq,B1,B2,yv,B3,B4,fa0,hop,yz,yA,bw,fI,h0,h1,I0]
      rfl
    ·by_cases o8:e.op=8∨e.op=9∨e.op=10
     ·have ep:bO e l=if jt 1 l=true then some (.mk 1 []) else none:=by unfold bO;rw[if_neg o3,if_neg (by omega),if_neg hop6,if_neg hop7,if_pos o8]
      rw[ep]
      cases hb:jt 1 l with
      | true=>
       rw[hb] at h1
       refine bX (v:=.tup [.agg [.int .i64 1,.hn],.int .i64 0]) (h':=[[.int .i64 1,.hn]]) ?_ (fin 1)
       rcases o8 with hop | hop | hop <;> simp[S150,K150_0,K150_1,K150_2,yy,Aq,B1,B2,yv,B3,B4,fa0,hop,yz,yA,bw,fI,h0,h1,I0] <;> rfl
      | false=>
       rw[hb] at h1
       refine bX (v:=.tup [ty0.av,.int .i64 13]) (h':=[[.int .i64 1,.hn]]) ?_ (fin0 _)
       rcases o8 with hop | hop | hop <;> simp[S150,K150_0,K150_1,K150_2,yy,Aq,B1,B2,yv,B3,B4,fa0,hop,yz,yA,bw,fI,h0,h1,I0] <;> rfl
     ·by_cases hop11:e.op=11
      ·have hop:=hop11
       have ep:bO e l=(match sk l[1]! l[2]! with | some t=>if l[0]!.kind=1 then some t else none | none=>none):=by unfold bO;rw[if_neg o3,if_neg (by omega),if_neg hop6,if_neg hop7,if_neg o8,if_pos hop11];rfl
       rw[ep]
       obtain⟨a,b,c,rfl⟩:∃ a b c,l=[a,b,c]:=by
        have:=h11 hop
        match l,this with
        | [a,b,c],_=>exact⟨a,b,c,rfl⟩
       have i0:ak T 148 (ib [a,b,c]) (.int .i64 0)=some (.ip (ab a.av)):=pd (l:=[a,b,c]) (n:=0) (by omega) (by simp)
       have i1:ak T 148 (ib [a,b,c]) (.int .i64 1)=some (.ip (ab b.av)):=pd (l:=[a,b,c]) (n:=1) (by omega) (by simp)
       have i2:ak T 148 (ib [a,b,c]) (.int .i64 2)=some (.ip (ab c.av)):=pd (l:=[a,b,c]) (n:=2) (by omega) (by simp)
       have hu:=t227 b c (hl b (by simp)) (hl c (by simp))
       show aE _=M.pure (match (match sk b c with | some t=>if a.kind=1 then some t else none | none=>none) with | some t=>.tup [t.av,.int .i64 0] | none=>.tup [ty0.av,.int .i64 13])
       cases hub:sk b c with
       | none=>
        rw[hub] at hu
        refine bX (v:=.tup [ty0.av,.int .i64 13]) (h':=[[.int .i64 0,.sl []]]) ?_ (fin0 _)
        simp[S150,K150_0,K150_1,K150_2,yy,Aq,B1,B2,yv,B3,B4,fa0,hop,yz,yA,bw,fI,h0,h1,i0,i1,i2,hu,hub,KR,GD]
        rfl
       | some u=>
        rw[hub] at hu
        by_cases hk:a.kind=1
        ·dsimp only
         rw[if_pos hk]
         have hk':(a.kind== 1)=true:=beq_iff_eq.2 hk
         refine bX (v:=.tup [.agg [.int .i64 u.kind,aK u.fields],.int .i64 0]) (h':=[[.int .i64 u.kind,aK u.fields]]) ?_ (fins _ u)
         simp[S150,K150_0,K150_1,K150_2,yy,Aq,B1,B2,yv,B3,B4,fa0,hop,yz,yA,bw,fI,h0,h1,i0,i1,i2,hu,hub,KR,hk',cnt]
         rfl
        ·dsimp only
         rw[if_neg hk]
         have hk':(a.kind== 1)=false:=beq_eq_false_iff_ne.2 hk
         refine bX (v:=.tup [ty0.av,.int .i64 13]) (h':=[[.int .i64 u.kind,aK u.fields]]) ?_ (fin0 _)
         simp[S150,K150_0,K150_1,K150_2,yy,Aq,B1,B2,yv,B3,B4,fa0,hop,yz,yA,bw,fI,h0,h1,i0,i1,i2,hu,hub,KR,hk']
         rfl
      ·by_cases hop13:e.op=13
       ·have hop:=hop13
        have ep:bO e l=some (.mk 2 (e.names.zip l)):=by unfold bO;rw[if_neg o3,if_neg (by omega),if_neg hop6,if_neg hop7,if_neg o8,if_neg hop11,if_pos hop13]
        rw[ep]
        obtain⟨v,h',e1,e2⟩:=Hz e l (.int .i64 0) (.sl []) hlen (h13 hop) l.length 0 [[.int .i64 2,.hn]] rfl (Nat.zero_le _) (.inl ⟨rfl,rfl⟩)
        refine bX (v:=v) (h':=h') ?_ e2
        have e1':aj (L150_0 (ai pg) aj (K150_0 (ai pg) aj)) [.ip (ab e.av),.hp 0 0,.bool true,ib l,.int .i64 l.length,.int .i64 0,.int .i64 0,.sl []] [[.int .i64 2,.hn]]= .ok v h':=e1
        rw[a7,hop] at e1'
        simp[S150,K150_1,K150_2,yy,B1,yv,B3,fa0,hop,fI,I0]
        exact e1'
       ·by_cases hop14:e.op=14
        ·have hop:=hop14
         have ep:bO e l=(match bQ (fun z=>z.1== e.s) l[0]!.fields with | some z=>some z.2 | none=>none):=by unfold bO;rw[if_neg o3,if_neg (by omega),if_neg hop6,if_neg hop7,if_neg o8,if_neg hop11,if_neg hop13,if_pos hop14];rfl
         rw[ep]
         obtain⟨a,rfl⟩:∃ a,l=[a]:=by
          have:=h14 hop
          match l,this with
          | [a],_=>exact⟨a,rfl⟩
         have i0:ak T 148 (ib [a]) (.int .i64 0)=some (.ip (ab a.av)):=pd (l:=[a]) (n:=0) (by omega) (by simp)
         have hk:=t145 a.fields (hl a (by simp)).len e.s
         show aE _=M.pure (match (match bQ (fun z=>z.1== e.s) a.fields with | some z=>some z.2 | none=>none) with | some t=>.tup [t.av,.int .i64 0] | none=>.tup [ty0.av,.int .i64 13])
         cases hz:bQ (fun z:bP=>z.1== e.s) a.fields with
         | none=>
          rw[hz] at hk
          refine bX (v:=.tup [ty0.av,.int .i64 13]) (h':=[[.int .i64 0,.sl []]]) ?_ (fin0 _)
          simp[S150,K150_0,K150_1,K150_2,yy,Aq,B1,B2,yv,B3,B4,fa0,hop,yz,yA,bw,fI,h0,h1,i0,hk,KR,GD]
          rfl
         | some z=>
          rw[hz] at hk
          refine bX (v:=.tup [.agg [.int .i64 z.2.kind,aK z.2.fields],.int .i64 0]) (h':=[[.int .i64 z.2.kind,aK z.2.fields]]) ?_ (fins _ z.2)
          simp[S150,K150_0,K150_1,K150_2,yy,Aq,B1,B2,yv,B3,B4,fa0,hop,yz,yA,bw,fI,h0,h1,i0,hk,KR,cnt]
          rfl
        ·have ep:bO e l=some (.mk 0 []):=by unfold bO;rw[if_neg o3,if_neg (by omega),if_neg hop6,if_neg hop7,if_neg o8,if_neg hop11,if_neg hop13,if_neg hop14]
         rw[ep]
         refine bX (v:=.tup [.agg [.int .i64 0,.hn],.int .i64 0]) (h':=[[.int .i64 0,.hn]]) ?_ (fin 0)
         have n3:(e.op== 3)=false:=beq_eq_false_iff_ne.2 (by omega)
         have n4:(e.op== 4)=false:=beq_eq_false_iff_ne.2 (by omega)
         have n5:(e.op== 5)=false:=beq_eq_false_iff_ne.2 (by omega)
         have n16:(e.op== 16)=false:=beq_eq_false_iff_ne.2 (by omega)
         have n1:(e.op== 1)=false:=beq_eq_false_iff_ne.2 (by omega)
         have n6:(e.op== 6)=false:=beq_eq_false_iff_ne.2 (by omega)
         have n7:(e.op== 7)=false:=beq_eq_false_iff_ne.2 (by omega)
         have n8:(e.op== 8)=false:=beq_eq_false_iff_ne.2 (by omega)
         have n9:(e.op== 9)=false:=beq_eq_false_iff_ne.2 (by omega)
         have n10:(e.op== 10)=false:=beq_eq_false_iff_ne.2 (by omega)
         have n11:(e.op== 11)=false:=beq_eq_false_iff_ne.2 (by omega)
         have n13:(e.op== 13)=false:=beq_eq_false_iff_ne.2 (by omega)
         have n14:(e.op== 14)=false:=beq_eq_false_iff_ne.2 (by omega)
         simp[S150,K150_0,K150_1,K150_2,yy,B1,yv,B4,yz,n3,n4,n5,n16,n1,n6,n7,n8,n9,n10,n11,n13,n14]
         rfl
theorem Ga(f:AV)(F:Fun→Bool)(l:List Fun)(hb:l.length≤4611686018427387904)(hf:∀ x∈l,bw (ai pg) f [Fun.av x]=M.pure (.bool (F x))):∀(n:Nat)(i:Int),l.length - i.toNat=n→0≤i→i≤l.length→
  aj (L203_0 (ai pg) aj) [eW l,f,.int .i64 l.length,.int .i64 i]=M.pure (.int .i64 (aZ F (l.drop i.toNat) i)):=by
 intro n
 induction n with
 | zero=>
  intro i hn hi hl
  rw[FL203_0]
  simp only[L203_0]
  have h1:¬ (i < (l.length:Int)):=by omega
  have h2:l.drop i.toNat=[]:=List.drop_eq_nil_of_le (by omega)
  simp[h1,h2,aZ]
 | succ n ih=>
  intro i hn hi hl
  have h1:i < (l.length:Int):=by omega
  have hlt:i.toNat < l.length:=by omega
  have h2:aZ F (l.drop i.toNat) i=if F l[i.toNat]=true then i else aZ F (l.drop (i.toNat + 1)) (i + 1):=by rw[List.drop_eq_getElem_cons hlt];rfl
  have h3:=hf l[i.toNat] (List.getElem_mem hlt)
  have h4:=ih (i + 1) (by omega) (by omega) (by omega)
  rw[show (i + 1).toNat=i.toNat + 1 by omega] at h4
  rw[FL203_0]
  simp only[L203_0]
  simp (disch:=omega) [h1,aV,sE,h3,h2]
  cases F l[i.toNat]
  ·simpa using h4
  ·simp
theorem Nl(f:AV)(F:Fun→Bool)(l:List Fun)(hb:l.length≤4611686018427387904)(hc:∀ g,cl g f=f)(hf:∀ x∈l,bw (ai pg) f [Fun.av x]=M.pure (.bool (F x))):ai pg 203 [eW l,f]=M.pure (.int .i64 (aZ F l 0)):=by
 rw[C203]
 simp[S203,hc,Ga f F l hb hf l.length 0 rfl (by omega) (by omega)]
theorem Gb(s:aU)(l:List aU)(hb:l.length≤4611686018427387904):∀(n:Nat)(i:Int),l.length - i.toNat=n→0≤i→i≤l.length→
  aj (L269_0 (ai pg) aj) [strs l,.str s,.int .i64 l.length,.int .i64 i]=M.pure (.int .i64 (aZ (fun x=>s== x) (l.drop i.toNat) i)):=by
 intro n
 induction n with
 | zero=>
  intro i hn hi hl
  rw[FL269_0]
  simp only[L269_0]
  have h1:¬ (i < (l.length:Int)):=by omega
  have h2:l.drop i.toNat=[]:=List.drop_eq_nil_of_le (by omega)
  simp[h1,h2,aZ]
 | succ n ih=>
  intro i hn hi hl
  have h1:i < (l.length:Int):=by omega
  have hlt:i.toNat < l.length:=by omega
  have h2:aZ (fun x=>s== x) (l.drop i.toNat) i=if (s== l[i.toNat])=true then i else aZ (fun x=>s== x) (l.drop (i.toNat + 1)) (i + 1):=by rw[List.drop_eq_getElem_cons hlt];rfl
  have h4:=ih (i + 1) (by omega) (by omega) (by omega)
  rw[show (i + 1).toNat=i.toNat + 1 by omega] at h4
  rw[FL269_0,h2]
  simp only[L269_0]
  have hix:=sD (l:=l) (n:=i) hi h1
  rw[getElem!_pos l i.toNat hlt] at hix
  generalize l[i.toNat]=x at hix ⊢
  cases hx:s== x
  ·have hw:IntKind.i64.wrap (i + 1)=i + 1:=aV (by omega) (by omega)
   simp only[aL,aS,bz,ar,h1,decide_true,aA,if_true,hix,gA,LD9,vJ,hx,Bool.false_eq_true,if_false,cX,hw,h4]
  ·simp only[aL,aS,bz,ar,h1,decide_true,aA,if_true,hix,gA,LD9,vJ,hx]
theorem Np(s:aU)(l:List aU)(hb:l.length≤4611686018427387904):ai pg 269 [strs l,.str s]=M.pure (.int .i64 (aZ (fun x=>s== x) l 0)):=by
 have h:=Gb s l hb l.length 0 rfl (by omega) (by omega)
 rw[C269]
 have h':aj (L269_0 (ai pg) aj) [strs l,.str s,.int .i64 l.length,.int .i64 0]=M.pure (.int .i64 (aZ (fun x=>s== x) l 0)):=h
 simp only[S269,mg,yV,qu,ar,h',Fu]
theorem Nm(s:aU)(l:List aU)(hb:l.length≤4611686018427387904):ai pg 209 [strs l,.str s]=M.pure (.bool (l.contains s)):=by
 rw[C209]
 have e:l.any (fun x=>s== x)=l.contains s:=by rw[List.contains_eq_any_beq]
 simp only[S209,mg,yV,Np s l hb,aB,kE,ar,kf,e,iU]
def bh(m:Ap.Mod)(mp:AV)(n:Int):List AV:=[.str m.name,strs m.uses,aK m.vars,cb m.init,eW m.funcs,.bool m.moves,aK m.old,cb m.forward,cb m.back,mp,.int .i64 n]
def cC(fs:List Face):List AV:=fs.map fun f=>.tup [.str f.module,f.av]
def Nv(h:Hp)(mp:AV)(fs:List Face):Prop:=(mp= .nilm∧fs=[])∨∃ l,mp= .mp l∧h[l]? = some [.tup (cC fs)]
structure JR (h:Hp) (q:Nat) (m:Ap.Mod) (mp:AV) (fs:List Face) (n:Int):Prop where
 row:h[q]? = some (bh m mp n)
 map:Nv h mp fs
 ne:mp≠.mp q
theorem JR.set{h:Hp}{q:Nat}{m:Ap.Mod}{mp:AV}{fs:List Face}{n:Int}(R:JR h q m mp fs n)(n':Int):JR (h.set q (bh m mp n')) q m mp fs n':=by
 have hl:=(List.getElem?_eq_some_iff.1 R.row).1
 refine⟨List.getElem?_set_self hl,?_,R.ne⟩
 rcases R.map with h1 | ⟨l,h1,h2⟩
 ·exact .inl h1
 ·refine .inr ⟨l,h1,?_⟩
  rw[List.getElem?_set_ne (fun e=>R.ne (by rw[h1,e]))]
  exact h2
theorem JR.same{h:Hp}{q:Nat}{m:Ap.Mod}{mp:AV}{fs:List Face}{n:Int}(R:JR h q m mp fs n):h.set q (bh m mp n)=h:=by
 obtain⟨hl,e⟩:=List.getElem?_eq_some_iff.1 R.row
 rw[← e]
 exact List.set_getElem_self hl
theorem JR.twice{h:Hp}{q:Nat}{m:Ap.Mod}{mp:AV}(a b:Int):(h.set q (bh m mp a)).set q (bh m mp b)=h.set q (bh m mp b):=List.set_set ..
theorem JR.vars{h:Hp}{q:Nat}{m:Ap.Mod}{mp:AV}{fs:List Face}{n:Int}(R:JR h q m mp fs n):aR T 23 (.hp q 2) h= .ok (aK m.vars) h:=mY rfl rfl R.row rfl
theorem JR.funcs{h:Hp}{q:Nat}{m:Ap.Mod}{mp:AV}{fs:List Face}{n:Int}(R:JR h q m mp fs n):aR T 25 (.hp q 4) h= .ok (eW m.funcs) h:=mY rfl rfl R.row rfl
theorem JR.uses{h:Hp}{q:Nat}{m:Ap.Mod}{mp:AV}{fs:List Face}{n:Int}(R:JR h q m mp fs n):aR T 22 (.hp q 1) h= .ok (strs m.uses) h:=mY rfl rfl R.row rfl
theorem JR.mp{h:Hp}{q:Nat}{m:Ap.Mod}{mp:AV}{fs:List Face}{n:Int}(R:JR h q m mp fs n):aR T 118 (.hp q 9) h= .ok mp h:=mY rfl rfl R.row rfl
theorem JR.eff{h:Hp}{q:Nat}{m:Ap.Mod}{mp:AV}{fs:List Face}{n:Int}(R:JR h q m mp fs n):aR T 3 (.hp q 10) h= .ok (.int .i64 n) h:=mY rfl rfl R.row rfl
theorem JR.put{h:Hp}{q:Nat}{m:Ap.Mod}{mp:AV}{fs:List Face}{n:Int}(R:JR h q m mp fs n)(n':Int):bo T 3 (.hp q 10) (.int .i64 n') h= .ok (.tup []) (h.set q (bh m mp n')):=
 vI (T:=T) (t:=3) rfl (v:=.int .i64 n') R.row rfl (show 10 + 1≤11 by omega) (by decide)
theorem NK(a b:aU):BO T 20 9 (.str a) (.str b)=some (a== b):=rfl
theorem qX(s:aU):(fs:List Face)→(i:Nat)→(fs.find? (fun f=>f.module== s)=none∧fF T 9 (.str s) (cC fs) i=some none)∨∃ f j k,fs.find? (fun f=>f.module== s)=some f∧fF T 9 (.str s) (cC fs) i=some (some (j,k,f.av))
 | [],i=>.inl ⟨rfl,rfl⟩
 | x:: fs,i=>by
  show (_∧fF T 9 (.str s) (.tup [.str x.module,x.av]:: cC fs) i=_)∨∃ f j k,_∧fF T 9 (.str s) (.tup [.str x.module,x.av]:: cC fs) i=_
  unfold fF
  rw[NK,List.find?_cons]
  have hc:(s== x.module)=(x.module== s):=Bool.eq_iff_iff.2 ⟨fun h=>beq_iff_eq.2 (beq_iff_eq.1 h).symm,fun h=>beq_iff_eq.2 (beq_iff_eq.1 h).symm⟩
  rw[hc]
  cases hx:x.module== s with
  | true=>exact .inr ⟨x,i,.str x.module,rfl,rfl⟩
  | false=>exact qX s fs (i + 1)
def iF:Face:=⟨[],[]⟩
theorem oP{h:Hp}{mp:AV}{fs:List Face}(M:Nv h mp fs)(s:aU):fw T 118 mp (.str s) true h= .ok (.tup [((fs.find? fun f=>f.module== s).getD iF).av,.bool (fs.find? fun f=>f.module== s).isSome]) h:=by
 have e:∀ es:List AV,pI T 118 es (.str s) true=(match fF T 9 (.str s) es 0 with
   | some (some (_,_,v))=>some (.tup [v,.bool true])
   | some none=>some (.tup [iF.av,.bool false])
   | none=>none):=fun es=>rfl
 rcases M with ⟨rfl,rfl⟩ | ⟨l,rfl,hl⟩
 ·unfold fw lG
  simp only
  rw[e]
  rfl
 ·unfold fw lG
  simp only[hl]
  rw[e]
  rcases qX s fs 0 with ⟨h1,h2⟩ | ⟨f,j,k,h1,h2⟩
  ·rw[h1,h2];rfl
  ·rw[h1,h2];rfl
theorem Nq(f:Fun)(e:Exp):ai pg 289 [f.av,.ip (ab e.av)]=M.pure (.bool (f.name== e.s)):=by
 rw[C289]
 simp[S289,cl,dL]
theorem Nr(f:Sig)(e:Exp):ai pg 291 [f.av,.ip (ab e.av)]=M.pure (.bool (f.name== e.s)):=by
 rw[C291]
 simp[S291,cl,dL]
structure CxOk (m:Ap.Mod) (fs:List Face):Prop where
 vlen:m.vars.length≤1000000
 vars:∀ z∈m.vars,bN z.2=true
 flen:m.funcs.length≤1000000
 ulen:m.uses.length≤1000000
 plen:∀ f∈m.funcs,f.params.length≤1000000
 pars:∀ f∈m.funcs,∀ z∈f.params,bN z.2=true
 res:∀ f∈m.funcs,bN f.result=true
 slen:∀ f∈fs,f.funcs.length≤140737488355328
 splen:∀ f∈fs,∀ s∈f.funcs,s.params.length≤140737488355328
 spars:∀ f∈fs,∀ s∈f.funcs,∀ t∈s.params,bN t=true
 sres:∀ f∈fs,∀ s∈f.funcs,bN s.result=true
def eA(m:Ap.Mod)(fs:List Face):Tcx:=⟨m.vars,m.funcs,m.uses,fun s=>fs.find? fun f=>f.module== s⟩
def CO:Sig:=⟨[],[],ty0,0⟩
theorem sU(l:List bP)(hl:l.length≤1000000)(x3 x4 x5 x6 x7:AV)(k:Int)(fs:List bP)(e:Int):∀(n i:Nat)(acc:List Ty),l.length - i=n→i≤l.length→acc.length≤i→
  aj (L224_0 (ai pg) aj) [aK l,.int .i64 l.length,.int .i64 i,x3,x4,x5,x6,x7,.str [],ib acc,.int .i64 k,aK fs,.int .i64 e]=M.pure (.tup [(Sig.mk [] (acc++(l.drop i).map (·.2)) (.mk k fs) e).av,.bool true]):=by
 intro n
 induction n with
 | zero=>
  intro i acc hn hi ha
  have h1:¬ ((i:Int) < (l.length:Int)):=by omega
  have h2:l.drop i=[]:=List.drop_eq_nil_of_le (by omega)
  have h3:ao 5 [] (.agg [.str [],ib acc,.int .i64 k,aK fs,.int .i64 e])=M.pure (.agg [.str [],ib acc,.int .i64 k,aK fs,.int .i64 e]):=aY rfl
  rw[FL224_0,h2]
  simp[L224_0,h1,h3]
  rfl
 | succ n ih=>
  intro i acc hn hi ha
  have hlt:i < l.length:=by omega
  have h1:(i:Int) < (l.length:Int):=by omega
  have h2:l.drop i=l[i]:: l.drop (i + 1):=List.drop_eq_getElem_cons hlt
  have hw:IntKind.i64.wrap ((i:Int) + 1)=(i:Int) + 1:=bq (by omega)
  have hix:=mD (l:=l) (n:=(i:Int)) (by omega) h1
  rw[Int.toNat_natCast,getElem!_pos l i hlt] at hix
  have ih2:∀ acc:List Ty,acc.length≤i + 1→aj (L224_0 (ai pg) aj) [aK l,.int .i64 l.length,.int .i64 ((i:Int) + 1),x3,x4,x5,x6,x7,.str [],ib acc,.int .i64 k,aK fs,.int .i64 e]=M.pure (.tup [(Sig.mk [] (acc++(l.drop (i + 1)).map (·.2)) (.mk k fs) e).av,.bool true]):=fun acc ha=>ih (i + 1) acc (by omega) (by omega) ha
  have ih':=ih2 (acc++[l[i].2]) (by simp;omega)
  have hap:=CZ (a:=acc) (b:=[l[i].2]) (by simp;omega)
  rw[FL224_0,h2]
  generalize l[i]=f at hix hap ih' ⊢
  have hsl:aI T 148 1 [(0,f.2.av)]=some (ib [f.2]):=by cases f.2;rfl
  have hc1:∀ l:List Ty,cn (ib l)=M.pure (ib l):=fun l=>rfl
  simp[L224_0,h1,hix,hsl,hap,hc1,hw,ih']
theorem Nn{h:Hp}{q:Nat}{m:Ap.Mod}{mp:AV}{fs:List Face}{n:Int}(R:JR h q m mp fs n)(K:CxOk m fs)(e:Exp):∃ r,ai pg 224 [.hp q 0,e.av] h= .ok r h∧(match cY (eA m fs) e with
  | none=>r= .tup [CO.av,.bool false]
  | some s=>∃ nm,r= .tup [(Sig.mk nm s.1 s.2.1 s.2.2).av,.bool true]):=by
 have bs0:aM T false 150 []=some CO.av:=rfl
 have bs1:∀(k:Int)(x:List bP)(f:Int),aM T true 150 [(2,(Ty.mk k x).av),(3,.int .i64 f)]=some (.agg [.str [],.hn,.int .i64 k,aK x,.int .i64 f]):=fun k x f=>rfl
 have bs2:∀(k:Int)(x:List bP)(f:Int),ao 5 [1] (.agg [.str [],.hn,.int .i64 k,aK x,.int .i64 f])=M.pure (.agg [.str [],.hn,.int .i64 k,aK x,.int .i64 f]):=fun k x f=>rfl
 have nc:a8 (.hp q 0)=some (.hp q 0):=rfl
 rw[C224]
 by_cases hm:e.m=[]
 ·have hm':(e.m== [])=true:=beq_iff_eq.2 hm
  have h1:=Nl (.fn (.func 289) [] [.ip (ab e.av)]) (fun f=>f.name== e.s) m.funcs (by have:=K.flen;omega) (fun g=>by simp[cl,dL]) (fun f _=>Nq f e)
  simp only[a7] at h1
  have l1:∀ f:AV→M AV,ae (aR T 25 (.hp q 4)) f h=f (eW m.funcs) h:=fun f=>aP R.funcs f
  unfold cY
  rw[if_pos hm]
  simp only[eA]
  rcases mW (fun f:Fun=>f.name== e.s) m.funcs 0 with ⟨h2,h3⟩ | ⟨k,f,h2,h3,h4⟩
  ·rw[h3] at h1
   rw[h2]
   refine⟨_,?_,rfl⟩
   simp[S224,hm',l1,h1,bs0]
   rfl
  ·rw[Int.zero_add] at h4
   rw[h4] at h1
   rw[h2]
   have hk:=(List.getElem?_eq_some_iff.1 h3).1
   have hix:=sE (l:=m.funcs) (n:=(k:Int)) (by omega) (by omega)
   rw[Int.toNat_natCast,List.getElem!_eq_getElem?_getD,h3,Option.getD_some] at hix
   have hneg:¬ ((k:Int) < 0):=by omega
   have hmem:=List.mem_of_getElem? h3
   have hlp:=sU f.params (K.plen f hmem) (.str []) (.sl []) (.int .i64 0) (.sl []) (.int .i64 0) f.result.kind f.result.fields f.effects f.params.length 0 [] rfl (Nat.zero_le _) (Nat.zero_le _)
   have hlp':aj (L224_0 (ai pg) aj) [aK f.params,.int .i64 f.params.length,.int .i64 0,.str [],.sl [],.int .i64 0,.sl [],.int .i64 0,.str [],.sl [],.int .i64 f.result.kind,aK f.result.fields,.int .i64 f.effects]=M.pure (.tup [(Sig.mk [] (f.params.map (·.2)) f.result f.effects).av,.bool true]):=by
    rw[Ty.eta] at hlp
    exact hlp
   have bs1':aM T true 150 [(2,f.result.av),(3,.int .i64 f.effects)]=some (.agg [.str [],.hn,.int .i64 f.result.kind,aK f.result.fields,.int .i64 f.effects]):=by
    rw[← Ty.eta f.result];rfl
   refine⟨_,?_,[],rfl⟩
   simp[S224,hm',l1,h1,hneg,hix,bs1',bs2,hlp']
   rfl
 ·have hm':(e.m== [])=false:=beq_eq_false_iff_ne.2 hm
  have l1:∀ f:AV→M AV,ae (aR T 118 (.hp q 9)) f h=f mp h:=fun f=>aP R.mp f
  have l2:∀ f:AV→M AV,ae (fw T 118 mp (.str e.m) true) f h=f (.tup [((fs.find? fun f=>f.module== e.m).getD iF).av,.bool (fs.find? fun f=>f.module== e.m).isSome]) h:=fun f=>aP (oP R.map e.m) f
  have l4:∀(g:AV→M (List AV))(f:List AV→M AV),ae (ae (aR T 22 (.hp q 1)) g) f h=ae (g (strs m.uses)) f h:=fun g f=>by simp only[ae,R.uses]
  have cmf:∀ f:Face,aH 2 f.av=M.pure f.av:=fun f=>by rw[ba (oT f),lz,tC]
  have hct:=Nm e.m m.uses (by have:=K.ulen;omega)
  cases hf:fs.find? (fun f=>f.module== e.m) with
  | none=>
   rw[hf] at l2
   have hix:=t290 (.fn (.func 291) [] [.ip (ab e.av)]) (fun f=>f.name== e.s) iF.funcs (by simp[iF]) (fun g=>by simp[cl,dL]) (fun f hf=>by cases hf)
   have hix':ai pg 290 [sigs iF.funcs,.fn (.func 291) [] [.ip [.int .i64 e.op,.int .i64 e.n,.str e.s,.str e.m,strs e.names,cb e.args]]]=M.pure (.int .i64 (-1)):=by
    have:=hix
    simp only[a7] at this
    exact this
   have z1:aH 2 iF.av=M.pure (.agg [.str [],.sl []]):=rfl
   have ec:cY (eA m fs) e=none:=by simp[cY,eA,hm,hf]
   rw[ec]
   refine⟨_,?_,rfl⟩
   simp[S224,hm',l1,l2,z1,hix',bs0]
   rfl
  | some f=>
   rw[hf] at l2
   have hfm:=List.mem_of_find?_eq_some hf
   have h1:=t290 (.fn (.func 291) [] [.ip (ab e.av)]) (fun f=>f.name== e.s) f.funcs (by have:=K.slen f hfm;omega) (fun g=>by simp[cl,dL]) (fun f _=>Nr f e)
   simp only[a7] at h1
   rcases mW (fun f:Sig=>f.name== e.s) f.funcs 0 with ⟨h2,h3⟩ | ⟨k,s,h2,h3,h4⟩
   ·rw[h3] at h1
    have ec:cY (eA m fs) e=none:=by simp[cY,eA,hm,hf,h2]
    rw[ec]
    refine⟨_,?_,rfl⟩
    simp[S224,hm',l1,l2,cmf,h1,bs0]
    rfl
   ·rw[Int.zero_add] at h4
    rw[h4] at h1
    have hk:=(List.getElem?_eq_some_iff.1 h3).1
    have hix:=Jj (l:=f.funcs) (n:=(k:Int)) (by omega) (by omega)
    rw[Int.toNat_natCast,List.getElem!_eq_getElem?_getD,h3,Option.getD_some] at hix
    have hneg:¬ ((k:Int) < 0):=by omega
    by_cases hu:e.m∈m.uses
    case neg=>
     have hu':m.uses.contains e.m=false:=by rw[← Bool.not_eq_true,List.contains_iff_mem];exact hu
     rw[hu'] at hct
     have ec:cY (eA m fs) e=none:=by simp[cY,eA,hm,hf,h2,hu]
     rw[ec]
     refine⟨_,?_,rfl⟩
     simp[S224,hm',l1,l2,l4,cmf,h1,hneg,hct,bs0]
     rfl
    case pos=>
     rw[List.contains_iff_mem.2 hu] at hct
     have ec:cY (eA m fs) e=some (s.params,s.result,s.effects):=by simp[cY,eA,hm,hf,h2,hu]
     rw[ec]
     have yA:ao 5 [] s.av=M.pure s.av:=uF s
     refine⟨_,?_,s.name,rfl⟩
     simp[S224,hm',l1,l2,l4,cmf,h1,hneg,hct,hix,yA]
     rfl
theorem E7(k:Int)(es:List Exp):aM T false 74 [(0,.int .i64 k),(5,cb es)]=some (Exp.mk k 0 [] [] [] es).av:=rfl
theorem uK(e:Exp):aH 6 e.av=M.pure e.av:=by rw[ba (iq _),a7,f8]
theorem EW(e:Exp):ao 6 [] e.av=M.pure e.av:=by rw[aY (iq _),a7,f8]
theorem f6(o n:Int)(s m:aU)(ns:List aU)(es:List Exp):AV.agg [.int .i64 o,.int .i64 n,.str s,.str m,strs ns,cb es]=(Exp.mk o n s m ns es).av:=f8 (Exp.mk o n s m ns es)
theorem Nw(o n:Int)(s m:aU)(es:List Exp):AV.agg [.int .i64 o,.int .i64 n,.str s,.str m,.sl [],cb es]=(Exp.mk o n s m [] es).av:=f8 (Exp.mk o n s m [] es)
theorem AL(e:Exp)(n:Int):aE (M.pure (.tup [e.av,.int .i64 n]))=M.pure (.tup [e.av,.int .i64 n]):=bM fun g=>by simp[cl,dL]
theorem cJ(o n:Int)(s m:aU)(ns:List aU)(es:List Exp):ab (Exp.mk o n s m ns es).av=[.int .i64 o,.int .i64 n,.str s,.str m,strs ns,cb es]:=a7 _
theorem t234(e:Exp):ai pg 234 [e.av]=M.pure (.tup [(fK e).1.av,.int .i64 (fK e).2]):=by
 have hc1:∀ n:Int,cn (.int .i64 n)=M.pure (.int .i64 n):=fun n=>rfl
 have hc2:∀ s:aU,cn (.str s)=M.pure (.str s):=fun s=>rfl
 have hc3:∀ s:List aU,cn (strs s)=M.pure (strs s):=fun s=>rfl
 rw[C234]
 obtain⟨o,n,s,m,ns,es⟩:=e
 have ho:o=0∨o=1∨o=2∨o=17∨o=18∨o=14∨o=16∨o=10∨o=12∨o=11∨o=13∨o=15∨(o≠0∧o≠1∧o≠2∧o≠17∧o≠18∧o≠14∧o≠16∧o≠10∧o≠12∧o≠11∧o≠13∧o≠15):=by omega
 rcases ho with rfl | rfl | rfl | rfl | rfl | rfl | rfl | rfl | rfl | rfl | rfl | rfl | ⟨h0,h1,h2,h17,h18,h14,h16,h10,h12,h11,h13,h15⟩
 all_goals first
  | (simp[S234,K234_0,K234_1,K234_2,E7,EW,cJ,f6,Nw,hc1,hc2,hc3,fK,Exp.op,Exp.n,Exp.s,Exp.m,Exp.names,Exp.args]
     exact AL _ _)
  | (simp[S234,K234_0,K234_1,K234_2,E7,EW,cJ,f6,Nw,hc1,hc2,hc3,fK,Exp.op,Exp.n,Exp.s,Exp.m,Exp.names,Exp.args,h0,h1,h2,h17,h18,h14,h16,h10,h12,h11,h13,h15]
     exact AL _ _)
theorem FP(e:Exp)(he:e.Lim):aj (L235_0 (ai pg) aj) [.ip (ab e.av),strs e.names,.int .i64 e.names.length,.int .i64 0]=M.pure (.bool (rI e.names)):=by
 have hlen:=he.names
 have hloop:∀(m i:Nat),e.names.length - i=m→i≤e.names.length→aj (L235_0 (ai pg) aj) [.ip (ab e.av),strs e.names,.int .i64 e.names.length,.int .i64 i]=M.pure (.bool ((List.range' i (e.names.length - i)).all (fun k=>de e.names[k]! && (decide (k=0)||eI e.names[k - 1]! e.names[k]!))&&decide (e.names.length≤8))):=by
  intro m
  induction m with
  | zero=>
   intro i hm hi
   rw[FL235_0,hm]
   have h1:¬ ((i:Int) < (e.names.length:Int)):=by omega
   have h2:decide ((e.names.length:Int)≤8)=decide (e.names.length≤8):=by rw[decide_eq_decide];omega
   simp[L235_0,h1,h2]
  | succ m ih=>
   intro i hm hi
   have hlt:i < e.names.length:=by omega
   have h1:(i:Int) < (e.names.length:Int):=by omega
   have ih':=ih (i + 1) (by omega) (by omega)
   have er:List.range' i (e.names.length - i)=i:: List.range' (i + 1) (e.names.length - (i + 1)):=by
    rw[show e.names.length - i=(e.names.length - (i + 1)) + 1 by omega,List.range'_succ]
   have hix:=sD (l:=e.names) (n:=(i:Int)) (by omega) h1
   rw[Int.toNat_natCast] at hix
   have hw:IntKind.i64.wrap ((i:Int) + 1)=((i + 1:Nat):Int):=bq (by omega)
   have h2:=t53 e.names[i]!
   rw[FL235_0,er,List.all_cons]
   generalize e.names[i]! = s at hix h2 ⊢
   cases hn:de s with
   | false=>
    rw[hn] at h2
    simp[L235_0,h1,hix,h2]
   | true=>
    rw[hn] at h2
    rcases Nat.eq_zero_or_pos i with hk0 | hk0
    ·subst hk0
     have hix0:ak T 22 (strs e.names) (.int .i64 0)=some (.ip (ab (.str s))):=hix
     have hw0:IntKind.i64.wrap 1=1:=rfl
     have hlt':0 < e.names.length:=hlt
     simpa [L235_0,h1,hlt',hix0,h2,hw0] using ih'
    ·have hp:IntKind.i64.wrap ((i:Int) - 1)=((i - 1:Nat):Int):=by
      rw[aV (by omega) (by omega)];omega
     have h4:((i - 1:Nat):Int) < (e.names.length:Int):=by omega
     have hix2:=sD (l:=e.names) (n:=((i - 1:Nat):Int)) (by omega) h4
     rw[Int.toNat_natCast] at hix2
     generalize e.names[i - 1]! = g at hix2 ⊢
     have hk2:0 < (i:Int):=by omega
     have hk3:¬ i=0:=by omega
     have hle:am T .leq 9 (.str s) (.str g)=some (.bool (!(eI g s))):=by
      have:am T .leq 9 (.str s) (.str g)=some (.bool (aT s g||s== g)):=rfl
      rw[this];simp[eI]
     cases hs:eI g s with
     | false=>
      rw[hs] at hle
      simp[L235_0,h1,hix,h2,hp,hix2,hk0,hk2,hk3,hle,-Bh]
     | true=>
      rw[hs] at hle
      simpa [L235_0,h1,hix,h2,hp,hix2,hk0,hk2,hk3,hle,hw,-Bh] using ih'
 have h:=hloop e.names.length 0 rfl (Nat.zero_le _)
 rw[Nat.sub_zero,Ao] at h
 exact h
theorem t235(e:Exp)(he:e.Lim):ai pg 235 [e.av]=M.pure (.bool (fU e)):=by
 rw[C235]
 have hs:=t53 e.s
 have hm:=t53 e.m
 have hbn:=FP e he
 obtain⟨o,n,s,m,ns,es⟩:=e
 simp only[cJ,Exp.names] at hbn
 simp only[Exp.s,Exp.m] at hs hm
 have ho:o=0∨o=1∨o=2∨o=17∨o=18∨o=14∨o=16∨o=12∨o=13∨o=15∨(o≠0∧o≠1∧o≠2∧o≠17∧o≠18∧o≠14∧o≠16∧o≠12∧o≠13∧o≠15):=by omega
 rcases ho with rfl | rfl | rfl | rfl | rfl | rfl | rfl | rfl | rfl | rfl | ⟨h0,h1,h2,h17,h18,h14,h16,h12,h13,h15⟩
 ·simp[S235,K235_0,cJ,fU,Exp.op,Exp.n,Exp.s,Exp.m,Exp.names,Exp.args]
  rfl
 ·simp[S235,K235_0,cJ,fU,Exp.op,Exp.n,Exp.s,Exp.m,Exp.names,Exp.args]
 ·simp[S235,K235_0,cJ,fU,Exp.op,Exp.n,Exp.s,Exp.m,Exp.names,Exp.args,hs]
 ·simp[S235,K235_0,cJ,fU,Exp.op,Exp.n,Exp.s,Exp.m,Exp.names,Exp.args,hs]
 ·simp[S235,K235_0,cJ,fU,Exp.op,Exp.n,Exp.s,Exp.m,Exp.names,Exp.args,hs]
 ·simp[S235,K235_0,cJ,fU,Exp.op,Exp.n,Exp.s,Exp.m,Exp.names,Exp.args,hs]
 ·simp[S235,K235_0,cJ,fU,Exp.op,Exp.n,Exp.s,Exp.m,Exp.names,Exp.args]
 ·simp[S235,K235_0,cJ,fU,Exp.op,Exp.n,Exp.s,Exp.m,Exp.names,Exp.args,hs]
 ·simp[S235,K235_0,cJ,fU,Exp.op,Exp.n,Exp.s,Exp.m,Exp.names,Exp.args,hbn]
 ·have e6:am T .leq 3 (.int .i64 es.length) (.int .i64 6)=some (.bool (decide (es.length≤6))):=by
   have:am T .leq 3 (.int .i64 es.length) (.int .i64 6)=some (.bool (decide ((es.length:Int)≤6))):=rfl
   rw[this]
   exact congrArg (fun b=>some (AV.bool b)) (decide_eq_decide.2 (by omega))
  cases ha:de s with
  | false=>rw[ha] at hs;simp[S235,K235_0,cJ,fU,Exp.op,Exp.n,Exp.s,Exp.m,Exp.names,Exp.args,hs,ha]
  | true=>
   rw[ha] at hs
   by_cases hme:m=[]
   ·simp[S235,K235_0,cJ,fU,Exp.op,Exp.n,Exp.s,Exp.m,Exp.names,Exp.args,hs,ha,hme,e6,-nk];try rfl
   ·cases hb:de m with
    | false=>rw[hb] at hm;simp[S235,K235_0,cJ,fU,Exp.op,Exp.n,Exp.s,Exp.m,Exp.names,Exp.args,hs,hm,ha,hb,hme,e6,-nk];try rfl
    | true=>rw[hb] at hm;simp[S235,K235_0,cJ,fU,Exp.op,Exp.n,Exp.s,Exp.m,Exp.names,Exp.args,hs,hm,ha,hb,hme,e6,-nk];try rfl
 ·simp[S235,K235_0,cJ,fU,Exp.op,Exp.n,Exp.s,Exp.m,Exp.names,Exp.args,h0,h1,h2,h17,h18,h14,h16,h12,h13,h15]
theorem t156:∀(d:Nat),d≤100→∀(e:Exp),e.Lim→ai pg 156 [e.av,.int .i64 d]=M.pure (.bool (cH d e))
 | 0,_,e,_=>by
  rw[C156]
  simp[S156,cH]
 | d + 1,hd,e,he=>by
  have hlen:=he.len
  have hd1:IntKind.i64.wrap (((d + 1:Nat):Int) - 1)=(d:Int):=ui (by omega)
  have hloop:∀(m i:Nat),e.args.length - i=m→i≤e.args.length→aj (L156_0 (ai pg) aj) [.int .i64 ((d + 1:Nat):Int),cb e.args,.int .i64 e.args.length,.int .i64 i]=M.pure (.bool ((e.args.drop i).all (cH d))):=by
   intro m
   induction m with
   | zero=>
    intro i hm hi
    have h1:¬ ((i:Int) < (e.args.length:Int)):=by omega
    have h2:e.args.drop i=[]:=List.drop_eq_nil_of_le (by omega)
    rw[FL156_0,h2]
    simp[L156_0,h1]
   | succ m ih=>
    intro i hm hi
    have hlt:i < e.args.length:=by omega
    have h1:(i:Int) < (e.args.length:Int):=by omega
    have h2:e.args.drop i=e.args[i]:: e.args.drop (i + 1):=List.drop_eq_getElem_cons hlt
    have hix:=lj (l:=e.args) (n:=(i:Int)) (by omega) h1
    rw[Int.toNat_natCast,getElem!_pos e.args i hlt] at hix
    have hw:IntKind.i64.wrap ((i:Int) + 1)=((i + 1:Nat):Int):=bq (by omega)
    have hb:=t156 d (by omega) e.args[i] (he.kid (List.getElem_mem hlt))
    have ih':=ih (i + 1) (by omega) (by omega)
    rw[h2,List.all_cons,FL156_0]
    generalize e.args[i]=x at hix hb ⊢
    cases hr:cH d x <;> rw[hr] at hb <;>
    simp only[L156_0,aL,aS,bz,ar,h1,decide_true,aA,if_true,hix,a7,LD74,List.length_cons,List.length_nil,Nat.zero_add,Nat.reduceAdd,Nat.le_refl,List.take_succ_cons,List.take_zero,f8,uK,aB,uB,hd1,hb,dS,Bool.not_false,Bool.not_true,Bool.false_eq_true,if_false,cX,hw,ih',Bool.false_and,Bool.true_and]
  have hx':aj (L156_0 (ai pg) aj) [.int .i64 ((d:Int) + 1),cb e.args,.int .i64 e.args.length,.int .i64 0]=M.pure (.bool (e.args.all (cH d))):=hloop e.args.length 0 rfl (Nat.zero_le _)
  have hc:=t234 e
  have hl:=t235 e he
  rw[C156,l8]
  unfold l9
  generalize (fK e).1=c at hc ⊢
  generalize (fK e).2=n at hc ⊢
  have g1:(((d:Int) + 1)== 0)=false:=by rw[beq_eq_false_iff_ne];omega
  have x0:aD (.tup [c.av,.int .i64 n]) 0=some c.av:=rfl
  have x1:aD (.tup [c.av,.int .i64 n]) 1=some (.int .i64 n):=rfl
  have e1:am T .neq 3 (.int .i64 c.n) (.int .i64 e.n)=some (.bool (!(c.n== e.n))):=rfl
  have e2:am T .neq 9 (.str c.s) (.str e.s)=some (.bool (!(c.s== e.s))):=rfl
  have e3:am T .neq 9 (.str c.m) (.str e.m)=some (.bool (!(c.m== e.m))):=rfl
  have e4:am T .neq 3 (.int .i64 c.names.length) (.int .i64 e.names.length)=some (.bool (!((c.names.length:Int)== (e.names.length:Int)))):=rfl
  have e5:am T .neq 3 (.int .i64 n) (.int .i64 e.args.length)=some (.bool (!(n== (e.args.length:Int)))):=rfl
  have e6:am T .geq 3 (.int .i64 n) (.int .i64 0)=some (.bool (!(decide (n < 0)))):=by
   have:am T .geq 3 (.int .i64 n) (.int .i64 0)=some (.bool (decide (0≤n))):=rfl
   rw[this,← decide_not]
   exact congrArg (fun b=>some (AV.bool b)) (decide_eq_decide.2 (by omega))
  have e7:am T .lss 3 (.int .i64 e.op) (.int .i64 0)=some (.bool (!(decide (0≤e.op)))):=by
   have:am T .lss 3 (.int .i64 e.op) (.int .i64 0)=some (.bool (decide (e.op < 0))):=rfl
   rw[this,← decide_not]
   exact congrArg (fun b=>some (AV.bool b)) (decide_eq_decide.2 (by omega))
  have e8:am T .geq 3 (.int .i64 e.op) (.int .i64 19)=some (.bool (!(decide (e.op < 19)))):=by
   have:am T .geq 3 (.int .i64 e.op) (.int .i64 19)=some (.bool (decide (19≤e.op))):=rfl
   rw[this,← decide_not]
   exact congrArg (fun b=>some (AV.bool b)) (decide_eq_decide.2 (by omega))
  generalize (c.n== e.n)=b1 at e1 ⊢
  generalize (c.s== e.s)=b2 at e2 ⊢
  generalize (c.m== e.m)=b3 at e3 ⊢
  generalize ((c.names.length:Int)== (e.names.length:Int))=b4 at e4 ⊢
  generalize (n== (e.args.length:Int))=b5 at e5 ⊢
  generalize decide (n < 0)=b6 at e6 ⊢
  generalize decide (0≤e.op)=b7 at e7 ⊢
  generalize decide (e.op < 19)=b8 at e8 ⊢
  generalize fU e=bl at hl ⊢
  generalize e.args.all (cH d)=bx at hx' ⊢
  cases b7 with
  | false=>simp[S156,g1,e7,-bz]
  | true=>
   cases b8 with
   | false=>simp[S156,g1,e7,e8,-bz,-kE]
   | true=>
    cases b6 <;> cases b5 <;> cases b1 <;> cases b2 <;> cases b3 <;> cases b4 <;> cases bl <;> simp[S156,g1,hc,x0,x1,uK,hl,hx',e1,e2,e3,e4,e5,e6,e7,e8,-bz,-kE,-kF]
theorem t56(e:Exp)(he:e.Lim):ai pg 56 [e.av]=M.pure (.bool (A9 e)):=by
 have hb':ai pg 156 [e.av,.int .i64 12]=M.pure (.bool (cH 12 e)):=t156 12 (by omega) e he
 rw[C56]
 simp[S56,hb']
def Mg(q:Nat)(m:Ap.Mod)(mp:AV)(h:Hp):Tr Ty→Av.R AV
 | .ok t n=>.ok (.tup [t.av,.int .i64 0]) (h.set q (bh m mp n))
 | .er b n=>.ok (.tup [ty0.av,.int .i64 b]) (h.set q (bh m mp n))
def NG(q:Nat)(m:Ap.Mod)(mp:AV)(h:Hp)(acc:List Ty):Tr (List Ty)→Av.R AV
 | .ok ts n=>.ok (.tup [ib (acc++ts),.int .i64 0]) (h.set q (bh m mp n))
 | .er b n=>.ok (.tup [.sl [],.int .i64 b]) (h.set q (bh m mp n))
def mN(q:Nat)(m:Ap.Mod)(mp:AV)(fs:List Face)(d:Nat):Prop:=∀(ls:List bP)(e:Exp)(n:Int)(h:Hp),cH d e=true→e.Lim→(∀ z∈ls,eG z.2)→ls.length + d≤1000000→JR h q m mp fs n→
 ai pg 51 [.hp q 0,aK ls,e.av] h=Mg q m mp h (bI (eA m fs) d ls e n)∧∀ t n',bI (eA m fs) d ls e n= .ok t n'→eG t
theorem F9{q:Nat}{m:Ap.Mod}{mp:AV}{fs:List Face}{d:Nat}(P:mN q m mp fs d)(ls:List bP)(hls:∀ z∈ls,eG z.2)(hll:ls.length + d≤1000000)(es:List Exp)(hes:es.length≤140737488355328)(he:∀ e∈es,cH d e=true∧e.Lim):∀(k i:Nat)(acc:List Ty)(n:Int)(h:Hp),es.length - i=k→i≤es.length→acc.length≤i→es.length≤1000000→JR h q m mp fs n→
  aj (L149_0 (ai pg) aj) [.hp q 0,aK ls,ib acc,cb es,.int .i64 es.length,.int .i64 i] h=NG q m mp h acc (dm (bI (eA m fs) d ls) (es.drop i) n)∧∀ ts n',dm (bI (eA m fs) d ls) (es.drop i) n= .ok ts n'→ts.length=es.length - i∧∀ t∈ts,eG t:=by
 intro k
 induction k with
 | zero=>
  intro i acc n h hk hi ha hs R
  have h1:¬ ((i:Int) < (es.length:Int)):=by omega
  have h2:es.drop i=[]:=List.drop_eq_nil_of_le (by omega)
  rw[h2]
  refine⟨?_,fun ts n' ht=>?_⟩
  ·rw[FL149_0]
   show _=Av.R.ok (AV.tup [ib (acc++[]),.int .i64 0]) (h.set q (bh m mp n))
   rw[R.same,List.append_nil]
   simp[L149_0,h1]
   rfl
  ·cases ht
   exact⟨by simp;omega,fun t ht=>by cases ht⟩
 | succ k ih=>
  intro i acc n h hk hi ha hs R
  have hlt:i < es.length:=by omega
  have h1:(i:Int) < (es.length:Int):=by omega
  have h2:es.drop i=es[i]:: es.drop (i + 1):=List.drop_eq_getElem_cons hlt
  have hw:IntKind.i64.wrap ((i:Int) + 1)=(i:Int) + 1:=bq (by omega)
  have hix:=lj (l:=es) (n:=(i:Int)) (by omega) h1
  rw[Int.toNat_natCast,getElem!_pos es i hlt] at hix
  obtain⟨hr,hl⟩:=he es[i] (List.getElem_mem hlt)
  obtain⟨p1,p2⟩:=P ls es[i] n h hr hl hls hll R
  rw[h2]
  have hne:=g9 (eA m fs) d ls es[i] n
  generalize es[i]=e at hix hr hl p1 p2 hne ⊢
  generalize hcode:aj (L149_0 (ai pg) aj) [.hp q 0,aK ls,ib acc,cb es,.int .i64 es.length,.int .i64 i] h=code
  rw[FL149_0] at hcode
  simp -implicitDefEqProofs only[L149_0,aL,aS,bz,ar,h1,decide_true,aA,if_true,hix,a7,LD74,List.length_cons,List.length_nil,Nat.zero_add,Nat.reduceAdd,Nat.le_refl,List.take_succ_cons,List.take_zero,f8,uK,aB] at hcode
  cases ht:bI (eA m fs) d ls e n with
  | er b n'=>
   rw[ht] at p1
   have hb:(b != 0)=true:=bne_iff_ne.2 (hne b n' ht)
   have hz:aH 2 ty0.av=M.pure ty0.av:=Av.gE ty0
   rw[aP p1] at hcode
   simp -implicitDefEqProofs only[cO,List.getElem?_cons_zero,List.getElem?_cons_succ,ar,hz,aB,kF,hb,aA,if_true] at hcode
   have e1:dm (bI (eA m fs) d ls) (e:: es.drop (i + 1)) n= .er b n':=by
    simp only[dm,dI.bind,ht]
   rw[e1]
   exact⟨hcode.symm,fun ts n'' h3=>by cases h3⟩
  | ok t n'=>
   rw[ht] at p1
   rw[aP p1] at hcode
   have R':=R.set n'
   obtain⟨i1,i2⟩:=ih (i + 1) (acc++[t]) n' (h.set q (bh m mp n')) (by omega) (by omega) (by simp;omega) hs R'
   have hap:=CZ (a:=acc) (b:=[t]) (by simp;omega)
   have hsl:aI T 148 1 [(0,t.av)]=some (ib [t]):=by cases t;rfl
   have i1':aj (L149_0 (ai pg) aj) [.hp q 0,aK ls,ib (acc++[t]),cb es,.int .i64 es.length,.int .i64 ((i:Int) + 1)] (h.set q (bh m mp n'))=_:=i1
   simp -implicitDefEqProofs only[cO,List.getElem?_cons_zero,List.getElem?_cons_succ,ar,Av.gE,aB,kF,bne_self_eq_false,aA,Bool.false_eq_true,if_false,ej,LD72,List.length_cons,List.length_nil,Nat.zero_add,Nat.reduceAdd,Nat.le_refl,if_true,List.take_succ_cons,List.take_zero,eP,hsl,hap,cX,hw,i1'] at hcode
   have e1:dm (bI (eA m fs) d ls) (e:: es.drop (i + 1)) n=(match dm (bI (eA m fs) d ls) (es.drop (i + 1)) n' with | .ok ts n''=>.ok (t:: ts) n'' | .er b n''=>.er b n''):=by
    simp only[dm,dI.bind,ht]
    cases dm (bI (eA m fs) d ls) (es.drop (i + 1)) n' <;> rfl
   rw[e1]
   cases hL:dm (bI (eA m fs) d ls) (es.drop (i + 1)) n' with
   | er b n''=>
    rw[hL] at hcode
    refine⟨?_,fun ts n'' h3=>by cases h3⟩
    rw[← hcode]
    show Av.R.ok _ _=Av.R.ok _ _
    rw[JR.twice]
   | ok ts n''=>
    rw[hL] at hcode
    obtain⟨j1,j2⟩:=i2 ts n'' hL
    refine⟨?_,fun us n3 h3=>?_⟩
    ·rw[← hcode]
     show Av.R.ok _ _=Av.R.ok _ _
     rw[JR.twice,List.append_assoc]
     rfl
    ·cases h3
     refine⟨by simp only[List.length_cons];omega,fun u hu=>?_⟩
     rcases List.mem_cons.1 hu with rfl | hu
     ·exact p2 _ _ ht
     ·exact j2 u hu
theorem LZ{q:Nat}{m:Ap.Mod}{mp:AV}{fs:List Face}{d:Nat}(P:mN q m mp fs d)(ls:List bP)(hls:∀ z∈ls,eG z.2)(hll:ls.length + d≤1000000)(es:List Exp)(hes:es.length≤1000000)(he:∀ e∈es,cH d e=true∧e.Lim)(n:Int)(h:Hp)(R:JR h q m mp fs n):
  ai pg 149 [.hp q 0,aK ls,cb es] h=NG q m mp h [] (dm (bI (eA m fs) d ls) es n)∧∀ ts n',dm (bI (eA m fs) d ls) es n= .ok ts n'→ts.length=es.length∧∀ t∈ts,eG t:=by
 obtain⟨h1,h2⟩:=F9 P ls hls hll es (by omega) he es.length 0 [] n h rfl (Nat.zero_le _) (Nat.zero_le _) hes R
 rw[List.drop_zero] at h1 h2
 refine⟨?_,fun ts n' ht=>h2 ts n' ht⟩
 rw[← h1,C149]
 simp only[S149,ul,ar]
 rfl
theorem sH:aM T false 72 []=some ty0.av:=rfl
theorem kD{u t:Ty}(hu:eG u)(ht:bN t=true):ai pg 52 [u.av,t.av]=M.pure (.bool (bR u t)):=t52 4 t u (hu 4) (fO ht 4) ht
theorem Nj{q:Nat}{m:Ap.Mod}{mp:AV}{fs:List Face}{d:Nat}(P:mN q m mp fs d)(K:CxOk m fs)(ls:List bP)(hls:∀ z∈ls,eG z.2)(hll:ls.length + d≤1000000)(e:Exp)(hop:e.op=17∨e.op=18)(ha:e.op=18→∃ x,e.args=[x]∧cH d x=true∧x.Lim)(n:Int)(h:Hp)(R:JR h q m mp fs n):
  ai pg 147 [.hp q 0,aK ls,e.av] h=Mg q m mp h (cr (eA m fs) (bI (eA m fs) d) ls e n)∧∀ t n',cr (eA m fs) (bI (eA m fs) d) ls e n= .ok t n'→eG t:=by
 have l1:∀ f:AV→M AV,ae (aR T 23 (.hp q 2)) f h=f (aK m.vars) h:=fun f=>aP R.vars f
 have hk:=t145 m.vars (by have:=K.vlen;omega) e.s
 rw[Ab hop,C147]
 show S147 (ai pg) aj (.hp q 0) (aK ls) e.av h=Mg q m mp h ((match bQ (fun z=>z.1== e.s) m.vars with
  | none=>dI.er 12
  | some z=>if e.op=18 then dI.bind (bI (eA m fs) d ls e.args[0]!) fun u=>if bR u z.2=true then dI.ok z.2 else dI.er 13 else dI.ok z.2:dI Ty) n)∧∀ t n',(match bQ (fun z=>z.1== e.s) m.vars with
  | none=>dI.er 12
  | some z=>if e.op=18 then dI.bind (bI (eA m fs) d ls e.args[0]!) fun u=>if bR u z.2=true then dI.ok z.2 else dI.er 13 else dI.ok z.2:dI Ty) n= .ok t n'→eG t
 cases hz:bQ (fun z:bP=>z.1== e.s) m.vars with
 | none=>
  rw[hz] at hk
  refine⟨?_,fun t n' h3=>by cases h3⟩
  show _=Av.R.ok (AV.tup [ty0.av,.int .i64 12]) (h.set q (bh m mp n))
  rw[R.same]
  simp[S147,l1,hk,sH]
  rfl
 | some z=>
  rw[hz] at hk
  dsimp only
  have hzr:=K.vars z (iV hz).1
  rcases hop with hop | hop
  ·rw[if_neg (show ¬ e.op=18 by omega)]
   refine⟨?_,fun t n' h3=>by cases h3;exact fO hzr⟩
   show _=Av.R.ok (AV.tup [z.2.av,.int .i64 0]) (h.set q (bh m mp n))
   rw[R.same]
   simp[S147,K147_0,l1,hk,hop]
   rfl
  ·rw[if_pos hop]
   obtain⟨x,hx,hr,hl⟩:=ha hop
   have hx0:e.args[0]! = x:=by rw[hx];rfl
   obtain⟨p1,p2⟩:=P ls x n h hr hl hls hll R
   have hix:ak T 24 (cb e.args) (.int .i64 0)=some (.ip (ab x.av)):=by
    have:=lj (l:=e.args) (n:=0) (by omega) (by rw[hx];simp)
    rw[this,hx];rfl
   rw[hx0]
   have hne:=g9 (eA m fs) d ls x n
   cases ht:bI (eA m fs) d ls x n with
   | er b n'=>
    rw[ht] at p1
    have hb:(b != 0)=true:=bne_iff_ne.2 (hne b n' ht)
    have k1:∀ f:AV→M AV,ae (ai pg 51 [.hp q 0,aK ls,x.av]) f h=f (.tup [ty0.av,.int .i64 b]) (h.set q (bh m mp n')):=fun f=>aP p1 f
    have e1:dI.bind (bI (eA m fs) d ls x) (fun u=>if bR u z.2=true then dI.ok z.2 else dI.er 13) n= .er b n':=by simp only[dI.bind,ht]
    rw[e1]
    refine⟨?_,fun t n' h3=>by cases h3⟩
    show _=Av.R.ok (AV.tup [ty0.av,.int .i64 b]) (h.set q (bh m mp n'))
    simp[S147,K147_0,l1,hk,hop,hix,k1,hb,sH]
    rfl
   | ok u n'=>
    rw[ht] at p1
    have hus:=p2 u n' ht
    have k1:∀ f:AV→M AV,ae (ai pg 51 [.hp q 0,aK ls,x.av]) f h=f (.tup [u.av,.int .i64 0]) (h.set q (bh m mp n')):=fun f=>aP p1 f
    have hbl:=kD hus hzr
    cases hb:bR u z.2 with
    | true=>
     rw[hb] at hbl
     have e1:dI.bind (bI (eA m fs) d ls x) (fun u=>if bR u z.2=true then dI.ok z.2 else dI.er 13) n= .ok z.2 n':=by simp only[dI.bind,ht,hb,if_true];rfl
     rw[e1]
     refine⟨?_,fun t n' h3=>by cases h3;exact fO hzr⟩
     show _=Av.R.ok (AV.tup [z.2.av,.int .i64 0]) (h.set q (bh m mp n'))
     simp[S147,K147_0,l1,hk,hop,hix,k1,hbl]
     rfl
    | false=>
     rw[hb] at hbl
     have e1:dI.bind (bI (eA m fs) d ls x) (fun u=>if bR u z.2=true then dI.ok z.2 else dI.er 13) n= .er 13 n':=by simp only[dI.bind,ht,hb,Bool.false_eq_true,if_false];rfl
     rw[e1]
     refine⟨?_,fun t n' h3=>by cases h3⟩
     show _=Av.R.ok (AV.tup [ty0.av,.int .i64 13]) (h.set q (bh m mp n'))
     simp[S147,K147_0,l1,hk,hop,hix,k1,hbl,sH]
     rfl
theorem F8{q:Nat}{m:Ap.Mod}{mp:AV}{fs:List Face}{n:Int}{h:Hp}(R:JR h q m mp fs n)(s:Sig)(l:List Ty)(hl:∀ t∈l,eG t)(hps:∀ t∈s.params,bN t=true)(hlen:l.length=s.params.length)(hb:l.length≤1000000)(x y:AV):∀(k i:Nat),l.length - i=k→i≤l.length→
  aj (L148_0 (ai pg) aj) [.hp q 0,.ip (ab s.av),ib l,.int .i64 l.length,.int .i64 i,x,y] h=(if iz bR (l.drop i) (s.params.drop i)=true then .ok (.tup [s.result.av,.int .i64 0]) (h.set q (bh m mp (nV n s.effects))) else .ok (.tup [ty0.av,.int .i64 13]) h):=by
 intro k
 induction k with
 | zero=>
  intro i hk hi
  have h1:¬ ((i:Int) < (l.length:Int)):=by omega
  have h2:l.drop i=[]:=List.drop_eq_nil_of_le (by omega)
  have h3:s.params.drop i=[]:=List.drop_eq_nil_of_le (by omega)
  rw[h2,h3,if_pos (show iz bR [] []=true from rfl)]
  have l1:∀ f:AV→M AV,ae (aR T 3 (.hp q 10)) f h=f (.int .i64 n) h:=fun f=>aP R.eff f
  have l2:∀ f:AV→M AV,ae (bo T 3 (.hp q 10) (.int .i64 (nV n s.effects))) f h=f (.tup []) (h.set q (bh m mp (nV n s.effects))):=fun f=>aP (R.put _) f
  have hor:am T .or 3 (.int .i64 n) (.int .i64 s.effects)=some (.int .i64 (nV n s.effects)):=rfl
  rw[FL148_0]
  simp[L148_0,h1,l1,hor,l2]
  rfl
 | succ k ih=>
  intro i hk hi
  have hlt:i < l.length:=by omega
  have hlt2:i < s.params.length:=by omega
  have h1:(i:Int) < (l.length:Int):=by omega
  have h2:l.drop i=l[i]:: l.drop (i + 1):=List.drop_eq_getElem_cons hlt
  have h3:s.params.drop i=s.params[i]:: s.params.drop (i + 1):=List.drop_eq_getElem_cons hlt2
  have hw:IntKind.i64.wrap ((i:Int) + 1)=(i:Int) + 1:=bq (by omega)
  have hix:=pd (l:=l) (n:=(i:Int)) (by omega) h1
  rw[Int.toNat_natCast,getElem!_pos l i hlt] at hix
  have hix2:=pd (l:=s.params) (n:=(i:Int)) (by omega) (by omega)
  rw[Int.toNat_natCast,getElem!_pos s.params i hlt2] at hix2
  have hbl:=kD (hl _ (List.getElem_mem hlt)) (hps _ (List.getElem_mem hlt2))
  have ih':aj (L148_0 (ai pg) aj) [.hp q 0,.ip (ab s.av),ib l,.int .i64 l.length,.int .i64 ((i:Int) + 1),x,y] h=_:=ih (i + 1) (by omega) (by omega)
  rw[h2,h3]
  generalize l[i]=u at hix hbl ⊢
  generalize s.params[i]=t at hix2 hbl ⊢
  have ea:iz bR (u:: l.drop (i + 1)) (t:: s.params.drop (i + 1))=(bR u t&&iz bR (l.drop (i + 1)) (s.params.drop (i + 1))):=rfl
  rw[ea]
  generalize hcode:aj (L148_0 (ai pg) aj) [.hp q 0,.ip (ab s.av),ib l,.int .i64 l.length,.int .i64 i,x,y] h=code
  rw[FL148_0] at hcode
  cases hb2:bR u t with
  | true=>
   rw[hb2] at hbl
   rw[Bool.true_and,← ih']
   simp -implicitDefEqProofs only[L148_0,aL,aS,bz,ar,h1,decide_true,aA,if_true,hix,ej,LD72,List.length_cons,List.length_nil,Nat.zero_add,Nat.reduceAdd,Nat.le_refl,List.take_succ_cons,List.take_zero,eP,Av.gE,aB,fJ,FA150_1,List.drop_succ_cons,List.drop_zero,LD148,hix2,hbl,dW,dS,Bool.not_true,Bool.false_eq_true,if_false,cX,hw] at hcode
   rw[← hcode,fJ]
  | false=>
   rw[hb2] at hbl
   rw[Bool.false_and,if_neg (by decide)]
   have hz:ao 2 [] ty0.av=M.pure ty0.av:=ww ty0
   have ha:ab ty0.av=[.int .i64 0,.sl []]:=rfl
   simp -implicitDefEqProofs only[L148_0,aL,aS,bz,ar,h1,decide_true,aA,if_true,hix,ej,LD72,List.length_cons,List.length_nil,Nat.zero_add,Nat.reduceAdd,Nat.le_refl,List.take_succ_cons,List.take_zero,eP,Av.gE,aB,fJ,FA150_1,List.drop_succ_cons,List.drop_zero,LD148,hix2,hbl,dW,dS,Bool.not_false,sH,hz] at hcode
   rw[← hcode]
   rfl
theorem Nk{q:Nat}{m:Ap.Mod}{mp:AV}{fs:List Face}{d:Nat}(P:mN q m mp fs d)(K:CxOk m fs)(ls:List bP)(hls:∀ z∈ls,eG z.2)(hll:ls.length + d≤1000000)(e:Exp)(hop:e.op=15)(hlen:e.args.length≤1000000)(ha:∀ x∈e.args,cH d x=true∧x.Lim)(n:Int)(h:Hp)(R:JR h q m mp fs n):
  ai pg 148 [.hp q 0,aK ls,e.av] h=Mg q m mp h (cr (eA m fs) (bI (eA m fs) d) ls e n)∧∀ t n',cr (eA m fs) (bI (eA m fs) d) ls e n= .ok t n'→eG t:=by
 obtain⟨r,c1,c2⟩:=Nn R K e
 have k1:∀ f:AV→M AV,ae (ai pg 224 [.hp q 0,e.av]) f h=f r h:=fun f=>aP c1 f
 rw[yc hop,C148]
 have hpar:∀ s,cY (eA m fs) e=some s→(∀ t∈s.1,bN t=true)∧bN s.2.1=true:=by
  intro s hs
  unfold cY at hs
  split at hs
  ·split at hs
   ·rename_i f hf
    cases hs
    have hm:=List.mem_of_find?_eq_some hf
    exact⟨fun t ht=>by obtain⟨z,hz,rfl⟩:=List.mem_map.1 ht;exact K.pars f hm z hz,K.res f hm⟩
   ·cases hs
  ·split at hs
   ·cases hs
   ·rename_i f hf
    split at hs
    ·cases hs
    ·rename_i s' hs'
     split at hs
     ·cases hs
      have hm:=List.mem_of_find?_eq_some (show fs.find? _=some f from hf)
      have hm2:=List.mem_of_find?_eq_some hs'
      exact⟨K.spars f hm s' hm2,K.sres f hm s' hm2⟩
     ·cases hs
 cases hc:cY (eA m fs) e with
 | none=>
  rw[hc] at c2
  subst c2
  refine⟨?_,fun t n' h3=>by cases h3⟩
  show _=Av.R.ok (AV.tup [ty0.av,.int .i64 12]) (h.set q (bh m mp n))
  rw[R.same]
  have k2:∀ f:AV→M AV,ae (ai pg 224 [.hp q 0,e.av]) f h=f (.tup [CO.av,.bool false]) h:=k1
  have z1:aH 5 CO.av=M.pure CO.av:=qG CO
  simp[S148,k2,z1,sH]
  rfl
 | some s=>
  rw[hc] at c2
  obtain⟨nm,rfl⟩:=c2
  obtain⟨hp1,hp2⟩:=hpar s hc
  obtain⟨ps,res,eff⟩:=s
  have z1:aH 5 (Sig.mk nm ps res eff).av=M.pure (Sig.mk nm ps res eff).av:=qG _
  dsimp only
  by_cases hl:ps.length=e.args.length
  ·rw[if_pos hl]
   have hl':((ps.length:Int) != (e.args.length:Int))=false:=by simp[hl]
   obtain⟨g1,g2⟩:=LZ P ls hls hll e.args hlen ha n h R
   cases ht:dm (bI (eA m fs) d ls) e.args n with
   | er b n'=>
    rw[ht] at g1
    have hb:(b != 0)=true:=bne_iff_ne.2 (nO (g9 (eA m fs) d ls) _ n b n' ht)
    have k2:∀ f:AV→M AV,ae (ai pg 149 [.hp q 0,aK ls,cb e.args]) f h=f (.tup [.sl [],.int .i64 b]) (h.set q (bh m mp n')):=fun f=>aP g1 f
    have e1:dI.bind (dm (bI (eA m fs) d ls) e.args) (fun l=>if iz bR l ps=true then fun n=>Tr.ok res (nV n eff) else dI.er 13) n= .er b n':=by simp only[dI.bind,ht]
    rw[e1]
    refine⟨?_,fun t n' h3=>by cases h3⟩
    show _=Av.R.ok (AV.tup [ty0.av,.int .i64 b]) (h.set q (bh m mp n'))
    simp[S148,k1,z1,hl,k2,hb,sH]
    rfl
   | ok l n'=>
    rw[ht] at g1
    obtain⟨g3,g4⟩:=g2 l n' ht
    have k2:∀ f:AV→M AV,ae (ai pg 149 [.hp q 0,aK ls,cb e.args]) f h=f (.tup [ib l,.int .i64 0]) (h.set q (bh m mp n')):=fun f=>aP g1 f
    have hlp:=F8 (R.set n') (Sig.mk nm ps res eff) l g4 hp1 (by rw[g3];exact hl.symm) (by omega) (.int .i64 0) (.sl []) l.length 0 rfl (Nat.zero_le _)
    have hlp':aj (L148_0 (ai pg) aj) [.hp q 0,.ip [.str nm,ib ps,.int .i64 res.kind,aK res.fields,.int .i64 eff],ib l,.int .i64 l.length,.int .i64 0,.int .i64 0,.sl []] (h.set q (bh m mp n'))=(if iz bR l ps=true then .ok (.tup [res.av,.int .i64 0]) ((h.set q (bh m mp n')).set q (bh m mp (nV n' eff))) else .ok (.tup [ty0.av,.int .i64 13]) (h.set q (bh m mp n'))):=hlp
    have e1:dI.bind (dm (bI (eA m fs) d ls) e.args) (fun l=>if iz bR l ps=true then fun n=>Tr.ok res (nV n eff) else dI.er 13) n=if iz bR l ps=true then .ok res (nV n' eff) else .er 13 n':=by
     simp only[dI.bind,ht]
     split <;> rfl
    rw[e1]
    constructor
    ·simp[S148,k1,z1,hl,k2]
     rw[hlp',JR.twice]
     split <;> rfl
    ·intro t n'' h3
     split at h3
     ·cases h3;exact fO hp2
     ·cases h3
  ·rw[if_neg hl]
   refine⟨?_,fun t n' h3=>by cases h3⟩
   show _=Av.R.ok (AV.tup [ty0.av,.int .i64 13]) (h.set q (bh m mp n))
   rw[R.same]
   simp[S148,k1,z1,hl,sH]
   rfl
theorem EF{e:Exp}(h:l9 e=true):(e.op=11→e.args.length=3)∧(e.op=12→e.args.length=2)∧(e.op=14→e.args.length=1)∧(e.op=18→e.args.length=1)∧(e.op=13→e.names.length=e.args.length)∧e.args.length≤1000000:=by
 unfold l9 at h
 simp only[Bool.and_eq_true] at h
 obtain⟨⟨⟨⟨⟨⟨⟨h1,h2⟩,h3⟩,h4⟩,h5⟩,h6⟩,h7⟩,h8⟩:=h
 simp only[decide_eq_true_eq] at h1 h2
 have ho:e.op=0∨e.op=1∨e.op=2∨e.op=3∨e.op=4∨e.op=5∨e.op=6∨e.op=7∨e.op=8∨e.op=9∨e.op=10∨e.op=11∨e.op=12∨e.op=13∨e.op=14∨e.op=15∨e.op=16∨e.op=17∨e.op=18:=by omega
 by_cases o15:e.op=15
 ·have:e.args.length≤6:=by
   simp[fU,o15] at h8
   exact h8.2
  exact⟨fun h=>by omega,fun h=>by omega,fun h=>by omega,fun h=>by omega,fun h=>by omega,by omega⟩
 ·by_cases o13:e.op=13
  ·have hn:e.names.length≤8:=by
    simp[fU,o13,rI] at h8
    exact h8.2
   have he:e.names.length=e.args.length:=by
    simp[fK,o13] at h3
    omega
   exact⟨fun h=>by omega,fun h=>by omega,fun h=>by omega,fun h=>by omega,fun _=>he,by omega⟩
  ·have key:e.args.length≤3∧(e.op=11→e.args.length=3)∧(e.op=12→e.args.length=2)∧(e.op=14→e.args.length=1)∧(e.op=18→e.args.length=1):=by
    rcases ho with o | o | o | o | o | o | o | o | o | o | o | o | o | o | o | o | o | o | o <;> simp[fK,o] at h3 o13 o15 ⊢ <;> omega
   exact⟨key.2.1,key.2.2.1,key.2.2.2.1,key.2.2.2.2,fun h=>absurd h o13,by omega⟩
theorem Gn{ns:List aU}{l:List Ty}(h:∀ t∈l,eG t)(hl:l.length≤1000000):eG (.mk 2 (ns.zip l)):=vH (by rw[List.length_zip];omega) fun f hf=>h f.2 (List.of_mem_zip (show (f.1,f.2)∈ns.zip l from hf)).2
theorem ud(b:List bP):(fs:List bP)→(∀ f∈fs,∀ t u:Ty,sk f.2 t=some u→eG u)→∀ f∈lp fs b,eG f.2
 | [],_,f,hf=>by simp[lp] at hf
 | g :: fs,h,f,hf=>by
  rw[o7,List.mem_append] at hf
  rcases hf with hf | hf
  ·rw[GF] at hf
   cases hz:bQ (fun z:bP=>z.1== g.1) b with
   | none=>rw[hz] at hf;cases hf
   | some z=>
    rw[hz] at hf
    dsimp only at hf
    cases hu:sk g.2 z.2 with
    | none=>rw[hu] at hf;cases hf
    | some u=>
     rw[hu] at hf
     simp only[List.mem_singleton] at hf
     subst hf
     exact h g List.mem_cons_self z.2 u hu
  ·exact ud b fs (fun f hf=>h f (List.mem_cons_of_mem _ hf)) f hf
theorem Bd(a b u:Ty)(ha:eG a)(h:sk a b=some u):eG u:=by
 have e1:sk a b=if a.kind=b.kind then some (.mk a.kind (lp a.fields b.fields)) else none:=by
  cases a;cases b;simp only[sk,Ty.kind,Ty.fields];rfl
 rw[e1] at h
 split at h
 ·cases h
  refine vH (Nat.le_trans (yq _ _) ha.len) (ud _ _ fun f hf t u hu=>?_)
  have:=AH hf
  exact Bd f.2 t u (ha.kid hf) hu
 ·cases h
termination_by SizeOf.sizeOf a
theorem iY(k:Int):eG (.mk k []):=vH (by simp) (by simp)
theorem zZ {e:Exp} {l:List Ty} (hl:∀ t∈l,eG t) (hlen:l.length≤1000000) (h11:e.op=11→l.length=3) (h14:e.op=14→l.length=1) {t:Ty} (h:bO e l=some t):eG t:=by
 unfold bO at h
 split at h
 ·split at h <;> cases h;exact iY _
 ·split at h
  ·cases h;exact iY _
  ·split at h
   ·split at h <;> cases h;exact iY _
   ·split at h
    ·split at h <;> cases h;exact iY _
    ·split at h
     ·split at h <;> cases h;exact iY _
     ·split at h
      ·rename_i o
       split at h
       ·rename_i u hu
        split at h <;> cases h
        refine Bd _ _ _ ?_ hu
        have:=h11 o
        rw[getElem!_pos l 1 (by omega)]
        exact hl _ (List.getElem_mem _)
       ·cases h
      ·split at h
       ·cases h;exact Gn hl hlen
       ·split at h
        ·rename_i o
         split at h
         ·rename_i z hz
          cases h
          have:=h14 o
          have h0:eG l[0]!:=by rw[getElem!_pos l 0 (by omega)];exact hl _ (List.getElem_mem _)
          exact h0.kid (iV hz).1
         ·cases h
        ·cases h;exact iY _
theorem Ni(l:List bP)(h:l.length≤1000000):ai pg 146 [aK l]=M.pure (aK l):=by
 have e0:ai pg 146 [aK l]=fA T 23 (ai pg) [aK l]:=dy hOther rfl _
 have e1:=Jg (a:=[]) (b:=l) (by simp;omega)
 rw[e0]
 show af (cP T 23 (.sl []) (aK l))=_
 have e2:cP T 23 (.sl []) (aK l)=some (aK l):=e1
 rw[e2]
 rfl
theorem B7 {q:Nat} {m:Ap.Mod} {mp:AV} {fs:List Face} (K:CxOk m fs) {d:Nat} (P:mN q m mp fs d):mN q m mp fs (d + 1):=by
 intro ls e n h hr he hls hll R
 rw[l8,Bool.and_eq_true,List.all_eq_true] at hr
 obtain⟨hsh,har⟩:=hr
 obtain⟨a11,a12,a14,a18,a13,alen⟩:=EF hsh
 have ha:∀ x∈e.args,cH d x=true∧x.Lim:=fun x hx=>⟨har x hx,he.kid hx⟩
 have hll':ls.length + d≤1000000:=by omega
 show ai pg 51 [.hp q 0,aK ls,e.av] h=Mg q m mp h (cr (eA m fs) (bI (eA m fs) d) ls e n)∧∀ t n',cr (eA m fs) (bI (eA m fs) d) ls e n= .ok t n'→eG t
 by_cases o2:e.op=2
 ·have hk:=t145 ls (by omega) e.s
  rw[Ad o2,C51]
  cases hz:bQ (fun z:bP=>z.1== e.s) ls with
  | none=>
   rw[hz] at hk
   refine⟨?_,fun t n' h3=>by cases h3⟩
   show _=Av.R.ok (AV.tup [ty0.av,.int .i64 12]) (h.set q (bh m mp n))
   rw[R.same]
   simp[S51,o2,hk,sH]
   rfl
  | some z=>
   rw[hz] at hk
   refine⟨?_,fun t n' h3=>by cases h3;exact hls z (iV hz).1⟩
   show _=Av.R.ok (AV.tup [z.2.av,.int .i64 0]) (h.set q (bh m mp n))
   rw[R.same]
   simp[S51,o2,hk]
   rfl
 ·by_cases o12:e.op=12
  ·obtain⟨x,y,hxy⟩:∃ x y,e.args=[x,y]:=by
    have:=a12 o12
    match e.args,this with
    | [x,y],_=>exact⟨x,y,rfl⟩
   have hx0:e.args[0]! = x:=by rw[hxy];rfl
   have hx1:e.args[1]! = y:=by rw[hxy];rfl
   have i0:ak T 24 (cb e.args) (.int .i64 0)=some (.ip (ab x.av)):=by
    have:=lj (l:=e.args) (n:=0) (by omega) (by rw[hxy];simp)
    rw[this,hxy];rfl
   have i1:ak T 24 (cb e.args) (.int .i64 1)=some (.ip (ab y.av)):=by
    have:=lj (l:=e.args) (n:=1) (by omega) (by rw[hxy];simp)
    rw[this,hxy];rfl
   obtain⟨xr,xl⟩:=ha x (by rw[hxy];simp)
   obtain⟨yr,yl⟩:=ha y (by rw[hxy];simp)
   obtain⟨p1,p2⟩:=P ls x n h xr xl hls hll' R
   rw[Ac o12,hx0,hx1,C51]
   have hne:=g9 (eA m fs) d ls x n
   cases ht:bI (eA m fs) d ls x n with
   | er b n'=>
    rw[ht] at p1
    have hb:(b != 0)=true:=bne_iff_ne.2 (hne b n' ht)
    have k1:∀ f:AV→M AV,ae (ai pg 51 [.hp q 0,aK ls,x.av]) f h=f (.tup [ty0.av,.int .i64 b]) (h.set q (bh m mp n')):=fun f=>aP p1 f
    have e1:dI.bind (bI (eA m fs) d ls x) (fun t=>bI (eA m fs) d (ls++[(e.s,t)]) y) n= .er b n':=by simp only[dI.bind,ht]
    rw[e1]
    refine⟨?_,fun t n' h3=>by cases h3⟩
    show _=Av.R.ok (AV.tup [ty0.av,.int .i64 b]) (h.set q (bh m mp n'))
    simp[S51,o12,i0,k1,hb,sH]
    rfl
   | ok u n'=>
    rw[ht] at p1
    have hus:=p2 u n' ht
    have k1:∀ f:AV→M AV,ae (ai pg 51 [.hp q 0,aK ls,x.av]) f h=f (.tup [u.av,.int .i64 0]) (h.set q (bh m mp n')):=fun f=>aP p1 f
    obtain⟨p3,p4⟩:=P (ls++[(e.s,u)]) y n' (h.set q (bh m mp n')) yr yl (fun z hz=>by
     rcases List.mem_append.1 hz with hz | hz
     ·exact hls z hz
     ·rw[List.mem_singleton] at hz;subst hz;exact hus) (by rw[List.length_append];simp;omega) (R.set n')
    have e1:dI.bind (bI (eA m fs) d ls x) (fun t=>bI (eA m fs) d (ls++[(e.s,t)]) y) n=bI (eA m fs) d (ls++[(e.s,u)]) y n':=by simp only[dI.bind,ht]
    rw[e1]
    refine⟨?_,fun t n'' h3=>p4 t n'' h3⟩
    have hap:=Jg (a:=ls) (b:=[(e.s,u)]) (by simp;omega)
    have hcl:=Ni ls (by omega)
    cases ht2:bI (eA m fs) d (ls++[(e.s,u)]) y n' with
    | er b n''=>
     rw[ht2] at p3
     have k2:∀ f:AV→M AV,ae (ai pg 51 [.hp q 0,aK (ls++[(e.s,u)]),y.av]) f (h.set q (bh m mp n'))=f (.tup [ty0.av,.int .i64 b]) ((h.set q (bh m mp n')).set q (bh m mp n'')):=fun f=>aP p3 f
     show _=Av.R.ok (AV.tup [ty0.av,.int .i64 b]) (h.set q (bh m mp n''))
     simp[S51,o12,i0,i1,k1,uW,Mp,hcl,hap,k2]
     rfl
    | ok t n''=>
     rw[ht2] at p3
     have k2:∀ f:AV→M AV,ae (ai pg 51 [.hp q 0,aK (ls++[(e.s,u)]),y.av]) f (h.set q (bh m mp n'))=f (.tup [t.av,.int .i64 0]) ((h.set q (bh m mp n')).set q (bh m mp n'')):=fun f=>aP p3 f
     show _=Av.R.ok (AV.tup [t.av,.int .i64 0]) (h.set q (bh m mp n''))
     simp[S51,o12,i0,i1,k1,uW,Mp,hcl,hap,k2]
     rfl
  ·have b2:(e.op== 2)=false:=beq_eq_false_iff_ne.2 o2
   have b12:(e.op== 12)=false:=beq_eq_false_iff_ne.2 o12
   by_cases o17:e.op=17∨e.op=18
   ·obtain⟨v1,v2⟩:=Nj P K ls hls hll' e o17 (fun o=>by
     have:=a18 o
     match hx:e.args,this with
     | [x],_=>exact⟨x,rfl,ha x (by rw[hx];simp)⟩) n h R
    refine⟨?_,v2⟩
    rw[← v1,C51]
    generalize hcode:ai pg 147 [.hp q 0,aK ls,e.av] h=code at v1
    cases hs:cr (eA m fs) (bI (eA m fs) d) ls e n with
    | er b n'=>
     rw[hs] at v1
     rw[v1] at hcode
     have k1:∀ f:AV→M AV,ae (ai pg 147 [.hp q 0,aK ls,e.av]) f h=f (.tup [ty0.av,.int .i64 b]) (h.set q (bh m mp n')):=fun f=>aP hcode f
     rw[v1]
     show _=Av.R.ok (AV.tup [ty0.av,.int .i64 b]) (h.set q (bh m mp n'))
     rcases o17 with o | o
     ·have c17:(e.op== 17)=true:=beq_iff_eq.2 o
      simp[S51,K51_1,b2,b12,c17,k1]
      rfl
     ·have c17:(e.op== 17)=false:=beq_eq_false_iff_ne.2 (by omega)
      have c18:(e.op== 18)=true:=beq_iff_eq.2 o
      simp[S51,K51_1,b2,b12,c17,c18,k1]
      rfl
    | ok t n'=>
     rw[hs] at v1
     rw[v1] at hcode
     have k1:∀ f:AV→M AV,ae (ai pg 147 [.hp q 0,aK ls,e.av]) f h=f (.tup [t.av,.int .i64 0]) (h.set q (bh m mp n')):=fun f=>aP hcode f
     rw[v1]
     show _=Av.R.ok (AV.tup [t.av,.int .i64 0]) (h.set q (bh m mp n'))
     rcases o17 with o | o
     ·have c17:(e.op== 17)=true:=beq_iff_eq.2 o
      simp[S51,K51_1,b2,b12,c17,k1]
      rfl
     ·have c17:(e.op== 17)=false:=beq_eq_false_iff_ne.2 (by omega)
      have c18:(e.op== 18)=true:=beq_iff_eq.2 o
      simp[S51,K51_1,b2,b12,c17,c18,k1]
      rfl
   ·have b17:(e.op== 17)=false:=beq_eq_false_iff_ne.2 (by omega)
    have b18:(e.op== 18)=false:=beq_eq_false_iff_ne.2 (by omega)
    by_cases o15:e.op=15
    ·obtain⟨v1,v2⟩:=Nk P K ls hls hll' e o15 alen ha n h R
     refine⟨?_,v2⟩
     have b15:(e.op== 15)=true:=beq_iff_eq.2 o15
     rw[C51]
     cases hs:cr (eA m fs) (bI (eA m fs) d) ls e n with
     | er b n'=>
      rw[hs] at v1
      have k1:∀ f:AV→M AV,ae (ai pg 148 [.hp q 0,aK ls,e.av]) f h=f (.tup [ty0.av,.int .i64 b]) (h.set q (bh m mp n')):=fun f=>aP v1 f
      show _=Av.R.ok (AV.tup [ty0.av,.int .i64 b]) (h.set q (bh m mp n'))
      simp[S51,K51_1,b2,b12,b17,b18,b15,k1]
      rfl
     | ok t n'=>
      rw[hs] at v1
      have k1:∀ f:AV→M AV,ae (ai pg 148 [.hp q 0,aK ls,e.av]) f h=f (.tup [t.av,.int .i64 0]) (h.set q (bh m mp n')):=fun f=>aP v1 f
      show _=Av.R.ok (AV.tup [t.av,.int .i64 0]) (h.set q (bh m mp n'))
      simp[S51,K51_1,b2,b12,b17,b18,b15,k1]
      rfl
    ·have b15:(e.op== 15)=false:=beq_eq_false_iff_ne.2 o15
     obtain⟨g1,g2⟩:=LZ P ls hls hll' e.args alen ha n h R
     rw[yd o2 o12 o17 o15,C51]
     cases ht:dm (bI (eA m fs) d ls) e.args n with
     | er b n'=>
      rw[ht] at g1
      have hb:(b != 0)=true:=bne_iff_ne.2 (nO (g9 (eA m fs) d ls) _ n b n' ht)
      have k1:∀ f:AV→M AV,ae (ai pg 149 [.hp q 0,aK ls,cb e.args]) f h=f (.tup [.sl [],.int .i64 b]) (h.set q (bh m mp n')):=fun f=>aP g1 f
      have e1:dI.bind (dm (bI (eA m fs) d ls) e.args) (pQ e) n= .er b n':=by simp only[dI.bind,ht]
      rw[e1]
      refine⟨?_,fun t n' h3=>by cases h3⟩
      show _=Av.R.ok (AV.tup [ty0.av,.int .i64 b]) (h.set q (bh m mp n'))
      simp[S51,K51_1,b2,b12,b17,b18,b15,k1,hb,sH]
      rfl
     | ok l n'=>
      rw[ht] at g1
      obtain⟨g3,g4⟩:=g2 l n' ht
      have k1:∀ f:AV→M AV,ae (ai pg 149 [.hp q 0,aK ls,cb e.args]) f h=f (.tup [ib l,.int .i64 0]) (h.set q (bh m mp n')):=fun f=>aP g1 f
      have hp:=t150 e l g4 (by omega) (fun o=>by rw[g3];exact a11 o) (fun o=>by rw[g3];exact a14 o) (fun o=>by rw[g3];exact a13 o)
      have R':=R.set n'
      have hor:am T .or 3 (.int .i64 n') (.int .i64 e.n)=some (.int .i64 (nV n' e.n)):=rfl
      have l1:∀ f:AV→M AV,ae (aR T 3 (.hp q 10)) f (h.set q (bh m mp n'))=f (.int .i64 n') (h.set q (bh m mp n')):=fun f=>aP R'.eff f
      have l2:∀ f:AV→M AV,ae (bo T 3 (.hp q 10) (.int .i64 (nV n' e.n))) f (h.set q (bh m mp n'))=f (.tup []) (h.set q (bh m mp (nV n' e.n))):=fun f=>by
       rw[aP (R'.put (nV n' e.n)) f,JR.twice]
      have e1:dI.bind (dm (bI (eA m fs) d ls) e.args) (pQ e) n=pQ e l n':=by simp only[dI.bind,ht]
      rw[e1]
      have hsl:=fun t=>zZ (e:=e) (l:=l) g4 (by omega) (fun o=>by rw[g3];exact a11 o) (fun o=>by rw[g3];exact a14 o) (t:=t)
      by_cases o16:e.op=16
      ·have b16:(e.op== 16)=true:=beq_iff_eq.2 o16
       cases hpl:bO e l with
       | none=>
        rw[hpl] at hp
        rw[rU hpl,if_pos o16]
        refine⟨?_,fun t n' h3=>by cases h3⟩
        show _=Av.R.ok (AV.tup [ty0.av,.int .i64 13]) (h.set q (bh m mp (nV n' e.n)))
        simp[S51,K51_1,K51_0,b2,b12,b17,b18,b15,b16,k1,l1,hor,l2,hp]
        rfl
       | some t=>
        rw[hpl] at hp
        rw[rV hpl,if_pos o16]
        refine⟨?_,fun t' n' h3=>by cases h3;exact hsl t hpl⟩
        show _=Av.R.ok (AV.tup [t.av,.int .i64 0]) (h.set q (bh m mp (nV n' e.n)))
        simp[S51,K51_1,K51_0,b2,b12,b17,b18,b15,b16,k1,l1,hor,l2,hp]
        rfl
      ·have b16:(e.op== 16)=false:=beq_eq_false_iff_ne.2 o16
       cases hpl:bO e l with
       | none=>
        rw[hpl] at hp
        rw[rU hpl,if_neg o16]
        refine⟨?_,fun t n' h3=>by cases h3⟩
        show _=Av.R.ok (AV.tup [ty0.av,.int .i64 13]) (h.set q (bh m mp n'))
        simp[S51,K51_1,K51_0,b2,b12,b17,b18,b15,b16,k1,hp]
        rfl
       | some t=>
        rw[hpl] at hp
        rw[rV hpl,if_neg o16]
        refine⟨?_,fun t' n' h3=>by cases h3;exact hsl t hpl⟩
        show _=Av.R.ok (AV.tup [t.av,.int .i64 0]) (h.set q (bh m mp n'))
        simp[S51,K51_1,K51_0,b2,b12,b17,b18,b15,b16,k1,hp]
        rfl
theorem Ns{q:Nat}{m:Ap.Mod}{mp:AV}{fs:List Face}(K:CxOk m fs):∀ d,mN q m mp fs d
 | 0=>fun ls e n h hr=>by cases hr
 | d + 1=>B7 K (Ns K d)
def cE:List Face→List Face→List Face
 | acc,[]=>acc
 | acc,f:: fs=>cE (if (acc.find? fun g=>g.module== f.module).isSome=true then acc else acc++[f]) fs
theorem qO(s:aU):(fs acc:List Face)→(cE acc fs).find? (fun g=>g.module== s)=((acc.find? fun g=>g.module== s).or (fs.find? fun g=>g.module== s))
 | [],acc=>by simp[cE]
 | f:: fs,acc=>by
  rw[cE,qO s fs]
  by_cases h:(acc.find? fun g=>g.module== f.module).isSome=true
  ·rw[if_pos h,List.find?_cons]
   cases hs:f.module== s with
   | false=>rfl
   | true=>
    have e:f.module=s:=beq_iff_eq.1 hs
    rw[e] at h
    obtain⟨x,hx⟩:=Option.isSome_iff_exists.1 h
    rw[hx]
    rfl
  ·rw[if_neg h,List.find?_append,List.find?_cons,List.find?_nil,List.find?_cons]
   cases hs:f.module== s with
   | false=>simp
   | true=>
    cases acc.find? (fun g=>g.module== s) <;> simp
theorem tp:(fs acc:List Face)→∀ f∈cE acc fs,f∈acc∨f∈fs
 | [],acc,f,h=>.inl h
 | g:: fs,acc,f,h=>by
  rw[cE] at h
  rcases tp fs _ f h with h | h
  ·split at h
   ·exact .inl h
   ·rcases List.mem_append.1 h with h | h
    ·exact .inl h
    ·rw[List.mem_singleton] at h;subst h;exact .inr List.mem_cons_self
  ·exact .inr (List.mem_cons_of_mem _ h)
def xX(s:Sig):Bool:=bN s.result&&s.params.all bN
theorem BW(f:Face):iB f=f.funcs.all xX:=rfl
theorem Nh(t:Ty)(ht:t.Lim):ai pg 143 [t.av]=M.pure (.bool (!(bN t))):=by
 rw[C143]
 simp[S143,t141 t ht]
theorem F6{h:Hp}{l:Nat}{fs:List Face}(hl:h[l]? = some [.tup (cC fs)])(f:Face)(hn:fs.find? (fun g=>g.module== f.module)=none):nY T 118 (.mp l) (.str f.module) f.av h= .ok (.tup []) (h.set l [.tup (cC (fs++[f]))]):=by
 have e:nY T 118 (.mp l) (.str f.module) f.av h=(match h[l]? with
   | some [.tup es]=>(match xH T 9 es (.str f.module) f.av with
    | some es'=>.ok (.tup []) (h.set l [.tup es'])
    | none=>.fail)
   | _=>.fail):=rfl
 rw[e,hl]
 simp only
 unfold xH
 rcases qX f.module fs 0 with ⟨h1,h2⟩ | ⟨g,j,k,h1,h2⟩
 ·rw[h2]
  simp[cC]
 ·rw[hn] at h1;cases h1
theorem mi(f:Face):aH 2 f.av=M.pure f.av:=by rw[ba (oT f),lz,tC]
theorem HP(V:List AV→M AV){h:Hp}{q l:Nat}{m:Ap.Mod}{acc:List Face}(R:JR h q m (.mp l) acc 0)(hl:h[l]? = some [.tup (cC acc)])(fs:List Face)(i:Nat)(f:Face)(hf:f.Lim):∀(k j:Nat),f.funcs.length - j=k→j≤f.funcs.length→
  aj (L49_0 (ai pg) aj V) [.hp q 0,.ip (ab f.av),faces fs,.int .i64 fs.length,.int .i64 i,sigs f.funcs,.int .i64 f.funcs.length,.int .i64 j] h=(if (f.funcs.drop j).all xX=true then V [.hp q 0,faces fs,.int .i64 fs.length,.int .i64 (IntKind.i64.wrap ((i:Int) + 1))] (if (acc.find? fun g=>g.module== f.module).isSome=true then h else h.set l [.tup (cC (acc++[f]))]) else .ok (.tup [.nilp,.bool false]) h):=by
 intro k
 have hlen:=hf.len
 induction k with
 | zero=>
  intro j hk hj
  have h1:¬ ((j:Int) < (f.funcs.length:Int)):=by omega
  have h2:f.funcs.drop j=[]:=List.drop_eq_nil_of_le (by omega)
  rw[h2,if_pos (show[].all xX=true from rfl)]
  have l1:∀ g:AV→M AV,ae (aR T 118 (.hp q 9)) g h=g (.mp l) h:=fun g=>aP R.mp g
  have l2:∀ g:AV→M AV,ae (fw T 118 (.mp l) (.str f.module) true) g h=g (.tup [((acc.find? fun g=>g.module== f.module).getD iF).av,.bool (acc.find? fun g=>g.module== f.module).isSome]) h:=fun g=>aP (oP R.map f.module) g
  rw[FL49_0]
  cases hc:acc.find? (fun g=>g.module== f.module) with
  | none=>
   rw[hc] at l2
   have l3:∀ g:AV→M AV,ae (nY T 118 (.mp l) (.str f.module) f.av) g h=g (.tup []) (h.set l [.tup (cC (acc++[f]))]):=fun g=>aP (F6 hl f hc) g
   simp[L49_0,h1,l1,l2,mi,l3]
  | some g=>
   rw[hc] at l2
   simp[L49_0,h1,l1,l2,mi]
 | succ k ih=>
  intro j hk hj
  have hlt:j < f.funcs.length:=by omega
  have h1:(j:Int) < (f.funcs.length:Int):=by omega
  have h2:f.funcs.drop j=f.funcs[j]:: f.funcs.drop (j + 1):=List.drop_eq_getElem_cons hlt
  have hw:IntKind.i64.wrap ((j:Int) + 1)=(j:Int) + 1:=bq (by omega)
  have hix:=Jj (l:=f.funcs) (n:=(j:Int)) (by omega) h1
  rw[Int.toNat_natCast,getElem!_pos f.funcs j hlt] at hix
  have hs:=hf.sigs _ (List.getElem_mem hlt)
  have ih':aj (L49_0 (ai pg) aj V) [.hp q 0,.ip (ab f.av),faces fs,.int .i64 fs.length,.int .i64 i,sigs f.funcs,.int .i64 f.funcs.length,.int .i64 ((j:Int) + 1)] h=_:=ih (j + 1) (by omega) (by omega)
  rw[h2,List.all_cons]
  generalize f.funcs[j]=s at hix hs ⊢
  have r1:=t141 s.result hs.result
  have r2:=t142 (.fn (.func 143) [] []) (fun t=>!(bN t)) s.params (by have:=hs.plen;omega) (fun g=>by simp[cl,dL]) (fun t ht=>Nh t (hs.ptys t ht))
  have r3:(s.params.any fun t=>!(bN t))= !(s.params.all bN):=by
   rw[List.any_eq_not_all_not]
   simp
  rw[r3] at r2
  rw[FL49_0]
  simp only[lz] at ih' ⊢
  unfold xX
  cases b1:bN s.result with
  | false=>
   rw[b1] at r1
   simp[L49_0,h1,hix,r1]
   rfl
  | true=>
   rw[b1] at r1
   cases b2:s.params.all bN with
   | false=>
    rw[b2] at r2
    simp[L49_0,h1,hix,r1,r2]
    rfl
   | true=>
    rw[b2] at r2
    simp[L49_0,h1,hix,r1,r2,hw,ih',xX]
theorem HQ{q l:Nat}{m:Ap.Mod}(hq:l≠q)(fs:List Face)(hfs:∀ f∈fs,f.Lim)(hlen:fs.length≤140737488355328):∀(k i:Nat)(acc:List Face)(h:Hp),fs.length - i=k→i≤fs.length→JR h q m (.mp l) acc 0→h[l]? = some [.tup (cC acc)]→
  ((fs.drop i).all iB=true→aj (L49_1 (ai pg) aj) [.hp q 0,faces fs,.int .i64 fs.length,.int .i64 i] h= .ok (.tup [.hp q 0,.bool true]) (h.set l [.tup (cC (cE acc (fs.drop i)))]))∧((fs.drop i).all iB=false→∃ h',aj (L49_1 (ai pg) aj) [.hp q 0,faces fs,.int .i64 fs.length,.int .i64 i] h= .ok (.tup [.nilp,.bool false]) h'):=by
 intro k
 induction k with
 | zero=>
  intro i acc h hk hi R hl
  have h1:¬ ((i:Int) < (fs.length:Int)):=by omega
  have h2:fs.drop i=[]:=List.drop_eq_nil_of_le (by omega)
  rw[h2]
  refine⟨fun _=>?_,fun hc=>by cases hc⟩
  have e:h.set l [.tup (cC (cE acc []))]=h:=by
   obtain⟨hll,e⟩:=List.getElem?_eq_some_iff.1 hl
   show h.set l [.tup (cC acc)]=h
   rw[← e]
   exact List.set_getElem_self hll
  rw[e,FL49_1]
  simp[L49_1,h1]
  rfl
 | succ k ih=>
  intro i acc h hk hi R hl
  have hlt:i < fs.length:=by omega
  have h1:(i:Int) < (fs.length:Int):=by omega
  have h2:fs.drop i=fs[i]:: fs.drop (i + 1):=List.drop_eq_getElem_cons hlt
  have hw:IntKind.i64.wrap ((i:Int) + 1)=((i + 1:Nat):Int):=bq (by omega)
  have hix:=Mx (l:=fs) (n:=(i:Int)) (by omega) h1
  rw[Int.toNat_natCast,getElem!_pos fs i hlt] at hix
  have hf:=hfs _ (List.getElem_mem hlt)
  rw[h2,List.all_cons]
  generalize fs[i]=f at hix hf ⊢
  have hin:=HP (aj (L49_1 (ai pg) aj)) R hl fs i f hf f.funcs.length 0 rfl (Nat.zero_le _)
  rw[List.drop_zero,hw] at hin
  have hrun:aj (L49_1 (ai pg) aj) [.hp q 0,faces fs,.int .i64 fs.length,.int .i64 i] h=aj (L49_0 (ai pg) aj (aj (L49_1 (ai pg) aj))) [.hp q 0,.ip (ab f.av),faces fs,.int .i64 fs.length,.int .i64 i,sigs f.funcs,.int .i64 f.funcs.length,.int .i64 ((0:Nat):Int)] h:=by
   rw[FL49_1]
   simp[L49_1,h1,hix,mi]
  rw[hrun,hin,← BW]
  cases hfo:iB f with
  | false=>
   refine⟨fun hc=>by simp at hc,fun _=>⟨h,by simp⟩⟩
  | true=>
   simp only[if_true,Bool.true_and]
   have hd:cE acc (f:: fs.drop (i + 1))=cE (if (acc.find? fun g=>g.module== f.module).isSome=true then acc else acc++[f]) (fs.drop (i + 1)):=rfl
   rw[hd]
   have hll:=(List.getElem?_eq_some_iff.1 hl).1
   by_cases hc:(acc.find? fun g=>g.module== f.module).isSome=true
   ·rw[if_pos hc,if_pos hc]
    exact ih (i + 1) acc h (by omega) (by omega) R hl
   ·rw[if_neg hc,if_neg hc]
    have hl':(h.set l [.tup (cC (acc++[f]))])[l]? = some [.tup (cC (acc++[f]))]:=List.getElem?_set_self hll
    have R':JR (h.set l [.tup (cC (acc++[f]))]) q m (.mp l) (acc++[f]) 0:=⟨by rw[List.getElem?_set_ne hq];exact R.row,.inr ⟨l,rfl,hl'⟩,R.ne⟩
    obtain⟨i1,i2⟩:=ih (i + 1) (acc++[f]) _ (by omega) (by omega) R' hl'
    refine⟨fun ha=>?_,i2⟩
    rw[i1 ha,List.set_set]
theorem NT(m:Ap.Mod)(fs:List Face)(hfs:∀ f∈fs,f.Lim)(hlen:fs.length≤140737488355328)(h:Hp):
  (fs.all iB=true→ai pg 49 [m.av,faces fs] h= .ok (.tup [.hp (h.length + 1) 0,.bool true]) (h++[[.tup (cC (cE [] fs))],bh m (.mp h.length) 0]))∧(fs.all iB=false→∃ h',ai pg 49 [m.av,faces fs] h= .ok (.tup [.nilp,.bool false]) h'):=by
 have R:JR (h++[[AV.tup []],bh m (.mp h.length) 0]) (h.length + 1) m (.mp h.length) [] 0:=⟨by simp,.inr ⟨h.length,rfl,by simp[cC]⟩,by simp⟩
 obtain⟨h1,h2⟩:=HQ (q:=h.length + 1) (l:=h.length) (m:=m) (by omega) fs hfs hlen fs.length 0 [] _ rfl (Nat.zero_le _) R (by simp[cC])
 rw[List.drop_zero] at h1 h2
 have hrun:ai pg 49 [m.av,faces fs] h=aj (L49_1 (ai pg) aj) [.hp (h.length + 1) 0,faces fs,.int .i64 fs.length,.int .i64 ((0:Nat):Int)] (h++[[AV.tup []],bh m (.mp h.length) 0]):=by
  rw[C49]
  have b1:aM T true 120 [(0,m.av),(1,.mp h.length)]=some (.agg (bh m (.mp h.length) 0)):=rfl
  have n1:∀ f:AV→M AV,ae gb f h=f (.mp h.length) (h++[[AV.tup []]]):=fun f=>rfl
  have n2:∀ f:AV→M AV,ae (newH (bh m (.mp h.length) 0)) f (h++[[AV.tup []]])=f (.hp (h.length + 1) 0) (h++[[AV.tup []],bh m (.mp h.length) 0]):=fun f=>by
   have:newH (bh m (.mp h.length) 0) (h++[[AV.tup []]])= .ok (.hp (h++[[AV.tup []]]).length 0) ((h++[[AV.tup []]])++[bh m (.mp h.length) 0]):=rfl
   rw[aP this]
   simp
  have lm:ah T 29 (.ip (ab m.av))=some m.av:=rfl
  simp only[S49,lm,ar,n1,b1,bY,n2,Jn]
  rfl
 rw[hrun]
 refine⟨fun ha=>?_,h2⟩
 rw[h1 ha]
 simp
end Go.Proofs.YtkkabinknmldeaaGreat
