/- What the functions of the seat compute, part 7: the texts of the claim, one behind the other. Conditions: bounds, as each theorem names them. -/
import Derived.Test.YtkkabinknmldeaaGreatTf
import Derived.Test.YtkkabinknmldeaaGreatLd
import Derived.Test.YtkkabinknmldeaaGreatTd
import Derived.Test.YtkkabinknmldeaaGreatTb
import Derived.Test.YtkkabinknmldeaaGreatTe
set_option linter.unusedSimpArgs false
set_option linter.unusedVariables false
namespace Go.Proofs.YtkkabinknmldeaaGreat
open Go Go.Av Go.Av.Ap
set_option maxRecDepth 100000
theorem DD{e:Exp}(h:kR e=true):(e.op=11→e.args.length=3)∧(e.op=12→e.args.length=2)∧(e.op=14→e.args.length=1)∧(e.op=18→e.args.length=1)∧(e.op=13→e.names.length=e.args.length)∧e.args.length≤1000000:=by
 unfold kR at h
 simp only[Bool.and_eq_true] at h
 obtain⟨⟨⟨⟨⟨⟨⟨h1,h2⟩,h3⟩,h4⟩,h5⟩,h6⟩,h7⟩,h8⟩:=h
 simp only[decide_eq_true_eq] at h1 h2
 have ho:e.op=0∨e.op=1∨e.op=2∨e.op=3∨e.op=4∨e.op=5∨e.op=6∨e.op=7∨e.op=8∨e.op=9∨e.op=10∨e.op=11∨e.op=12∨e.op=13∨e.op=14∨e.op=15∨e.op=16∨e.op=17∨e.op=18:=by omega
 by_cases o15:e.op=15
 ·have:e.args.length≤6:=by
   simp[fq,o15] at h8
   exact h8.2
  exact⟨fun h=>by omega,fun h=>by omega,fun h=>by omega,fun h=>by omega,fun h=>by omega,by omega⟩
 ·by_cases o13:e.op=13
  ·have hn:e.names.length≤8:=by
    simp[fq,o13,uJ] at h8
    exact h8.2
   have he:e.names.length=e.args.length:=by
    simp[fc,o13] at h3
    omega
   exact⟨fun h=>by omega,fun h=>by omega,fun h=>by omega,fun h=>by omega,fun _=>he,by omega⟩
  ·have key:e.args.length≤3∧(e.op=11→e.args.length=3)∧(e.op=12→e.args.length=2)∧(e.op=14→e.args.length=1)∧(e.op=18→e.args.length=1):=by
    rcases ho with o | o | o | o | o | o | o | o | o | o | o | o | o | o | o | o | o | o | o <;> simp[fc,o] at h3 o13 o15 ⊢ <;> omega
   exact⟨key.2.1,key.2.2.1,key.2.2.2.1,key.2.2.2.2,fun h=>absurd h o13,by omega⟩
theorem Fv{ns:List aW}{l:List Ty}(h:∀ t∈l,eb t)(hl:l.length≤1000000):eb (.mk 2 (ns.zip l)):=uY (by rw[List.length_zip];omega) fun f hf=>h f.2 (List.of_mem_zip (show (f.1,f.2)∈ns.zip l from hf)).2
theorem tQ(b:List cr):(fs:List cr)→(∀ f∈fs,∀ t u:Ty,yo f.2 t=some u→eb u)→∀ f∈mr fs b,eb f.2
 | [],_,f,hf=>by simp[mr] at hf
 | g :: fs,h,f,hf=>by
  rw[oG,List.mem_append] at hf
  rcases hf with hf | hf
  ·rw[FJ] at hf
   cases hz:cm (fun z:cr=>z.1== g.1) b with
   | none=>rw[hz] at hf;cases hf
   | some z=>
    rw[hz] at hf
    dsimp only at hf
    cases hu:yo g.2 z.2 with
    | none=>rw[hu] at hf;cases hf
    | some u=>
     rw[hu] at hf
     simp only[List.mem_singleton] at hf
     subst hf
     exact h g List.mem_cons_self z.2 u hu
  ·exact tQ b fs (fun f hf=>h f (List.mem_cons_of_mem _ hf)) f hf
theorem AY(a b u:Ty)(ha:eb a)(h:yo a b=some u):eb u:=by
 have e1:yo a b=if a.kind=b.kind then some (.mk a.kind (mr a.fields b.fields)) else none:=by
  cases a;cases b;simp only[yo,Ty.kind,Ty.fields];rfl
 rw[e1] at h
 split at h
 ·cases h
  refine uY (Nat.le_trans (yd _ _) ha.len) (tQ _ _ fun f hf t u hu=>?_)
  have:=Aq hf
  exact AY f.2 t u (ha.kid hf) hu
 ·cases h
termination_by SizeOf.sizeOf a
theorem im(k:Int):eb (.mk k []):=uY (by simp) (by simp)
theorem zI {e:Exp} {l:List Ty} (hl:∀ t∈l,eb t) (hlen:l.length≤1000000) (h11:e.op=11→l.length=3) (h14:e.op=14→l.length=1) {t:Ty} (h:cD e l=some t):eb t:=by
 unfold cD at h
 split at h
 ·split at h <;> cases h;exact im _
 ·split at h
  ·cases h;exact im _
  ·split at h
   ·split at h <;> cases h;exact im _
   ·split at h
    ·split at h <;> cases h;exact im _
    ·split at h
     ·split at h <;> cases h;exact im _
     ·split at h
      ·rename_i o
       split at h
       ·rename_i u hu
        split at h <;> cases h
        refine AY _ _ _ ?_ hu
        have:=h11 o
        rw[getElem!_pos l 1 (by omega)]
        exact hl _ (List.getElem_mem _)
       ·cases h
      ·split at h
       ·cases h;exact Fv hl hlen
       ·split at h
        ·rename_i o
         split at h
         ·rename_i z hz
          cases h
          have:=h14 o
          have h0:eb l[0]!:=by rw[getElem!_pos l 0 (by omega)];exact hl _ (List.getElem_mem _)
          exact h0.kid (ic hz).1
         ·cases h
        ·cases h;exact im _
theorem Ps(l:List cr)(h:l.length≤1000000):ai pg 146 [aH l]=M.pure (aH l):=by
 have e0:ai pg 146 [aH l]=fe T 23 (ai pg) [aH l]:=cS hOther rfl _
 have e1:=Iw (a:=[]) (b:=l) (by simp;omega)
 rw[e0]
 show ah (dL T 23 (.sl []) (aH l))=_
 have e2:dL T 23 (.sl []) (aH l)=some (aH l):=e1
 rw[e2]
 rfl
theorem BN {q:Nat} {m:Ap.Mod} {mp:AV} {fs:List Face} (K:CxOk m fs) {d:Nat} (P:lL q m mp fs d):lL q m mp fs (d + 1):=by
 intro ls e n h hr he hls hll R
 rw[kQ,Bool.and_eq_true,List.all_eq_true] at hr
 obtain⟨hsh,har⟩:=hr
 obtain⟨a11,a12,a14,a18,a13,alen⟩:=DD hsh
 have ha:∀ x∈e.args,cE d x=true∧x.Lim:=fun x hx=>⟨har x hx,he.kid hx⟩
 have hll':ls.length + d≤1000000:=by omega
 show ai pg 51 [.hp q 0,aH ls,e.av] h=NO q m mp h (db (ej m fs) (bF (ej m fs) d) ls e n)∧∀ t n',db (ej m fs) (bF (ej m fs) d) ls e n= .ok t n'→eb t
 by_cases o2:e.op=2
 ·have hk:=t145 ls (by omega) e.s
  rw[zK o2,C51]
  cases hz:cm (fun z:cr=>z.1== e.s) ls with
  | none=>
   rw[hz] at hk
   refine⟨?_,fun t n' h3=>by cases h3⟩
   show _=Av.R.ok (AV.tup [ty0.av,.int .i64 12]) (h.set q (aZ m mp n))
   rw[R.same]
   simp[S51,o2,hk,sg]
   rfl
  | some z=>
   rw[hz] at hk
   refine⟨?_,fun t n' h3=>by cases h3;exact hls z (ic hz).1⟩
   show _=Av.R.ok (AV.tup [z.2.av,.int .i64 0]) (h.set q (aZ m mp n))
   rw[R.same]
   simp[S51,o2,hk]
   rfl
 ·by_cases o12:e.op=12
  ·obtain⟨x,y,hxy⟩:∃ x y,e.args=[x,y]:=by
    have:=a12 o12
    match e.args,this with
    | [x,y],_=>exact⟨x,y,rfl⟩
   have hx0:e.args[0]! = x:=by rw[hxy];rfl
   have hx1:e.args[1]! = y:=by rw[hxy];rfl
   have i0:ak T 24 (cG e.args) (.int .i64 0)=some (.ip (ab x.av)):=by
    have:=pB (l:=e.args) (n:=0) (by omega) (by rw[hxy];simp)
    rw[this,hxy];rfl
   have i1:ak T 24 (cG e.args) (.int .i64 1)=some (.ip (ab y.av)):=by
    have:=pB (l:=e.args) (n:=1) (by omega) (by rw[hxy];simp)
    rw[this,hxy];rfl
   obtain⟨xr,xl⟩:=ha x (by rw[hxy];simp)
   obtain⟨yr,yl⟩:=ha y (by rw[hxy];simp)
   obtain⟨p1,p2⟩:=P ls x n h xr xl hls hll' R
   rw[rX o12,hx0,hx1,C51]
   have hne:=gW (ej m fs) d ls x n
   cases ht:bF (ej m fs) d ls x n with
   | er b n'=>
    rw[ht] at p1
    have hb:(b != 0)=true:=bne_iff_ne.2 (hne b n' ht)
    have k1:∀ f:AV→M AV,ae (ai pg 51 [.hp q 0,aH ls,x.av]) f h=f (.tup [ty0.av,.int .i64 b]) (h.set q (aZ m mp n')):=fun f=>aV p1 f
    have e1:ew.bind (bF (ej m fs) d ls x) (fun t=>bF (ej m fs) d (ls++[(e.s,t)]) y) n= .er b n':=by simp only[ew.bind,ht]
    rw[e1]
    refine⟨?_,fun t n' h3=>by cases h3⟩
    show _=Av.R.ok (AV.tup [ty0.av,.int .i64 b]) (h.set q (aZ m mp n'))
    simp[S51,o12,i0,k1,hb,sg]
    rfl
   | ok u n'=>
    rw[ht] at p1
    have hus:=p2 u n' ht
    have k1:∀ f:AV→M AV,ae (ai pg 51 [.hp q 0,aH ls,x.av]) f h=f (.tup [u.av,.int .i64 0]) (h.set q (aZ m mp n')):=fun f=>aV p1 f
    obtain⟨p3,p4⟩:=P (ls++[(e.s,u)]) y n' (h.set q (aZ m mp n')) yr yl (fun z hz=>by
     rcases List.mem_append.1 hz with hz | hz
     ·exact hls z hz
     ·rw[List.mem_singleton] at hz;subst hz;exact hus) (by rw[List.length_append];simp;omega) (R.set n')
    have e1:ew.bind (bF (ej m fs) d ls x) (fun t=>bF (ej m fs) d (ls++[(e.s,t)]) y) n=bF (ej m fs) d (ls++[(e.s,u)]) y n':=by simp only[ew.bind,ht]
    rw[e1]
    refine⟨?_,fun t n'' h3=>p4 t n'' h3⟩
    have hap:=Iw (a:=ls) (b:=[(e.s,u)]) (by simp;omega)
    have hcl:=Ps ls (by omega)
    cases ht2:bF (ej m fs) d (ls++[(e.s,u)]) y n' with
    | er b n''=>
     rw[ht2] at p3
     have k2:∀ f:AV→M AV,ae (ai pg 51 [.hp q 0,aH (ls++[(e.s,u)]),y.av]) f (h.set q (aZ m mp n'))=f (.tup [ty0.av,.int .i64 b]) ((h.set q (aZ m mp n')).set q (aZ m mp n'')):=fun f=>aV p3 f
     show _=Av.R.ok (AV.tup [ty0.av,.int .i64 b]) (h.set q (aZ m mp n''))
     simp[S51,o12,i0,i1,k1,uw,N9,hcl,hap,k2]
     rfl
    | ok t n''=>
     rw[ht2] at p3
     have k2:∀ f:AV→M AV,ae (ai pg 51 [.hp q 0,aH (ls++[(e.s,u)]),y.av]) f (h.set q (aZ m mp n'))=f (.tup [t.av,.int .i64 0]) ((h.set q (aZ m mp n')).set q (aZ m mp n'')):=fun f=>aV p3 f
     show _=Av.R.ok (AV.tup [t.av,.int .i64 0]) (h.set q (aZ m mp n''))
     simp[S51,o12,i0,i1,k1,uw,N9,hcl,hap,k2]
     rfl
  ·have b2:(e.op== 2)=false:=beq_eq_false_iff_ne.2 o2
   have b12:(e.op== 12)=false:=beq_eq_false_iff_ne.2 o12
   by_cases o17:e.op=17∨e.op=18
   ·obtain⟨v1,v2⟩:=Pt P K ls hls hll' e o17 (fun o=>by
     have:=a18 o
     match hx:e.args,this with
     | [x],_=>exact⟨x,rfl,ha x (by rw[hx];simp)⟩) n h R
    refine⟨?_,v2⟩
    rw[← v1,C51]
    generalize hcode:ai pg 147 [.hp q 0,aH ls,e.av] h=code at v1
    cases hs:db (ej m fs) (bF (ej m fs) d) ls e n with
    | er b n'=>
     rw[hs] at v1
     rw[v1] at hcode
     have k1:∀ f:AV→M AV,ae (ai pg 147 [.hp q 0,aH ls,e.av]) f h=f (.tup [ty0.av,.int .i64 b]) (h.set q (aZ m mp n')):=fun f=>aV hcode f
     rw[v1]
     show _=Av.R.ok (AV.tup [ty0.av,.int .i64 b]) (h.set q (aZ m mp n'))
     rcases o17 with o | o
     ·have c17:(e.op== 17)=true:=beq_iff_eq.2 o
      simp[S51,K51_1,b2,b12,c17,k1]
      rfl
     ·have c17:(e.op== 17)=false:=beq_eq_false_iff_ne.2 (by omega)
      have c18:(e.op== 18)=true:=beq_iff_eq.2 o
      simp[S51,K51_1,b2,b12,c17,c18,k1]
      rfl
    | ok t n'=>
     rw[hs] at v1
     rw[v1] at hcode
     have k1:∀ f:AV→M AV,ae (ai pg 147 [.hp q 0,aH ls,e.av]) f h=f (.tup [t.av,.int .i64 0]) (h.set q (aZ m mp n')):=fun f=>aV hcode f
     rw[v1]
     show _=Av.R.ok (AV.tup [t.av,.int .i64 0]) (h.set q (aZ m mp n'))
     rcases o17 with o | o
     ·have c17:(e.op== 17)=true:=beq_iff_eq.2 o
      simp[S51,K51_1,b2,b12,c17,k1]
      rfl
     ·have c17:(e.op== 17)=false:=beq_eq_false_iff_ne.2 (by omega)
      have c18:(e.op== 18)=true:=beq_iff_eq.2 o
      simp[S51,K51_1,b2,b12,c17,c18,k1]
      rfl
   ·have b17:(e.op== 17)=false:=beq_eq_false_iff_ne.2 (by omega)
    have b18:(e.op== 18)=false:=beq_eq_false_iff_ne.2 (by omega)
    by_cases o15:e.op=15
    ·obtain⟨v1,v2⟩:=Pu P K ls hls hll' e o15 alen ha n h R
     refine⟨?_,v2⟩
     have b15:(e.op== 15)=true:=beq_iff_eq.2 o15
     rw[C51]
     cases hs:db (ej m fs) (bF (ej m fs) d) ls e n with
     | er b n'=>
      rw[hs] at v1
      have k1:∀ f:AV→M AV,ae (ai pg 148 [.hp q 0,aH ls,e.av]) f h=f (.tup [ty0.av,.int .i64 b]) (h.set q (aZ m mp n')):=fun f=>aV v1 f
      show _=Av.R.ok (AV.tup [ty0.av,.int .i64 b]) (h.set q (aZ m mp n'))
      simp[S51,K51_1,b2,b12,b17,b18,b15,k1]
      rfl
     | ok t n'=>
      rw[hs] at v1
      have k1:∀ f:AV→M AV,ae (ai pg 148 [.hp q 0,aH ls,e.av]) f h=f (.tup [t.av,.int .i64 0]) (h.set q (aZ m mp n')):=fun f=>aV v1 f
      show _=Av.R.ok (AV.tup [t.av,.int .i64 0]) (h.set q (aZ m mp n'))
      simp[S51,K51_1,b2,b12,b17,b18,b15,k1]
      rfl
    ·have b15:(e.op== 15)=false:=beq_eq_false_iff_ne.2 o15
     obtain⟨g1,g2⟩:=Nx P ls hls hll' e.args alen ha n h R
     rw[pt o2 o12 o17 o15,C51]
     cases ht:ef (bF (ej m fs) d ls) e.args n with
     | er b n'=>
      rw[ht] at g1
      have hb:(b != 0)=true:=bne_iff_ne.2 (m6 (gW (ej m fs) d ls) _ n b n' ht)
      have k1:∀ f:AV→M AV,ae (ai pg 149 [.hp q 0,aH ls,cG e.args]) f h=f (.tup [.sl [],.int .i64 b]) (h.set q (aZ m mp n')):=fun f=>aV g1 f
      have e1:ew.bind (ef (bF (ej m fs) d ls) e.args) (pn e) n= .er b n':=by simp only[ew.bind,ht]
      rw[e1]
      refine⟨?_,fun t n' h3=>by cases h3⟩
      show _=Av.R.ok (AV.tup [ty0.av,.int .i64 b]) (h.set q (aZ m mp n'))
      simp[S51,K51_1,b2,b12,b17,b18,b15,k1,hb,sg]
      rfl
     | ok l n'=>
      rw[ht] at g1
      obtain⟨g3,g4⟩:=g2 l n' ht
      have k1:∀ f:AV→M AV,ae (ai pg 149 [.hp q 0,aH ls,cG e.args]) f h=f (.tup [gn l,.int .i64 0]) (h.set q (aZ m mp n')):=fun f=>aV g1 f
      have hp:=t150 e l g4 (by omega) (fun o=>by rw[g3];exact a11 o) (fun o=>by rw[g3];exact a14 o) (fun o=>by rw[g3];exact a13 o)
      have R':=R.set n'
      have hor:am T .or 3 (.int .i64 n') (.int .i64 e.n)=some (.int .i64 (pi n' e.n)):=rfl
      have l1:∀ f:AV→M AV,ae (bA T 3 (.hp q 10)) f (h.set q (aZ m mp n'))=f (.int .i64 n') (h.set q (aZ m mp n')):=fun f=>aV R'.eff f
      have l2:∀ f:AV→M AV,ae (bK T 3 (.hp q 10) (.int .i64 (pi n' e.n))) f (h.set q (aZ m mp n'))=f (.tup []) (h.set q (aZ m mp (pi n' e.n))):=fun f=>by
       rw[aV (R'.put (pi n' e.n)) f,JR.twice]
      have e1:ew.bind (ef (bF (ej m fs) d ls) e.args) (pn e) n=pn e l n':=by simp only[ew.bind,ht]
      rw[e1]
      have hsl:=fun t=>zI (e:=e) (l:=l) g4 (by omega) (fun o=>by rw[g3];exact a11 o) (fun o=>by rw[g3];exact a14 o) (t:=t)
      by_cases o16:e.op=16
      ·have b16:(e.op== 16)=true:=beq_iff_eq.2 o16
       cases hpl:cD e l with
       | none=>
        rw[hpl] at hp
        rw[mj hpl,if_pos o16]
        refine⟨?_,fun t n' h3=>by cases h3⟩
        show _=Av.R.ok (AV.tup [ty0.av,.int .i64 13]) (h.set q (aZ m mp (pi n' e.n)))
        simp[S51,K51_1,K51_0,b2,b12,b17,b18,b15,b16,k1,l1,hor,l2,hp]
        rfl
       | some t=>
        rw[hpl] at hp
        rw[ml hpl,if_pos o16]
        refine⟨?_,fun t' n' h3=>by cases h3;exact hsl t hpl⟩
        show _=Av.R.ok (AV.tup [t.av,.int .i64 0]) (h.set q (aZ m mp (pi n' e.n)))
        simp[S51,K51_1,K51_0,b2,b12,b17,b18,b15,b16,k1,l1,hor,l2,hp]
        rfl
      ·have b16:(e.op== 16)=false:=beq_eq_false_iff_ne.2 o16
       cases hpl:cD e l with
       | none=>
        rw[hpl] at hp
        rw[mj hpl,if_neg o16]
        refine⟨?_,fun t n' h3=>by cases h3⟩
        show _=Av.R.ok (AV.tup [ty0.av,.int .i64 13]) (h.set q (aZ m mp n'))
        simp[S51,K51_1,K51_0,b2,b12,b17,b18,b15,b16,k1,hp]
        rfl
       | some t=>
        rw[hpl] at hp
        rw[ml hpl,if_neg o16]
        refine⟨?_,fun t' n' h3=>by cases h3;exact hsl t hpl⟩
        show _=Av.R.ok (AV.tup [t.av,.int .i64 0]) (h.set q (aZ m mp n'))
        simp[S51,K51_1,K51_0,b2,b12,b17,b18,b15,b16,k1,hp]
        rfl
theorem PD{q:Nat}{m:Ap.Mod}{mp:AV}{fs:List Face}(K:CxOk m fs):∀ d,lL q m mp fs d
 | 0=>fun ls e n h hr=>by cases hr
 | d + 1=>BN K (PD K d)
def cC:List Face→List Face→List Face
 | acc,[]=>acc
 | acc,f:: fs=>cC (if (acc.find? fun g=>g.module== f.module).isSome=true then acc else acc++[f]) fs
theorem qx(s:aW):(fs acc:List Face)→(cC acc fs).find? (fun g=>g.module== s)=((acc.find? fun g=>g.module== s).or (fs.find? fun g=>g.module== s))
 | [],acc=>by simp[cC]
 | f:: fs,acc=>by
  rw[cC,qx s fs]
  by_cases h:(acc.find? fun g=>g.module== f.module).isSome=true
  ·rw[if_pos h,List.find?_cons]
   cases hs:f.module== s with
   | false=>rfl
   | true=>
    have e:f.module=s:=beq_iff_eq.1 hs
    rw[e] at h
    obtain⟨x,hx⟩:=Option.isSome_iff_exists.1 h
    rw[hx]
    rfl
  ·rw[if_neg h,List.find?_append,List.find?_cons,List.find?_nil,List.find?_cons]
   cases hs:f.module== s with
   | false=>simp
   | true=>
    cases acc.find? (fun g=>g.module== s) <;> simp
theorem sZ:(fs acc:List Face)→∀ f∈cC acc fs,f∈acc∨f∈fs
 | [],acc,f,h=>.inl h
 | g:: fs,acc,f,h=>by
  rw[cC] at h
  rcases sZ fs _ f h with h | h
  ·split at h
   ·exact .inl h
   ·rcases List.mem_append.1 h with h | h
    ·exact .inl h
    ·rw[List.mem_singleton] at h;subst h;exact .inr List.mem_cons_self
  ·exact .inr (List.mem_cons_of_mem _ h)
def xO(s:Sig):Bool:=bO s.result&&s.params.all bO
theorem BK(f:Face):gJ f=f.funcs.all xO:=rfl
theorem Pr(t:Ty)(ht:t.Lim):ai pg 143 [t.av]=M.pure (.bool (!(bO t))):=by
 rw[C143]
 simp[S143,t141 t ht]
theorem E7{h:Hp}{l:Nat}{fs:List Face}(hl:h[l]? = some [.tup (cd fs)])(f:Face)(hn:fs.find? (fun g=>g.module== f.module)=none):putH T 118 (.mp l) (.str f.module) f.av h= .ok (.tup []) (h.set l [.tup (cd (fs++[f]))]):=by
 have e:putH T 118 (.mp l) (.str f.module) f.av h=(match h[l]? with
   | some [.tup es]=>(match ou T 9 es (.str f.module) f.av with
    | some es'=>.ok (.tup []) (h.set l [.tup es'])
    | none=>.fail)
   | _=>.fail):=rfl
 rw[e,hl]
 simp only
 unfold ou
 rcases qF f.module fs 0 with ⟨h1,h2⟩ | ⟨g,j,k,h1,h2⟩
 ·rw[h2]
  simp[cd]
 ·rw[hn] at h1;cases h1
theorem kX(f:Face):aC 2 f.av=M.pure f.av:=by rw[bd (ol f),kd,td]
theorem Hf(V:List AV→M AV){h:Hp}{q l:Nat}{m:Ap.Mod}{acc:List Face}(R:JR h q m (.mp l) acc 0)(hl:h[l]? = some [.tup (cd acc)])(fs:List Face)(i:Nat)(f:Face)(hf:f.Lim):∀(k j:Nat),f.funcs.length - j=k→j≤f.funcs.length→
  af (L49_0 (ai pg) af V) [.hp q 0,.ip (ab f.av),faces fs,.int .i64 fs.length,.int .i64 i,sigs f.funcs,.int .i64 f.funcs.length,.int .i64 j] h=(if (f.funcs.drop j).all xO=true then V [.hp q 0,faces fs,.int .i64 fs.length,.int .i64 (IntKind.i64.wrap ((i:Int) + 1))] (if (acc.find? fun g=>g.module== f.module).isSome=true then h else h.set l [.tup (cd (acc++[f]))]) else .ok (.tup [.nilp,.bool false]) h):=by
 intro k
 have hlen:=hf.len
 induction k with
 | zero=>
  intro j hk hj
  have h1:¬ ((j:Int) < (f.funcs.length:Int)):=by omega
  have h2:f.funcs.drop j=[]:=List.drop_eq_nil_of_le (by omega)
  rw[h2,if_pos (show[].all xO=true from rfl)]
  have l1:∀ g:AV→M AV,ae (bA T 118 (.hp q 9)) g h=g (.mp l) h:=fun g=>aV R.mp g
  have l2:∀ g:AV→M AV,ae (cL T 118 (.mp l) (.str f.module) true) g h=g (.tup [((acc.find? fun g=>g.module== f.module).getD gO).av,.bool (acc.find? fun g=>g.module== f.module).isSome]) h:=fun g=>aV (od R.map f.module) g
  rw[FL49_0]
  cases hc:acc.find? (fun g=>g.module== f.module) with
  | none=>
   rw[hc] at l2
   have l3:∀ g:AV→M AV,ae (putH T 118 (.mp l) (.str f.module) f.av) g h=g (.tup []) (h.set l [.tup (cd (acc++[f]))]):=fun g=>aV (E7 hl f hc) g
   simp[L49_0,h1,l1,l2,kX,l3]
  | some g=>
   rw[hc] at l2
   simp[L49_0,h1,l1,l2,kX]
 | succ k ih=>
  intro j hk hj
  have hlt:j < f.funcs.length:=by omega
  have h1:(j:Int) < (f.funcs.length:Int):=by omega
  have h2:f.funcs.drop j=f.funcs[j]:: f.funcs.drop (j + 1):=List.drop_eq_getElem_cons hlt
  have hw:IntKind.i64.wrap ((j:Int) + 1)=(j:Int) + 1:=bG (by omega)
  have hix:=Iy (l:=f.funcs) (n:=(j:Int)) (by omega) h1
  rw[Int.toNat_natCast,getElem!_pos f.funcs j hlt] at hix
  have hs:=hf.sigs _ (List.getElem_mem hlt)
  have ih':af (L49_0 (ai pg) af V) [.hp q 0,.ip (ab f.av),faces fs,.int .i64 fs.length,.int .i64 i,sigs f.funcs,.int .i64 f.funcs.length,.int .i64 ((j:Int) + 1)] h=_:=ih (j + 1) (by omega) (by omega)
  rw[h2,List.all_cons]
  generalize f.funcs[j]=s at hix hs ⊢
  have r1:=t141 s.result hs.result
  have r2:=t142 (.fn (.func 143) [] []) (fun t=>!(bO t)) s.params (by have:=hs.plen;omega) (fun g=>by simp[cl,ee]) (fun t ht=>Pr t (hs.ptys t ht))
  have r3:(s.params.any fun t=>!(bO t))= !(s.params.all bO):=by
   rw[List.any_eq_not_all_not]
   simp
  rw[r3] at r2
  rw[FL49_0]
  simp only[kd] at ih' ⊢
  unfold xO
  cases b1:bO s.result with
  | false=>
   rw[b1] at r1
   simp[L49_0,h1,hix,r1]
   rfl
  | true=>
   rw[b1] at r1
   cases b2:s.params.all bO with
   | false=>
    rw[b2] at r2
    simp[L49_0,h1,hix,r1,r2]
    rfl
   | true=>
    rw[b2] at r2
    simp[L49_0,h1,hix,r1,r2,hw,ih',xO]
theorem Hg{q l:Nat}{m:Ap.Mod}(hq:l≠q)(fs:List Face)(hfs:∀ f∈fs,f.Lim)(hlen:fs.length≤140737488355328):∀(k i:Nat)(acc:List Face)(h:Hp),fs.length - i=k→i≤fs.length→JR h q m (.mp l) acc 0→h[l]? = some [.tup (cd acc)]→
  ((fs.drop i).all gJ=true→af (L49_1 (ai pg) af) [.hp q 0,faces fs,.int .i64 fs.length,.int .i64 i] h= .ok (.tup [.hp q 0,.bool true]) (h.set l [.tup (cd (cC acc (fs.drop i)))]))∧((fs.drop i).all gJ=false→∃ h',af (L49_1 (ai pg) af) [.hp q 0,faces fs,.int .i64 fs.length,.int .i64 i] h= .ok (.tup [.nilp,.bool false]) h'):=by
 intro k
 induction k with
 | zero=>
  intro i acc h hk hi R hl
  have h1:¬ ((i:Int) < (fs.length:Int)):=by omega
  have h2:fs.drop i=[]:=List.drop_eq_nil_of_le (by omega)
  rw[h2]
  refine⟨fun _=>?_,fun hc=>by cases hc⟩
  have e:h.set l [.tup (cd (cC acc []))]=h:=by
   obtain⟨hll,e⟩:=List.getElem?_eq_some_iff.1 hl
   show h.set l [.tup (cd acc)]=h
   rw[← e]
   exact List.set_getElem_self hll
  rw[e,FL49_1]
  simp[L49_1,h1]
  rfl
 | succ k ih=>
  intro i acc h hk hi R hl
  have hlt:i < fs.length:=by omega
  have h1:(i:Int) < (fs.length:Int):=by omega
  have h2:fs.drop i=fs[i]:: fs.drop (i + 1):=List.drop_eq_getElem_cons hlt
  have hw:IntKind.i64.wrap ((i:Int) + 1)=((i + 1:Nat):Int):=bG (by omega)
  have hix:=Og (l:=fs) (n:=(i:Int)) (by omega) h1
  rw[Int.toNat_natCast,getElem!_pos fs i hlt] at hix
  have hf:=hfs _ (List.getElem_mem hlt)
  rw[h2,List.all_cons]
  generalize fs[i]=f at hix hf ⊢
  have hin:=Hf (af (L49_1 (ai pg) af)) R hl fs i f hf f.funcs.length 0 rfl (Nat.zero_le _)
  rw[List.drop_zero,hw] at hin
  have hrun:af (L49_1 (ai pg) af) [.hp q 0,faces fs,.int .i64 fs.length,.int .i64 i] h=af (L49_0 (ai pg) af (af (L49_1 (ai pg) af))) [.hp q 0,.ip (ab f.av),faces fs,.int .i64 fs.length,.int .i64 i,sigs f.funcs,.int .i64 f.funcs.length,.int .i64 ((0:Nat):Int)] h:=by
   rw[FL49_1]
   simp[L49_1,h1,hix,kX]
  rw[hrun,hin,← BK]
  cases hfo:gJ f with
  | false=>
   refine⟨fun hc=>by simp at hc,fun _=>⟨h,by simp⟩⟩
  | true=>
   simp only[if_true,Bool.true_and]
   have hd:cC acc (f:: fs.drop (i + 1))=cC (if (acc.find? fun g=>g.module== f.module).isSome=true then acc else acc++[f]) (fs.drop (i + 1)):=rfl
   rw[hd]
   have hll:=(List.getElem?_eq_some_iff.1 hl).1
   by_cases hc:(acc.find? fun g=>g.module== f.module).isSome=true
   ·rw[if_pos hc,if_pos hc]
    exact ih (i + 1) acc h (by omega) (by omega) R hl
   ·rw[if_neg hc,if_neg hc]
    have hl':(h.set l [.tup (cd (acc++[f]))])[l]? = some [.tup (cd (acc++[f]))]:=List.getElem?_set_self hll
    have R':JR (h.set l [.tup (cd (acc++[f]))]) q m (.mp l) (acc++[f]) 0:=⟨by rw[List.getElem?_set_ne hq];exact R.row,.inr ⟨l,rfl,hl'⟩,R.ne⟩
    obtain⟨i1,i2⟩:=ih (i + 1) (acc++[f]) _ (by omega) (by omega) R' hl'
    refine⟨fun ha=>?_,i2⟩
    rw[i1 ha,List.set_set]
theorem P8(m:Ap.Mod)(fs:List Face)(hfs:∀ f∈fs,f.Lim)(hlen:fs.length≤140737488355328)(h:Hp):
  (fs.all gJ=true→ai pg 49 [m.av,faces fs] h= .ok (.tup [.hp (h.length + 1) 0,.bool true]) (h++[[.tup (cd (cC [] fs))],aZ m (.mp h.length) 0]))∧(fs.all gJ=false→∃ h',ai pg 49 [m.av,faces fs] h= .ok (.tup [.nilp,.bool false]) h'):=by
 have R:JR (h++[[AV.tup []],aZ m (.mp h.length) 0]) (h.length + 1) m (.mp h.length) [] 0:=⟨by simp,.inr ⟨h.length,rfl,by simp[cd]⟩,by simp⟩
 obtain⟨h1,h2⟩:=Hg (q:=h.length + 1) (l:=h.length) (m:=m) (by omega) fs hfs hlen fs.length 0 [] _ rfl (Nat.zero_le _) R (by simp[cd])
 rw[List.drop_zero] at h1 h2
 have hrun:ai pg 49 [m.av,faces fs] h=af (L49_1 (ai pg) af) [.hp (h.length + 1) 0,faces fs,.int .i64 fs.length,.int .i64 ((0:Nat):Int)] (h++[[AV.tup []],aZ m (.mp h.length) 0]):=by
  rw[C49]
  have b1:aL T true 120 [(0,m.av),(1,.mp h.length)]=some (.agg (aZ m (.mp h.length) 0)):=rfl
  have n1:∀ f:AV→M AV,ae dU f h=f (.mp h.length) (h++[[AV.tup []]]):=fun f=>rfl
  have n2:∀ f:AV→M AV,ae (newH (aZ m (.mp h.length) 0)) f (h++[[AV.tup []]])=f (.hp (h.length + 1) 0) (h++[[AV.tup []],aZ m (.mp h.length) 0]):=fun f=>by
   have:newH (aZ m (.mp h.length) 0) (h++[[AV.tup []]])= .ok (.hp (h++[[AV.tup []]]).length 0) ((h++[[AV.tup []]])++[aZ m (.mp h.length) 0]):=rfl
   rw[aV this]
   simp
  have lm:aj T 29 (.ip (ab m.av))=some m.av:=rfl
  simp only[S49,lm,aT,n1,b1,pW,n2,IE]
  rfl
 rw[hrun]
 refine⟨fun ha=>?_,h2⟩
 rw[h1 ha]
 simp
def iQ(name:aW):Ap.Mod:=⟨name,[],[],[],[],false,[],[],[]⟩
theorem PT(name:aW):CxOk (iQ name) [] where
 vlen:=by simp[iQ]
 vars:=nofun
 flen:=by simp[iQ]
 ulen:=by simp[iQ]
 plen:=nofun
 pars:=nofun
 res:=nofun
 slen:=nofun
 splen:=nofun
 spars:=nofun
 sres:=nofun
theorem K2(name:aW)(ls:List cr)(hls:∀ z∈ls,eb z.2)(hll:ls.length≤1000)(e:Exp)(hr:cE 12 e=true)(he:e.Lim)(want:Ty)(hw:bO want=true):ai pg 144 [.str name,aH ls,e.av,want.av]=M.pure (.int .i64 (kM ls e want)):=by
 have R:JR [aZ (iQ name) .nilm 0] 0 (iQ name) .nilm [] 0:=⟨rfl,.inl ⟨rfl,rfl⟩,by simp⟩
 obtain⟨p1,p2⟩:=PD (PT name) 12 ls e 0 _ hr he hls (by omega) R
 have hc:ej (iQ name) []=Hv:=rfl
 rw[hc] at p1 p2
 have b0:aL T false 29 [(0,.str name)]=some (iQ name).av:=rfl
 have b1:aL T true 120 [(0,(iQ name).av)]=some (.agg (aZ (iQ name) .nilm 0)):=rfl
 have n1:∀ f:AV→M AV,ae (newH (aZ (iQ name) .nilm 0)) f []=f (.hp 0 0) [aZ (iQ name) .nilm 0]:=fun f=>rfl
 have fin:∀(h:Hp)(n:Int),iE 6 h (.int .i64 n)= .int .i64 n:=fun h n=>rfl
 have hne:=gW Hv 12 ls e 0
 rw[C144]
 unfold kM
 cases ht:bF Hv 12 ls e 0 with
 | er b n=>
  rw[ht] at p1
  have hb:(b != 0)=true:=bne_iff_ne.2 (hne b n ht)
  have k1:∀ f:AV→M AV,ae (ai pg 51 [.hp 0 0,aH ls,e.av]) f [aZ (iQ name) .nilm 0]=f (.tup [ty0.av,.int .i64 b]) [aZ (iQ name) .nilm n]:=fun f=>aV p1 f
  refine bN (v:=.int .i64 b) (h':=[aZ (iQ name) .nilm n]) ?_ (fin _ _)
  simp[S144,b0,b1,n1,k1,hb]
  rfl
 | ok t n=>
  rw[ht] at p1
  have hts:=p2 t n ht
  have k1:∀ f:AV→M AV,ae (ai pg 51 [.hp 0 0,aH ls,e.av]) f [aZ (iQ name) .nilm 0]=f (.tup [t.av,.int .i64 0]) [aZ (iQ name) .nilm n]:=fun f=>aV p1 f
  have l1:∀ f:AV→M AV,ae (bA T 3 (.hp 0 10)) f [aZ (iQ name) .nilm n]=f (.int .i64 n) [aZ (iQ name) .nilm n]:=fun f=>rfl
  have hbl:=jE hts hw
  dsimp only
  by_cases hn:n=0
  ·subst hn
   rw[if_neg (by simp)]
   cases hb:bW t want with
   | true=>
    rw[hb] at hbl
    rw[if_pos rfl]
    refine bN (v:=.int .i64 0) (h':=[aZ (iQ name) .nilm 0]) ?_ (fin _ _)
    simp[S144,b0,b1,n1,k1,l1,hbl]
    rfl
   | false=>
    rw[hb] at hbl
    rw[if_neg (by decide)]
    refine bN (v:=.int .i64 13) (h':=[aZ (iQ name) .nilm 0]) ?_ (fin _ _)
    simp[S144,b0,b1,n1,k1,l1,hbl]
    rfl
  ·rw[if_pos hn]
   have hn':(n != 0)=true:=bne_iff_ne.2 hn
   refine bN (v:=.int .i64 14) (h':=[aZ (iQ name) .nilm n]) ?_ (fin _ _)
   simp[S144,b0,b1,n1,k1,l1,hn']
   rfl
def mJ(x:aW×Int):AV:=.tup [.str x.1,.int .i64 x.2]
theorem mi(ls vs:List cr)(es:List Exp)(i:Nat)(hl:es.length=vs.length)(h:i < vs.length):(fI ls vs es).drop i=(vs[i].1,kM ls (es[i]'(by omega)) vs[i].2):: (fI ls vs es).drop (i + 1):=by
 have hi:i < (fI ls vs es).length:=by simp[fI,List.length_zip];omega
 rw[List.drop_eq_getElem_cons hi]
 congr 1
 simp[fI]
theorem ot(ls vs:List cr)(es:List Exp)(i:Nat)(h:vs.length≤i):(fI ls vs es).drop i=[]:=List.drop_eq_nil_of_le (by simp[fI,List.length_zip];omega)
structure MvOk (m:Ap.Mod):Prop where
 lim:m.Lim
 vlen:m.vars.length≤8
 vars:∀ z∈m.vars,bO z.2=true
 ilen:m.init.length=m.vars.length
 init:∀ e∈m.init,cE 12 e=true
 olen:m.old.length≤8
 old:∀ z∈m.old,bO z.2=true
 wlen:m.moves=true→m.forward.length=m.vars.length
 forw:∀ e∈m.forward,cE 12 e=true
 blen:m.back.length=m.old.length
 back:∀ e∈m.back,cE 12 e=true
theorem P3{m:Ap.Mod}(K:MvOk m):∀(k i:Nat),m.old.length - i=k→i≤m.old.length→
  af (L50_0 (ai pg) af) [.ip (ab m.av),aH m.old,.int .i64 m.old.length,.int .i64 i]=M.pure (mJ (bS ((fI m.vars m.old m.back).drop i))):=by
 intro k
 induction k with
 | zero=>
  intro i hk hi
  have h1:¬ ((i:Int) < (m.old.length:Int)):=by omega
  rw[FL50_0,ot _ _ _ _ (by omega)]
  simp[L50_0,h1,bS,mJ]
 | succ k ih=>
  intro i hk hi
  have hlt:i < m.old.length:=by omega
  have h1:(i:Int) < (m.old.length:Int):=by omega
  have hw:IntKind.i64.wrap ((i:Int) + 1)=(i:Int) + 1:=bG (by have:=K.olen;omega)
  have hix:=pz (l:=m.old) (n:=(i:Int)) (by omega) h1
  rw[Int.toNat_natCast,getElem!_pos m.old i hlt] at hix
  have hlt2:i < m.back.length:=by rw[K.blen];exact hlt
  have hix2:=pB (l:=m.back) (n:=(i:Int)) (by omega) (by have:=K.blen;omega)
  rw[Int.toNat_natCast,getElem!_pos m.back i hlt2] at hix2
  have hp:=K2 m.name m.vars (fun z hz=>fj (K.vars z hz)) (by have:=K.vlen;omega) m.back[i] (K.back _ (List.getElem_mem _)) (K.lim.bes _ (List.getElem_mem _)) m.old[i].2 (K.old _ (List.getElem_mem _))
  have ih':af (L50_0 (ai pg) af) [.ip (ab m.av),aH m.old,.int .i64 m.old.length,.int .i64 ((i:Int) + 1)]=_:=ih (i + 1) (by omega) (by omega)
  rw[FL50_0,mi _ _ _ _ K.blen hlt,bS]
  simp only[bC] at ih' ⊢
  generalize m.old[i]=z at hix hp ⊢
  generalize m.back[i]=e at hix2 hp ⊢
  by_cases hb:kM m.vars e z.2=0
  ·rw[hb] at hp
   rw[if_pos hb]
   simp[L50_0,h1,hix,hix2,hp,hw,ih']
  ·rw[if_neg hb]
   have hb':(kM m.vars e z.2 != 0)=true:=bne_iff_ne.2 hb
   simp[L50_0,h1,hix,hix2,hp,hb',mJ]
theorem P4{m:Ap.Mod}(K:MvOk m)(hm:m.moves=true):∀(k i:Nat),m.vars.length - i=k→i≤m.vars.length→
  af (L50_1 (ai pg) af) [.ip (ab m.av),aH m.vars,.int .i64 m.vars.length,.int .i64 i]=M.pure (mJ (bS ((fI m.old m.vars m.forward).drop i++fI m.vars m.old m.back))):=by
 intro k
 induction k with
 | zero=>
  intro i hk hi
  have h1:¬ ((i:Int) < (m.vars.length:Int)):=by omega
  have h0:=P3 K m.old.length 0 rfl (Nat.zero_le _)
  have h0':af (L50_0 (ai pg) af) [.ip (ab m.av),aH m.old,.int .i64 m.old.length,.int .i64 0]=M.pure (mJ (bS (fI m.vars m.old m.back))):=h0
  rw[FL50_1,ot _ _ _ _ (by omega),List.nil_append]
  simp only[bC] at h0' ⊢
  simp[L50_1,h1,h0']
 | succ k ih=>
  intro i hk hi
  have hlt:i < m.vars.length:=by omega
  have h1:(i:Int) < (m.vars.length:Int):=by omega
  have hw:IntKind.i64.wrap ((i:Int) + 1)=(i:Int) + 1:=bG (by have:=K.vlen;omega)
  have hix:=pz (l:=m.vars) (n:=(i:Int)) (by omega) h1
  rw[Int.toNat_natCast,getElem!_pos m.vars i hlt] at hix
  have hwl:=K.wlen hm
  have hlt2:i < m.forward.length:=by omega
  have hix2:=pB (l:=m.forward) (n:=(i:Int)) (by omega) (by omega)
  rw[Int.toNat_natCast,getElem!_pos m.forward i hlt2] at hix2
  have hp:=K2 m.name m.old (fun z hz=>fj (K.old z hz)) (by have:=K.olen;omega) m.forward[i] (K.forw _ (List.getElem_mem _)) (K.lim.fes _ (List.getElem_mem _)) m.vars[i].2 (K.vars _ (List.getElem_mem _))
  have ih':af (L50_1 (ai pg) af) [.ip (ab m.av),aH m.vars,.int .i64 m.vars.length,.int .i64 ((i:Int) + 1)]=_:=ih (i + 1) (by omega) (by omega)
  rw[FL50_1,mi _ _ _ _ hwl hlt,List.cons_append,bS]
  simp only[bC] at ih' ⊢
  generalize m.vars[i]=z at hix hp ⊢
  generalize m.forward[i]=e at hix2 hp ⊢
  by_cases hb:kM m.old e z.2=0
  ·rw[hb] at hp
   rw[if_pos hb]
   simp[L50_1,h1,hix,hix2,hp,hw,ih']
  ·rw[if_neg hb]
   have hb':(kM m.old e z.2 != 0)=true:=bne_iff_ne.2 hb
   simp[L50_1,h1,hix,hix2,hp,hb',mJ]
theorem P5{m:Ap.Mod}(K:MvOk m):∀(k i:Nat),m.vars.length - i=k→i≤m.vars.length→
  af (L50_2 (ai pg) af) [.ip (ab m.av),aH m.vars,.int .i64 m.vars.length,.int .i64 i]=M.pure (mJ (bS ((fI [] m.vars m.init).drop i++if m.moves=true then fI m.old m.vars m.forward++fI m.vars m.old m.back else []))):=by
 intro k
 induction k with
 | zero=>
  intro i hk hi
  have h1:¬ ((i:Int) < (m.vars.length:Int)):=by omega
  rw[FL50_2,ot _ _ _ _ (by omega),List.nil_append]
  cases hm:m.moves with
  | true=>
   have h0:=P4 K hm m.vars.length 0 rfl (Nat.zero_le _)
   have h0':af (L50_1 (ai pg) af) [.ip (ab m.av),aH m.vars,.int .i64 m.vars.length,.int .i64 0]=M.pure (mJ (bS (fI m.old m.vars m.forward++fI m.vars m.old m.back))):=h0
   simp only[bC,hm] at h0' ⊢
   simp[L50_2,h1,h0']
  | false=>
   simp only[bC,hm]
   simp[L50_2,h1,mJ,bS]
 | succ k ih=>
  intro i hk hi
  have hlt:i < m.vars.length:=by omega
  have h1:(i:Int) < (m.vars.length:Int):=by omega
  have hw:IntKind.i64.wrap ((i:Int) + 1)=(i:Int) + 1:=bG (by have:=K.vlen;omega)
  have hix:=pz (l:=m.vars) (n:=(i:Int)) (by omega) h1
  rw[Int.toNat_natCast,getElem!_pos m.vars i hlt] at hix
  have hwl:=K.ilen
  have hlt2:i < m.init.length:=by omega
  have hix2:=pB (l:=m.init) (n:=(i:Int)) (by omega) (by omega)
  rw[Int.toNat_natCast,getElem!_pos m.init i hlt2] at hix2
  have hp0:=K2 m.name [] (fun z hz=>by cases hz) (by simp) m.init[i] (K.init _ (List.getElem_mem _)) (K.lim.ies _ (List.getElem_mem _)) m.vars[i].2 (K.vars _ (List.getElem_mem _))
  have hp:ai pg 144 [.str m.name,.sl [],m.init[i].av,m.vars[i].2.av]=M.pure (.int .i64 (kM [] m.init[i] m.vars[i].2)):=hp0
  have ih':af (L50_2 (ai pg) af) [.ip (ab m.av),aH m.vars,.int .i64 m.vars.length,.int .i64 ((i:Int) + 1)]=_:=ih (i + 1) (by omega) (by omega)
  rw[FL50_2,mi _ _ _ _ hwl hlt,List.cons_append,bS]
  simp only[bC] at ih' ⊢
  generalize m.vars[i]=z at hix hp ⊢
  generalize m.init[i]=e at hix2 hp ⊢
  by_cases hb:kM [] e z.2=0
  ·rw[hb] at hp
   rw[if_pos hb]
   simp[L50_2,h1,hix,hix2,hp,hw,ih']
  ·rw[if_neg hb]
   have hb':(kM [] e z.2 != 0)=true:=bne_iff_ne.2 hb
   simp[L50_2,h1,hix,hix2,hp,hb',mJ]
theorem P9{m:Ap.Mod}(K:MvOk m):ai pg 50 [m.av]=M.pure (mJ (jN m)):=by
 have h0:=P5 K m.vars.length 0 rfl (Nat.zero_le _)
 have h0':af (L50_2 (ai pg) af) [.ip (ab m.av),aH m.vars,.int .i64 m.vars.length,.int .i64 0]=M.pure (mJ (jN m)):=h0
 rw[C50]
 simp only[bC] at h0'
 simp[S50,h0']
 exact bP fun g=>by simp[mJ,cl,ee]
def setRow(ns:List aW):List AV:=ns.map fun s=>.tup [.str s,.bool true]
theorem Kl(a b:aW):wg T 20 9 (.str a) (.str b)=some (a== b):=rfl
theorem nO(s:aW):(ns:List aW)→(i:Nat)→(ns.contains s=false∧cV T 9 (.str s) (setRow ns) i=some none)∨(ns.contains s=true∧∃(j:Nat)(k:AV),cV T 9 (.str s) (setRow ns) i=some (some (j,k,.bool true)))
 | [],i=>.inl ⟨rfl,rfl⟩
 | x:: ns,i=>by
  show (_∧cV T 9 (.str s) (.tup [.str x,.bool true]:: setRow ns) i=_)∨(_∧∃(j:Nat)(k:AV),cV T 9 (.str s) (.tup [.str x,.bool true]:: setRow ns) i=_)
  unfold cV
  rw[Kl,List.contains_cons]
  cases h:s== x with
  | true=>exact .inr ⟨rfl,i,.str x,rfl⟩
  | false=>
   rcases nO s ns (i + 1) with ⟨h1,h2⟩ | ⟨h1,j,k,h2⟩
   ·exact .inl ⟨by rw[h1];rfl,h2⟩
   ·exact .inr ⟨by rw[h1];rfl,j,k,h2⟩
theorem rf{h:Hp}{l:Nat}{ns:List aW}(hl:h[l]? = some [.tup (setRow ns)])(s:aW):cL T 125 (.mp l) (.str s) false h= .ok (.bool (ns.contains s)) h:=by
 have e:jo T 125 (setRow ns) (.str s) false=(match cV T 9 (.str s) (setRow ns) 0 with
   | some (some (_,_,v))=>some v
   | some none=>some (.bool false)
   | none=>none):=rfl
 unfold cL gq
 simp only[hl]
 rw[e]
 rcases nO s ns 0 with ⟨h1,h2⟩ | ⟨h1,j,k,h2⟩
 ·rw[h2,h1]
 ·rw[h2,h1]
theorem uP{h:Hp}{l:Nat}{ns:List aW}(hl:h[l]? = some [.tup (setRow ns)])(s:aW)(hs:ns.contains s=false):putH T 125 (.mp l) (.str s) (.bool true) h= .ok (.tup []) (h.set l [.tup (setRow (ns++[s]))]):=by
 have e:putH T 125 (.mp l) (.str s) (.bool true) h=(match h[l]? with
   | some [.tup es]=>(match ou T 9 es (.str s) (.bool true) with
    | some es'=>.ok (.tup []) (h.set l [.tup es'])
    | none=>.fail)
   | _=>.fail):=rfl
 rw[e,hl]
 simp only
 unfold ou
 rcases nO s ns 0 with ⟨h1,h2⟩ | ⟨h1,j,k,h2⟩
 ·rw[h2]
  simp[setRow]
 ·rw[h1] at hs
  cases hs
theorem KD(l:List cr)(hb:l.length≤140737488355328)(ht:∀ f∈l,f.2.Lim)(most:Int)(q:Nat):∀(n i:Nat),l.length - i=n→i≤l.length→∀(seen:List aW)(h:Hp),h[q]? = some [.tup (setRow seen)]→
  ∃ h',af (L54_0 (ai pg) af) [aH l,.int .i64 most,.mp q,aH l,.int .i64 l.length,.int .i64 i] h= .ok (.bool (xq seen (l.drop i)&&decide ((l.length:Int)≤most))) h':=by
 intro n
 induction n with
 | zero=>
  intro i hn hi seen h hq
  rw[FL54_0]
  have h1:¬ ((i:Int) < (l.length:Int)):=by omega
  have h2:l.drop i=[]:=List.drop_eq_nil_of_le (by omega)
  rw[h2]
  exact⟨h,by simp[L54_0,h1,xq,M.pure]⟩
 | succ n ih=>
  intro i hn hi seen h hq
  have hlt:i < l.length:=by omega
  have h1:(i:Int) < (l.length:Int):=by omega
  have h2:l.drop i=l[i]:: l.drop (i + 1):=List.drop_eq_getElem_cons hlt
  have hw:IntKind.i64.wrap ((i:Int) + 1)=((i + 1:Nat):Int):=bG (by omega)
  have hix:=pz (l:=l) (n:=(i:Int)) (by omega) h1
  rw[Int.toNat_natCast,getElem!_pos l i hlt] at hix
  have hfl:=ht _ (List.getElem_mem hlt)
  have ih':=fun s=>ih (i + 1) (by omega) (by omega) (seen++[s]) (h.set q [.tup (setRow (seen++[s]))])
  have hql:q < h.length:=(List.getElem?_eq_some_iff.1 hq).1
  rw[h2]
  generalize l[i]=f at hix hfl ⊢
  have hlk:=rf hq f.1
  have hnm:=t53 f.1
  have hty:=t55 f.2 hfl
  have hcf:aC 3 (bj f)=M.pure (bj f):=by rw[bd (iG f),dm,gu]
  generalize hcode:af (L54_0 (ai pg) af) [aH l,.int .i64 most,.mp q,aH l,.int .i64 l.length,.int .i64 i] h=code
  rw[FL54_0] at hcode
  simp -implicitDefEqProofs only[L54_0,bu,bD,cN,aT,h1,decide_true,bz,if_true,hix,dm,LD87,List.length_cons,List.length_nil,Nat.zero_add,Nat.reduceAdd,Nat.le_refl,List.take_succ_cons,List.take_zero,gu,hcf,bi,FA87_0,FA87_1,List.drop_zero,List.drop_succ_cons,LD9] at hcode
  rw[aV hlk] at hcode
  have eo:xq seen (f:: l.drop (i + 1))=(!(seen.contains f.1)&&cX f.1&&bO f.2&&xq (seen++[f.1]) (l.drop (i + 1))):=rfl
  rw[eo]
  cases hc:seen.contains f.1 with
  | true=>
   rw[hc] at hcode
   refine⟨h,?_⟩
   rw[← hcode]
   simp[M.pure]
  | false=>
   rw[hc] at hcode
   cases hn2:cX f.1 with
   | false=>
    rw[hn2] at hnm
    refine⟨h,?_⟩
    rw[← hcode]
    simp[hnm,M.pure]
   | true=>
    rw[hn2] at hnm
    cases hr:bO f.2 with
    | false=>
     rw[hr] at hty
     refine⟨h,?_⟩
     rw[← hcode]
     simp[hnm,hty,M.pure]
    | true=>
     rw[hr] at hty
     obtain⟨h',e'⟩:=ih' f.1 (by rw[List.getElem?_set_self hql])
     refine⟨h',?_⟩
     have hp:=uP hq f.1 hc
     rw[← hcode]
     simp -implicitDefEqProofs only[hnm,hty,bi,jH,jT,Bool.not_true,Bool.not_false,bu,xw,bz,Bool.false_eq_true,if_false,LD72,List.length_cons,List.length_nil,Nat.zero_add,Nat.reduceAdd,Nat.le_refl,if_true,List.take_succ_cons,List.take_zero,eA,aT]
     rw[aV hp]
     simp only[fA,aT,hw,e',Bool.true_and]
theorem t54(l:List cr)(hb:l.length≤140737488355328)(ht:∀ f∈l,f.2.Lim)(most:Int):ai pg 54 [aH l,.int .i64 most]=M.pure (.bool (fJ l most)):=by
 obtain⟨h',e⟩:=KD l hb ht most 0 l.length 0 rfl (Nat.zero_le _) [] ([]++[[.tup []]]) rfl
 rw[List.drop_zero] at e
 rw[C54]
 funext hp
 have key:S54 (ai pg) af (cl ax (aH l)) (cl ax (.int .i64 most)) []= .ok (.bool (fJ l most)) h':=by
  rw[Ah,Kg]
  have hn:dU []= .ok (.mp 0) ([]++[[.tup []]]):=rfl
  simp -implicitDefEqProofs only[S54]
  rw[aV hn]
  simp only[IB,aT]
  exact e
 show aF _ hp=R.ok (.bool (fJ l most)) hp
 unfold aF
 rw[key]
 rfl
theorem t57(l:List Exp)(hb:l.length≤140737488355328)(ht:∀ e∈l,e.Lim)(n:Int):ai pg 57 [cG l,.int .i64 n]=M.pure (.bool (l.all AR&&((l.length:Int)== n))):=by
 have hloop:∀(m i:Nat),l.length - i=m→i≤l.length→af (L57_0 (ai pg) af) [cG l,.int .i64 n,cG l,.int .i64 l.length,.int .i64 i]=M.pure (.bool ((l.drop i).all AR&&((l.length:Int)== n))):=by
  intro m
  induction m with
  | zero=>
   intro i hm hi
   rw[FL57_0]
   have h1:¬ ((i:Int) < (l.length:Int)):=by omega
   have h2:l.drop i=[]:=List.drop_eq_nil_of_le (by omega)
   simp[L57_0,h1,h2]
  | succ m ih=>
   intro i hm hi
   have hlt:i < l.length:=by omega
   have h1:(i:Int) < (l.length:Int):=by omega
   have h2:l.drop i=l[i]:: l.drop (i + 1):=List.drop_eq_getElem_cons hlt
   have hw:IntKind.i64.wrap ((i:Int) + 1)=((i + 1:Nat):Int):=bG (by omega)
   have hix:=pB (l:=l) (n:=(i:Int)) (by omega) h1
   rw[Int.toNat_natCast,getElem!_pos l i hlt] at hix
   have hr:=t56 l[i] (ht _ (List.getElem_mem hlt))
   have ih':=ih (i + 1) (by omega) (by omega)
   rw[h2,List.all_cons,FL57_0]
   generalize l[i]=e at hix hr ⊢
   cases hb2:AR e <;> rw[hb2] at hr <;>
   simp only[L57_0,bu,bD,cN,aT,h1,decide_true,bz,if_true,hix,cw,LD74,List.length_cons,List.length_nil,Nat.zero_add,Nat.reduceAdd,Nat.le_refl,List.take_succ_cons,List.take_zero,fD,um,bi,hr,jT,Bool.not_true,Bool.not_false,Bool.false_eq_true,if_false,fA,hw,ih',Bool.true_and,Bool.false_and]
 have h:=hloop l.length 0 rfl (Nat.zero_le _)
 rw[List.drop_zero] at h
 have h':af (L57_0 (ai pg) af) [cG l,.int .i64 n,cG l,.int .i64 l.length,.int .i64 0]=M.pure (.bool (l.all AR&&((l.length:Int)== n))):=h
 rw[C57]
 simp[S57,h']
theorem GC(f:Fun):aC 12 f.av=M.pure f.av:=by rw[bd (iH f),eE,iC]
theorem G9 (m:Ap.Mod) (hm:m.Lim) (q:Nat) (R:Bool) (hend:∀ h:Hp,∃ h',af (L13_0 (ai pg) af) [.ip (ab m.av),.mp q,eQ m.funcs,.int .i64 m.funcs.length,.int .i64 m.funcs.length] h= .ok (.bool R) h'):∀(n i:Nat),m.funcs.length - i=n→i≤m.funcs.length→∀(seen:List aW)(h:Hp),h[q]? = some [.tup (setRow seen)]→
  ∃ h',af (L13_0 (ai pg) af) [.ip (ab m.av),.mp q,eQ m.funcs,.int .i64 m.funcs.length,.int .i64 i] h= .ok (.bool (pe seen (m.funcs.drop i)&&R)) h':=by
 have hb:=hm.funcs
 intro n
 induction n with
 | zero=>
  intro i hn hi seen h hq
  have h2:m.funcs.drop i=[]:=List.drop_eq_nil_of_le (by omega)
  obtain rfl:i=m.funcs.length:=by omega
  rw[h2]
  exact hend h
 | succ n ih=>
  intro i hn hi seen h hq
  have hlt:i < m.funcs.length:=by omega
  have h1:(i:Int) < (m.funcs.length:Int):=by omega
  have h2:m.funcs.drop i=m.funcs[i]:: m.funcs.drop (i + 1):=List.drop_eq_getElem_cons hlt
  have hw:IntKind.i64.wrap ((i:Int) + 1)=((i + 1:Nat):Int):=bG (by omega)
  have hix:=vB (l:=m.funcs) (n:=(i:Int)) (by omega) h1
  rw[Int.toNat_natCast,getElem!_pos m.funcs i hlt] at hix
  have hfl:=hm.fns _ (List.getElem_mem hlt)
  have ih':=fun s=>ih (i + 1) (by omega) (by omega) (seen++[s]) (h.set q [.tup (setRow (seen++[s]))])
  have hql:q < h.length:=(List.getElem?_eq_some_iff.1 hq).1
  rw[h2]
  generalize m.funcs[i]=f at hix hfl ⊢
  have hlk:=rf hq f.name
  have hnm:=t53 f.name
  have hps:=t54 f.params hfl.params hfl.pty 6
  have hty:=t55 f.result hfl.result
  have hre:=t56 f.body hfl.body
  have hex:am T .andNot 3 (.int .i64 f.effects) (.int .i64 15)=some (.int .i64 (dG f.effects 15)):=rfl
  generalize hcode:af (L13_0 (ai pg) af) [.ip (ab m.av),.mp q,eQ m.funcs,.int .i64 m.funcs.length,.int .i64 i] h=code
  rw[FL13_0] at hcode
  simp -implicitDefEqProofs only[L13_0,bu,bD,cN,aT,h1,decide_true,bz,if_true,hix,eE,LD76,List.length_cons,List.length_nil,Nat.zero_add,Nat.reduceAdd,Nat.le_refl,List.take_succ_cons,List.take_zero,iC,GC,bi,FA76_0,List.drop_zero,LD9] at hcode
  rw[aV hlk] at hcode
  have eo:pe seen (f:: m.funcs.drop (i + 1))=(!(seen.contains f.name)&&BP f&&pe (seen++[f.name]) (m.funcs.drop (i + 1))):=rfl
  rw[eo]
  unfold BP
  cases hc:seen.contains f.name with
  | true=>
   rw[hc] at hcode
   refine⟨h,?_⟩
   rw[← hcode]
   simp[M.pure]
  | false=>
   rw[hc] at hcode
   cases hn2:cX f.name with
   | false=>rw[hn2] at hnm;refine⟨h,?_⟩;rw[← hcode];simp[hnm,M.pure]
   | true=>
    rw[hn2] at hnm
    cases hp2:fJ f.params 6 with
    | false=>rw[hp2] at hps;refine⟨h,?_⟩;rw[← hcode];simp[hnm,hps,M.pure]
    | true=>
     rw[hp2] at hps
     cases hr:bO f.result with
     | false=>rw[hr] at hty;refine⟨h,?_⟩;rw[← hcode];simp[hnm,hps,hty,M.pure]
     | true=>
      rw[hr] at hty
      cases hrb:AR f.body with
      | false=>rw[hrb] at hre;refine⟨h,?_⟩;rw[← hcode];simp[hnm,hps,hty,hre,M.pure]
      | true=>
       rw[hrb] at hre
       by_cases he:dG f.effects 15=0
       ·obtain⟨h',e'⟩:=ih' f.name (by rw[List.getElem?_set_self hql])
        refine⟨h',?_⟩
        have hp:=uP hq f.name hc
        rw[← hcode]
        have e'':=e'
        simp only[bC] at e''
        simp[hnm,hps,hty,hre,hex,he]
        rw[aV hp]
        simpa [hw] using e''
       ·refine⟨h,?_⟩
        rw[← hcode]
        have he':(dG f.effects 15== 0)=false:=beq_eq_false_iff_ne.2 he
        simp[hnm,hps,hty,hre,hex,he,he',M.pure]
theorem MX (m:Ap.Mod) (hm:m.Lim) (q:Nat) (h:Hp):∃ h',af (L13_0 (ai pg) af) [.ip (ab m.av),.mp q,eQ m.funcs,.int .i64 m.funcs.length,.int .i64 m.funcs.length] h= .ok (.bool (tL m)) h':=by
 have hnm:=t53 m.name
 have hv:=t54 m.vars hm.vars hm.vty 8
 have hi:=t57 m.init hm.init hm.ies m.vars.length
 have ho:=t54 m.old hm.old hm.oty 8
 have hf:=fun n=>t57 m.forward hm.forward hm.fes n
 have hb:=t57 m.back hm.back hm.bes m.old.length
 refine⟨h,?_⟩
 rw[FL13_0]
 unfold tL
 generalize fJ m.vars 8=b1 at hv ⊢
 generalize (m.init.all AR&&((m.init.length:Int)== (m.vars.length:Int)))=b2 at hi ⊢
 generalize fJ m.old 8=b3 at ho ⊢
 generalize (m.back.all AR&&((m.back.length:Int)== (m.old.length:Int)))=b4 at hb ⊢
 cases hn:cX m.name with
 | false=>rw[hn] at hnm;simp[L13_0,hnm,M.pure]
 | true =>
  rw[hn] at hnm
  by_cases hu:m.uses.length≤12
  ·have hu':¬ (12 < (m.uses.length:Int)):=by omega
   by_cases hfn:m.funcs.length≤30
   ·have hfn':¬ (30 < (m.funcs.length:Int)):=by omega
    cases b1 with
    | false=>simp[L13_0,hnm,hu,hu',hfn,hfn',hv,M.pure]
    | true=>
     cases b2 with
     | false=>simp[L13_0,hnm,hu,hu',hfn,hfn',hv,hi,M.pure]
     | true=>
      cases hmv:m.moves with
      | true=>
       have hfv:=hf m.vars.length
       rw[if_pos rfl]
       generalize (m.forward.all AR&&((m.forward.length:Int)== (m.vars.length:Int)))=b5 at hfv ⊢
       cases b3 <;> cases b5 <;> cases b4 <;> simp[L13_0,K13_0,hnm,hu,hu',hfn,hfn',hv,hi,ho,hfv,hb,hmv,M.pure]
      | false=>
       have hfv:=hf 0
       rw[if_neg (by decide)]
       generalize (m.forward.all AR&&((m.forward.length:Int)== 0))=b5 at hfv ⊢
       by_cases hz:0 < m.old.length
       ·have hz':0 < (m.old.length:Int):=by omega
        have hz2:¬ m.old.length=0:=by omega
        simp[L13_0,K13_0,hnm,hu,hu',hfn,hfn',hv,hi,hmv,hz,hz',hz2,M.pure]
       ·have hz':¬ 0 < (m.old.length:Int):=by omega
        have hz2:m.old.length=0:=by omega
        have hb0:ai pg 57 [cG m.back,.int .i64 0]=M.pure (.bool b4):=by
         rw[hz2] at hb
         exact hb
        cases b3 <;> cases b5 <;> cases b4 <;> simp[L13_0,K13_0,hnm,hu,hu',hfn,hfn',hv,hi,ho,hfv,hb0,hmv,hz,hz',hz2,M.pure]
   ·have hfn':30 < (m.funcs.length:Int):=by omega
    simp[L13_0,hnm,hu,hu',hfn,hfn',M.pure]
  ·have hu':12 < (m.uses.length:Int):=by omega
   simp[L13_0,hnm,hu,hu',M.pure]
theorem Ha(m:Ap.Mod)(hm:m.Lim)(q:Nat)(R:Bool)(hend:∀ h:Hp,∃ h',af (L13_1 (ai pg) af) [.ip (ab m.av),.mp q,strs m.uses,.int .i64 m.uses.length,.int .i64 m.uses.length] h= .ok (.bool R) h'):∀(n i:Nat),m.uses.length - i=n→i≤m.uses.length→∀(seen:List aW)(h:Hp),h[q]? = some [.tup (setRow seen)]→
  ∃ h',af (L13_1 (ai pg) af) [.ip (ab m.av),.mp q,strs m.uses,.int .i64 m.uses.length,.int .i64 i] h= .ok (.bool (EZ seen (m.uses.drop i)&&R)) h':=by
 have hb:=hm.uses
 intro n
 induction n with
 | zero=>
  intro i hn hi seen h hq
  have h2:m.uses.drop i=[]:=List.drop_eq_nil_of_le (by omega)
  obtain rfl:i=m.uses.length:=by omega
  rw[h2]
  exact hend h
 | succ n ih=>
  intro i hn hi seen h hq
  have hlt:i < m.uses.length:=by omega
  have h1:(i:Int) < (m.uses.length:Int):=by omega
  have h2:m.uses.drop i=m.uses[i]:: m.uses.drop (i + 1):=List.drop_eq_getElem_cons hlt
  have hw:IntKind.i64.wrap ((i:Int) + 1)=((i + 1:Nat):Int):=bG (by omega)
  have hix:=vA (l:=m.uses) (n:=(i:Int)) (by omega) h1
  rw[Int.toNat_natCast,getElem!_pos m.uses i hlt] at hix
  have ih':=fun s=>ih (i + 1) (by omega) (by omega) (seen++[s]) (h.set q [.tup (setRow (seen++[s]))])
  have hql:q < h.length:=(List.getElem?_eq_some_iff.1 hq).1
  rw[h2]
  generalize m.uses[i]=s at hix ⊢
  have hlk:=rf hq s
  have hnm:=t53 s
  generalize hcode:af (L13_1 (ai pg) af) [.ip (ab m.av),.mp q,strs m.uses,.int .i64 m.uses.length,.int .i64 i] h=code
  rw[FL13_1] at hcode
  simp -implicitDefEqProofs only[L13_1,bu,bD,cN,aT,h1,decide_true,bz,if_true,hix,jx,LD9] at hcode
  rw[aV hlk] at hcode
  have eo:EZ seen (s:: m.uses.drop (i + 1))=(!(seen.contains s)&&cX s&&EZ (seen++[s]) (m.uses.drop (i + 1))):=rfl
  rw[eo]
  cases hc:seen.contains s with
  | true=>
   rw[hc] at hcode
   refine⟨h,?_⟩
   rw[← hcode]
   simp[M.pure]
  | false=>
   rw[hc] at hcode
   cases hn2:cX s with
   | false=>rw[hn2] at hnm;refine⟨h,?_⟩;rw[← hcode];simp[hnm,M.pure]
   | true=>
    rw[hn2] at hnm
    obtain⟨h',e'⟩:=ih' s (by rw[List.getElem?_set_self hql])
    refine⟨h',?_⟩
    have hp:=uP hq s hc
    rw[← hcode]
    have e'':=e'
    simp only[bC] at e''
    simp[hnm]
    rw[aV hp]
    simpa [hw] using e''
theorem t13(m:Ap.Mod)(hm:m.Lim):ai pg 13 [m.av]=M.pure (.bool (iK m)):=by
 have hend:∀ h:Hp,∃ h',af (L13_1 (ai pg) af) [.ip (ab m.av),.mp 0,strs m.uses,.int .i64 m.uses.length,.int .i64 m.uses.length] h= .ok (.bool (pe [] m.funcs&&tL m)) h':=fun h=>by
  have h1:¬ ((m.uses.length:Int) < (m.uses.length:Int)):=by omega
  obtain⟨h',e⟩:=G9 m hm h.length (tL m) (fun h=>MX m hm _ h) m.funcs.length 0 rfl (Nat.zero_le _) [] (h++[[.tup []]]) (by simp[setRow])
  rw[List.drop_zero] at e
  refine⟨h',?_⟩
  rw[FL13_1]
  have hn:dU h= .ok (.mp h.length) (h++[[.tup []]]):=rfl
  simp only[bC] at e
  simp -implicitDefEqProofs only[L13_1,bu,bD,cN,aT,h1,decide_false,bz,Bool.false_eq_true,if_false]
  rw[aV hn]
  simp only[bC,FA29_4,List.drop_succ_cons,List.drop_zero,aT,LD25,ID]
  exact e
 obtain⟨h',e⟩:=Ha m hm 0 _ hend m.uses.length 0 rfl (Nat.zero_le _) [] ([]++[[.tup []]]) rfl
 rw[List.drop_zero] at e
 rw[C13]
 funext hp
 have key:S13 (ai pg) af (cl ax m.av) []= .ok (.bool (iK m)) h':=by
  have hn:dU []= .ok (.mp 0) ([]++[[.tup []]]):=rfl
  simp only[bC] at e
  rw[uk]
  simp -implicitDefEqProofs only[S13]
  rw[aV hn]
  simp only[bC,FA29_1,List.drop_succ_cons,List.drop_zero,aT,LD22,CH]
  exact e
 show aF _ hp=R.ok (.bool (iK m)) hp
 unfold aF
 rw[key]
 rfl
theorem Pn{m:Ap.Mod}(hm:m.Lim)(K:ModOk m):MvOk m:=⟨hm,K.vlen,K.vars,K.ilen,K.init,K.olen,K.old,K.wlen,K.forw,K.blen,K.back⟩
theorem O6{m:Ap.Mod}(K:ModOk m){fs:List Face}(hfs:∀ f∈fs,f.Lim)(ha:∀ f∈fs,gJ f=true):CxOk m fs where
 vlen:=by have:=K.vlen;omega
 vars:=K.vars
 flen:=by have:=K.flen;omega
 ulen:=by have:=K.ulen;omega
 plen:=fun f hf=>by have:=(K.fns f hf).plen;omega
 pars:=fun f hf=>(K.fns f hf).pars
 res:=fun f hf=>(K.fns f hf).res
 slen:=fun f hf=>(hfs f hf).len
 splen:=fun f hf s hs=>((hfs f hf).sigs s hs).plen
 spars:=fun f hf s hs t ht=>by
  have:=ha f hf
  unfold gJ at this
  rw[List.all_eq_true] at this
  have h2:=this s hs
  simp only[Bool.and_eq_true,List.all_eq_true] at h2
  exact h2.2 t ht
 sres:=fun f hf s hs=>by
  have:=ha f hf
  unfold gJ at this
  rw[List.all_eq_true] at this
  have h2:=this s hs
  simp only[Bool.and_eq_true] at h2
  exact h2.1
def CB(m:Ap.Mod)(fs:List Face):List (aW×Int):=m.funcs.map fun f=>(f.name,CE (ej m fs) f)
theorem Gr{m:Ap.Mod}(hm:m.Lim)(MK:ModOk m){fs:List Face}(K:CxOk m fs){q:Nat}{mp:AV}:∀(k i:Nat)(n:Int)(h:Hp),m.funcs.length - i=k→i≤m.funcs.length→JR h q m mp fs n→
  ∃ h',af (L12_0 (ai pg) af) [.hp q 0,eQ m.funcs,.int .i64 m.funcs.length,.int .i64 i] h= .ok (mJ (bS ((CB m fs).drop i))) h':=by
 intro k
 have hfl:=MK.flen
 induction k with
 | zero=>
  intro i n h hk hi R
  have h1:¬ ((i:Int) < (m.funcs.length:Int)):=by omega
  have h2:(CB m fs).drop i=[]:=List.drop_eq_nil_of_le (by simp[CB];omega)
  refine⟨h,?_⟩
  rw[FL12_0,h2]
  simp[L12_0,h1]
  rfl
 | succ k ih=>
  intro i n h hk hi R
  have hlt:i < m.funcs.length:=by omega
  have h1:(i:Int) < (m.funcs.length:Int):=by omega
  have h2:(CB m fs).drop i=(m.funcs[i].name,CE (ej m fs) m.funcs[i]):: (CB m fs).drop (i + 1):=by
   rw[List.drop_eq_getElem_cons (by simp[CB];exact hlt)]
   simp[CB]
  have hw:IntKind.i64.wrap ((i:Int) + 1)=(i:Int) + 1:=bG (by omega)
  have hix:=vB (l:=m.funcs) (n:=(i:Int)) (by omega) h1
  rw[Int.toNat_natCast,getElem!_pos m.funcs i hlt] at hix
  have hf:=MK.fns _ (List.getElem_mem hlt)
  have hfl2:=hm.fns _ (List.getElem_mem hlt)
  rw[h2,bS]
  generalize m.funcs[i]=f at hix hf hfl2 ⊢
  have R1:=R.set 0
  obtain⟨p1,p2⟩:=PD K 12 f.params f.body 0 _ hf.body hfl2.body (fun z hz=>fj (hf.pars z hz)) (by have:=hf.plen;omega) R1
  have s1:∀ g:AV→M AV,ae (bK T 3 (.hp q 10) (.int .i64 0)) g h=g (.tup []) (h.set q (aZ m mp 0)):=fun g=>aV (R.put 0) g
  rw[FL12_0]
  have hne:=gW (ej m fs) 12 f.params f.body 0
  cases ht:bF (ej m fs) 12 f.params f.body 0 with
  | er b n'=>
   rw[ht] at p1
   have hb0:=hne b n' ht
   have hb:(b != 0)=true:=bne_iff_ne.2 hb0
   have k1:∀ g:AV→M AV,ae (ai pg 51 [.hp q 0,aH f.params,f.body.av]) g (h.set q (aZ m mp 0))=g (.tup [ty0.av,.int .i64 b]) ((h.set q (aZ m mp 0)).set q (aZ m mp n')):=fun g=>aV p1 g
   have hx:CE (ej m fs) f=b:=by unfold CE;rw[ht]
   rw[hx]
   dsimp only
   rw[if_neg hb0]
   refine⟨(h.set q (aZ m mp 0)).set q (aZ m mp n'),?_⟩
   simp[L12_0,h1,hix,s1,k1,hb]
   rfl
  | ok t n'=>
   rw[ht] at p1
   have k1:∀ g:AV→M AV,ae (ai pg 51 [.hp q 0,aH f.params,f.body.av]) g (h.set q (aZ m mp 0))=g (.tup [t.av,.int .i64 0]) ((h.set q (aZ m mp 0)).set q (aZ m mp n')):=fun g=>aV p1 g
   have R2:=R1.set n'
   have l1:∀ g:AV→M AV,ae (bA T 3 (.hp q 10)) g ((h.set q (aZ m mp 0)).set q (aZ m mp n'))=g (.int .i64 n') ((h.set q (aZ m mp 0)).set q (aZ m mp n')):=fun g=>aV R2.eff g
   rw[JR.twice] at l1
   have hbl:=jE (p2 t n' ht) hf.res
   have hex:am T .andNot 3 (.int .i64 n') (.int .i64 f.effects)=some (.int .i64 (dG n' f.effects)):=rfl
   by_cases hb:bW t f.result=true
   case neg=>
    rw[Bool.not_eq_true] at hb
    rw[hb] at hbl
    have hx:CE (ej m fs) f=13:=by unfold CE;rw[ht];simp[hb]
    rw[hx]
    dsimp only
    rw[if_neg (by decide)]
    refine⟨(h.set q (aZ m mp 0)).set q (aZ m mp n'),?_⟩
    simp[L12_0,h1,hix,s1,k1,hbl]
    rfl
   case pos=>
    rw[hb] at hbl
    by_cases he:dG n' f.effects=0
    ·have hx:CE (ej m fs) f=0:=by unfold CE;rw[ht];simp[hb,he]
     rw[hx]
     dsimp only
     rw[if_pos rfl]
     obtain⟨h',e'⟩:=ih (i + 1) n' _ (by omega) (by omega) R2
     have e'':af (L12_0 (ai pg) af) [.hp q 0,eQ m.funcs,.int .i64 m.funcs.length,.int .i64 ((i:Int) + 1)] ((h.set q (aZ m mp 0)).set q (aZ m mp n'))=_:=e'
     rw[JR.twice] at e''
     refine⟨h',?_⟩
     simp[L12_0,h1,hix,s1,k1,hbl,l1,hex,he,hw,-qf]
     exact e''
    ·have hx:CE (ej m fs) f=14:=by unfold CE;rw[ht];simp[hb,he]
     rw[hx]
     dsimp only
     rw[if_neg (by decide)]
     have he':(dG n' f.effects != 0)=true:=bne_iff_ne.2 he
     refine⟨(h.set q (aZ m mp 0)).set q (aZ m mp n'),?_⟩
     simp[L12_0,h1,hix,s1,k1,hbl,l1,hex,he',-qf]
     rfl
def lK(m:Ap.Mod)(fs:List Face):List (aW×Int):=m.uses.map fun u=>(u,if (fs.find? fun f=>f.module== u).isNone||u== m.name then 12 else 0)
theorem Gs{m:Ap.Mod}(hm:m.Lim)(MK:ModOk m){fs:List Face}(K:CxOk m fs){q:Nat}{mp:AV}{h:Hp}(R:JR h q m mp fs 0):∀(k i:Nat),m.uses.length - i=k→i≤m.uses.length→
  ∃ h',af (L12_1 (ai pg) af) [.ip (ab m.av),.hp q 0,strs m.uses,.int .i64 m.uses.length,.int .i64 i] h= .ok (mJ (bS ((lK m fs).drop i++jN m:: CB m fs))) h':=by
 intro k
 have hul:=MK.ulen
 induction k with
 | zero=>
  intro i hk hi
  have h1:¬ ((i:Int) < (m.uses.length:Int)):=by omega
  have h2:(lK m fs).drop i=[]:=List.drop_eq_nil_of_le (by simp[lK];omega)
  have hmv:=P9 (Pn hm MK)
  rw[h2,List.nil_append,bS,FL12_1]
  unfold mJ at hmv
  by_cases hb:(jN m).2=0
  ·rw[if_pos hb]
   obtain⟨h',e'⟩:=Gr hm MK K m.funcs.length 0 0 h rfl (Nat.zero_le _) R
   have e'':af (L12_0 (ai pg) af) [.hp q 0,eQ m.funcs,.int .i64 m.funcs.length,.int .i64 0] h= .ok (mJ (bS (CB m fs))) h':=e'
   rw[hb] at hmv
   refine⟨h',?_⟩
   simp[L12_1,h1,hmv,e'']
  ·rw[if_neg hb]
   have hb':((jN m).2 != 0)=true:=bne_iff_ne.2 hb
   refine⟨h,?_⟩
   simp[L12_1,h1,hmv,hb']
   rfl
 | succ k ih=>
  intro i hk hi
  have hlt:i < m.uses.length:=by omega
  have h1:(i:Int) < (m.uses.length:Int):=by omega
  have h2:(lK m fs).drop i=(m.uses[i],if (fs.find? fun f=>f.module== m.uses[i]).isNone||m.uses[i]== m.name then 12 else 0):: (lK m fs).drop (i + 1):=by
   rw[List.drop_eq_getElem_cons (by simp[lK];exact hlt)]
   simp[lK]
  have hw:IntKind.i64.wrap ((i:Int) + 1)=(i:Int) + 1:=bG (by omega)
  have hix:=vA (l:=m.uses) (n:=(i:Int)) (by omega) h1
  rw[Int.toNat_natCast,getElem!_pos m.uses i hlt] at hix
  obtain⟨h',e'⟩:=ih (i + 1) (by omega) (by omega)
  have e'':af (L12_1 (ai pg) af) [.ip (ab m.av),.hp q 0,strs m.uses,.int .i64 m.uses.length,.int .i64 ((i:Int) + 1)] h=_:=e'
  rw[h2,List.cons_append,bS,FL12_1]
  generalize m.uses[i]=u at hix ⊢
  have l1:∀ g:AV→M AV,ae (bA T 118 (.hp q 9)) g h=g mp h:=fun g=>aV R.mp g
  have l2:∀ g:AV→M AV,ae (cL T 118 mp (.str u) true) g h=g (.tup [((fs.find? fun f=>f.module== u).getD gO).av,.bool (fs.find? fun f=>f.module== u).isSome]) h:=fun g=>aV (od R.map u) g
  simp only[bC] at e''
  cases hf:fs.find? (fun f=>f.module== u) with
  | none=>
   rw[hf] at l2
   refine⟨h,?_⟩
   simp[L12_1,h1,hix,l1,l2,kX,mJ]
   rfl
  | some f=>
   rw[hf] at l2
   by_cases hu:u=m.name
   ·subst hu
    refine⟨h,?_⟩
    simp[L12_1,h1,hix,l1,l2,kX,mJ]
    rfl
   ·refine⟨h',?_⟩
    have hu':(u== m.name)=false:=beq_eq_false_iff_ne.2 hu
    simp[L12_1,h1,hix,l1,l2,kX,hu,hw,e'']
def nI(m:Ap.Mod)(fs:List Face):aW×Int:=if (fs.all gJ&&iK m)=true then bS (lK m (cC [] fs)++jN m:: CB m (cC [] fs)) else ([],1)
theorem P6(m:Ap.Mod)(hm:m.Lim)(fs:List Face)(hfs:∀ f∈fs,f.Lim)(hlen:fs.length≤140737488355328):ai pg 12 [m.av,faces fs]=M.pure (mJ (nI m fs)):=by
 have fin:∀(h:Hp)(x:aW×Int),iE 6 h (mJ x)=mJ x:=fun h x=>by
  have hc:Ap.Clean (mJ x):=fun g=>by simp[mJ,cl,ee]
  exact hc.frz 6 h
 have hR:=t13 m hm
 have lm:aj T 29 (.ip (ab m.av))=some m.av:=rfl
 obtain⟨n1,n2⟩:=P8 m fs hfs hlen []
 rw[C12,uk,DR]
 unfold nI
 cases ha:fs.all gJ with
 | false=>
  obtain⟨h',e'⟩:=n2 ha
  have k1:∀ g:AV→M AV,ae (ai pg 49 [m.av,faces fs]) g []=g (.tup [.nilp,.bool false]) h':=fun g=>aV e' g
  refine bN (v:=mJ ([],1)) (h':=h') ?_ (fin _ _)
  simp only[bC] at lm
  simp[S12,k1,lm]
  rfl
 | true=>
  have e1:=n1 ha
  have k1:∀ g:AV→M AV,ae (ai pg 49 [m.av,faces fs]) g []=g (.tup [.hp 1 0,.bool true]) ([]++[[.tup (cd (cC [] fs))],aZ m (.mp 0) 0]):=fun g=>aV e1 g
  cases hr:iK m with
  | false=>
   rw[hr] at hR
   refine bN (v:=mJ ([],1)) (h':=[]++[[.tup (cd (cC [] fs))],aZ m (.mp 0) 0]) ?_ (fin _ _)
   simp only[bC] at lm
   simp[S12,k1,lm,hR]
   rfl
  | true=>
   rw[hr] at hR
   have MK:=mf hr
   have hdm:∀ f∈cC [] fs,f∈fs:=fun f hf=>by
    rcases sZ fs [] f hf with h | h
    ·cases h
    ·exact h
   have K:CxOk m (cC [] fs):=O6 MK (fun f hf=>hfs f (hdm f hf)) (fun f hf=>List.all_eq_true.1 ha f (hdm f hf))
   have R:JR ([]++[[.tup (cd (cC [] fs))],aZ m (.mp 0) 0]) 1 m (.mp 0) (cC [] fs) 0:=⟨rfl,.inr ⟨0,rfl,rfl⟩,by simp⟩
   obtain⟨h',e'⟩:=Gs hm MK K R m.uses.length 0 rfl (Nat.zero_le _)
   have e'':af (L12_1 (ai pg) af) [.ip (ab m.av),.hp 1 0,strs m.uses,.int .i64 m.uses.length,.int .i64 0] ([]++[[.tup (cd (cC [] fs))],aZ m (.mp 0) 0])= .ok (mJ (bS (lK m (cC [] fs)++jN m:: CB m (cC [] fs)))) h':=e'
   simp only[bC] at lm e''
   simp only[Bool.and_self,if_true]
   refine bN (v:=mJ (bS (lK m (cC [] fs)++jN m:: CB m (cC [] fs)))) (h':=h') ?_ (fin _ _)
   rw[← e'']
   simp[S12,k1,lm,hR]
theorem Nz(x:Sig):(ab x.av).length=5:=by simp
def A7(h:Hp)(v:AV)(l:List Sig):Prop:=(l=[]∧v= .hn)∨(l≠[]∧∃ q,v= .hs q 0 l.length 5 true∧h[q]? = some (rowOf Sig.av l))
theorem zx:(l:List Sig)→(rowOf Sig.av l).all aO=true
 | []=>rfl
 | f:: l=>by
  rw[iM,List.all_append,zx l,Bool.and_true,fa]
  rfl
theorem CM{h:Hp}{v:AV}{l:List Sig}(A:A7 h v l)(hl:l.length≤1000000)(s:Sig):∃ v' h',appH T 67 false v (sigs [s]) h= .ok v' h'∧A7 h' v' (l++[s])∧cq v'=M.pure v':=by
 rcases A with ⟨rfl,rfl⟩ | ⟨hne,q,rfl,hq⟩
 ·have e2:=H5 (T:=T) (t:=67) (e:=150) rfl rfl rfl (x:=s.av) (kH s) (by decide) (by decide) (by decide) h
  refine⟨_,_,e2,.inr ⟨by simp,h.length,rfl,?_⟩,rfl⟩
  simp[rowOf]
 ·have hln:=fu (f:=Sig.av) Nz l
  have e2:=DC (T:=T) (t:=67) (e:=150) rfl rfl rfl (x:=s.av) (kH s) (by decide) (by decide) hq (zx l) hln (List.length_pos_iff.2 hne) (show (l.length + 1) * 80≤140737488355328 by omega)
  refine⟨_,_,e2,.inr ⟨by simp,h.length,by rw[List.length_append];rfl,?_⟩,rfl⟩
  simp[rowOf]
theorem Hi(V:List AV→M AV)(m:Ap.Mod)(f:Fun)(hf:FunOk f)(i:Nat)(hv x3 x4:AV)(h:Hp):∀(k j:Nat)(acc:List Ty),f.params.length - j=k→j≤f.params.length→acc.length≤j→
  af (L23_0 (ai pg) af V) [eQ m.funcs,.int .i64 m.funcs.length,.int .i64 i,aH f.params,.int .i64 f.params.length,.int .i64 j,x3,x4,.str m.name,hv,.str f.name,gn acc,.int .i64 f.result.kind,aH f.result.fields,.int .i64 f.effects] h=ae (appH T 67 false hv (sigs [⟨f.name,acc++(f.params.drop j).map (·.2),f.result,f.effects⟩])) (fun v=>ae (cq v) fun _=>V [eQ m.funcs,.int .i64 m.funcs.length,.int .i64 (IntKind.i64.wrap ((i:Int) + 1)),x3,x4,.str m.name,v]) h:=by
 have hpl:=hf.plen
 intro k
 induction k with
 | zero=>
  intro j acc hk hj ha
  have h1:¬ ((j:Int) < (f.params.length:Int)):=by omega
  have h2:f.params.drop j=[]:=List.drop_eq_nil_of_le (by omega)
  have b1:aB T 67 1 [(0,.agg [.str f.name,gn acc,.int .i64 f.result.kind,aH f.result.fields,.int .i64 f.effects])]=some (sigs [⟨f.name,acc,f.result,f.effects⟩]):=rfl
  rw[FL23_0,h2]
  simp only[L23_0,bu,bD,cN,aT,h1,decide_false,bz,Bool.false_eq_true,if_false,b1,fA,List.map_nil,List.append_nil]
 | succ k ih=>
  intro j acc hk hj ha
  have hlt:j < f.params.length:=by omega
  have h1:(j:Int) < (f.params.length:Int):=by omega
  have h2:f.params.drop j=f.params[j]:: f.params.drop (j + 1):=List.drop_eq_getElem_cons hlt
  have hw:IntKind.i64.wrap ((j:Int) + 1)=(j:Int) + 1:=bG (by omega)
  have hix:=pz (l:=f.params) (n:=(j:Int)) (by omega) h1
  rw[Int.toNat_natCast,getElem!_pos f.params j hlt] at hix
  have hcl:=t81 f.params[j].2 (hf.pars _ (List.getElem_mem hlt))
  have ih':=ih (j + 1) (acc++[f.params[j].2]) (by omega) (by omega) (by simp;omega)
  have hap:=CF (a:=acc) (b:=[f.params[j].2]) (by simp;omega)
  rw[h2,List.map_cons]
  generalize f.params[j]=z at hix hcl hap ih' ⊢
  have hsl:aB T 148 1 [(0,z.2.av)]=some (gn [z.2]):=by cases z.2;rfl
  have hc1:∀ l:List Ty,cq (gn l)=M.pure (gn l):=fun l=>rfl
  rw[show acc++z.2:: (f.params.drop (j + 1)).map (·.2)=acc++[z.2]++(f.params.drop (j + 1)).map (·.2) by simp,← ih']
  generalize hcode:af (L23_0 (ai pg) af V) [eQ m.funcs,.int .i64 m.funcs.length,.int .i64 i,aH f.params,.int .i64 f.params.length,.int .i64 j,x3,x4,.str m.name,hv,.str f.name,gn acc,.int .i64 f.result.kind,aH f.result.fields,.int .i64 f.effects] h=code
  rw[FL23_0] at hcode
  simp -implicitDefEqProofs only[L23_0,bu,bD,cN,aT,h1,decide_true,bz,if_true,hix,dm,LD87,List.length_cons,List.length_nil,Nat.zero_add,Nat.reduceAdd,Nat.le_refl,List.take_succ_cons,List.take_zero,gu,qh,bi,FA87_1,List.drop_succ_cons,List.drop_zero,LD72,eA,hcl,ff,hsl,hap,hc1,fA,hw] at hcode
  rw[← hcode]
  rfl
theorem Hj(m:Ap.Mod)(MK:ModOk m):∀(k i:Nat)(hv x3 x4:AV)(h:Hp),m.funcs.length - i=k→i≤m.funcs.length→A7 h hv (eO (m.funcs.take i))→
  ∃ hv' h',A7 h' hv' (eO m.funcs)∧af (L23_1 (ai pg) af) [eQ m.funcs,.int .i64 m.funcs.length,.int .i64 i,x3,x4,.str m.name,hv] h=ae (ai pg 82 [hv',.fn (.func 83) [] []]) (fun _=>ae (ar 2 [] (.agg [.str m.name,hv'])) fun v=>M.pure (.agg [nth (ab v) 0,nth (ab v) 1])) h':=by
 have hfl:=MK.flen
 intro k
 induction k with
 | zero=>
  intro i hv x3 x4 h hk hi A
  have h1:¬ ((i:Int) < (m.funcs.length:Int)):=by omega
  have h2:m.funcs.take i=m.funcs:=List.take_of_length_le (by omega)
  rw[h2] at A
  refine⟨hv,h,A,?_⟩
  rw[FL23_1]
  simp only[L23_1,bu,bD,cN,aT,h1,decide_false,bz,Bool.false_eq_true,if_false]
 | succ k ih=>
  intro i hv x3 x4 h hk hi A
  have hlt:i < m.funcs.length:=by omega
  have h1:(i:Int) < (m.funcs.length:Int):=by omega
  have hw:IntKind.i64.wrap ((i:Int) + 1)=((i + 1:Nat):Int):=bG (by omega)
  have hix:=vB (l:=m.funcs) (n:=(i:Int)) (by omega) h1
  rw[Int.toNat_natCast,getElem!_pos m.funcs i hlt] at hix
  have hf:=MK.fns _ (List.getElem_mem hlt)
  have ht:m.funcs.take (i + 1)=m.funcs.take i++[m.funcs[i]]:=List.take_succ_eq_append_getElem hlt
  have ih0:=ih (i + 1)
  rw[ht] at ih0
  have cf:∀ f:Fun,aC 12 f.av=M.pure f.av:=fun f=>by rw[bd (iH f),eE,iC]
  rw[FL23_1]
  generalize m.funcs[i]=f at hix hf ih0 ⊢
  cases hp:f.pub with
  | false=>
   have e:eO (m.funcs.take i++[f])=eO (m.funcs.take i):=by simp[eO,hp]
   rw[e] at ih0
   obtain⟨hv',h',A',e'⟩:=ih0 hv x3 x4 h (by omega) (by omega) A
   refine⟨hv',h',A',?_⟩
   rw[← e']
   simp[L23_1,h1,hix,cf,hw]
   simp[hp]
  | true=>
   have e:eO (m.funcs.take i++[f])=eO (m.funcs.take i)++[xN f]:=by simp[eO,hp]
   rw[e] at ih0
   have hlen:(eO (m.funcs.take i)).length≤1000000:=by
    have:(eO (m.funcs.take i)).length≤(m.funcs.take i).length:=by
     unfold eO
     rw[List.length_map]
     exact List.length_filter_le _ _
    rw[List.length_take] at this
    omega
   obtain⟨v1,h1',e1,A1,c1⟩:=CM A hlen (xN f)
   obtain⟨hv',h',A',e'⟩:=ih0 v1 x3 x4 h1' (by omega) (by omega) A1
   refine⟨hv',h',A',?_⟩
   rw[← e']
   have hin:=Hi (af (L23_1 (ai pg) af)) m f hf i hv x3 x4 h f.params.length 0 [] rfl (Nat.zero_le _) (Nat.zero_le _)
   rw[hw] at hin
   have hin2:af (L23_0 (ai pg) af (af (L23_1 (ai pg) af))) [eQ m.funcs,.int .i64 m.funcs.length,.int .i64 i,aH f.params,.int .i64 f.params.length,.int .i64 0,x3,x4,.str m.name,hv,.str f.name,.sl [],.int .i64 f.result.kind,aH f.result.fields,.int .i64 f.effects] h=af (L23_1 (ai pg) af) [eQ m.funcs,.int .i64 m.funcs.length,.int .i64 ((i + 1:Nat):Int),x3,x4,.str m.name,v1] h1':=by
    refine hin.trans ?_
    show ae (appH T 67 false hv (sigs [xN f])) _ h=_
    rw[aV e1,c1,bi]
   have hcl:=t81 f.result hf.res
   have bs1:∀(k:Int)(x:List cr)(e:Int),aL T true 150 [(0,.str f.name),(2,(Ty.mk k x).av),(3,.int .i64 e)]=some (.agg [.str f.name,.hn,.int .i64 k,aH x,.int .i64 e]):=fun k x e=>rfl
   have bs2:aL T true 150 [(0,.str f.name),(2,f.result.av),(3,.int .i64 f.effects)]=some (.agg [.str f.name,.hn,.int .i64 f.result.kind,aH f.result.fields,.int .i64 f.effects]):=by
    have:=bs1 f.result.kind f.result.fields f.effects
    rwa [Ty.eta] at this
   have bs3:ar 5 [1] (.agg [.str f.name,.hn,.int .i64 f.result.kind,aH f.result.fields,.int .i64 f.effects])=M.pure (.agg [.str f.name,.hn,.int .i64 f.result.kind,aH f.result.fields,.int .i64 f.effects]):=rfl
   rw[← hin2]
   simp[L23_1,h1,hix,cf,hcl,bs2,bs3]
   simp[hp]
theorem sW(l:List Sig)(i:Nat)(hi:i < l.length):dN 5 (rowOf Sig.av l) i=ab l[i].av:=gC Nz l i hi
theorem zH(l:List Sig):rowOf Sig.av l=(l.map fun s=>ab s.av).flatten:=by
 unfold rowOf
 rw[List.flatMap_def,List.map_map]
 rfl
theorem lr(l:List Sig):(fw l).length=l.length:=(gd l).length_eq
theorem A8{h:Hp}{hv:AV}{l:List Sig}(A:A7 h hv l)(hl:l.length≤1000):∃ h',ai pg 82 [hv,.fn (.func 83) [] []] h= .ok (.tup []) h'∧A7 h' hv (fw l):=by
 have e0:ai pg 82 [hv,.fn (.func 83) [] []]=fV 5 83 (ai pg) [hv,.fn (.func 83) [] []]:=cS hOther rfl _
 rw[e0]
 rcases A with ⟨rfl,rfl⟩ | ⟨hne,q,rfl,hq⟩
 ·exact⟨h,rfl,.inl ⟨List.eq_nil_of_length_eq_zero (lr []),rfl⟩⟩
 ·have hln:=fu (f:=Sig.av) Nz l
  have hpos:0 < l.length:=List.length_pos_iff.2 hne
  have hrow:((rowOf Sig.av l).drop 0).take (l.length * 5)=rowOf Sig.av l:=by rw[List.drop_zero,← hln];exact List.take_length
  have hkeys:keysOf 5 l.length (rowOf Sig.av l)=some (l.map (·.name)):=by
   unfold keysOf
   have e:(List.range l.length).map (fun i=>dN 5 (rowOf Sig.av l) i)=l.map fun s=>ab s.av:=by
    apply List.ext_getElem
    ·simp
    ·intro i h1 h2
     simp only[List.getElem_map,List.getElem_range]
     exact sW l i (by simpa using h2)
   rw[e]
   have:=wQ (nm:=fun c=>match c with | .str s:: _=>s | _=>[]) (cs:=l.map fun s=>ab s.av) (fun c hc=>by
    obtain⟨s,_,rfl⟩:=List.mem_map.1 hc
    rfl)
   rw[this,List.map_map]
   rfl
  have hpl:(fr (l.map (·.name))).length=l.length:=by
   have:=(xu (l.map (·.name))).1.length_eq
   simpa using this
  have hflat:((fr (l.map (·.name))).map fun i=>dN 5 (rowOf Sig.av l) (i % l.length)).flatten=rowOf Sig.av (fw l):=by
   rw[zH (fw l)]
   unfold fw
   rw[List.map_map]
   congr 1
   apply List.map_congr_left
   intro i _
   have hm:=Nat.mod_lt i hpos
   simp only[Function.comp]
   rw[sW l _ hm,getElem!_pos l _ hm]
  have hlen2:(rowOf Sig.av (fw l)).length=(rowOf Sig.av l).length:=by rw[fu (f:=Sig.av) Nz,lr,hln]
  have hset:setCells (rowOf Sig.av l) 0 (rowOf Sig.av (fw l))=rowOf Sig.av (fw l):=by
   unfold setCells
   rw[List.take_zero,List.nil_append,Nat.zero_add,hlen2,List.drop_length,List.append_nil]
  have hok:=zx l
  refine⟨h.set q (rowOf Sig.av (fw l)),?_,.inr ⟨fun e=>hne (by have:=lr l;rw[e] at this;exact List.eq_nil_of_length_eq_zero this.symm),q,by rw[lr],List.getElem?_set_self (List.getElem?_eq_some_iff.1 hq).1⟩⟩
  unfold fV
  simp only[hq,hrow,hkeys,hflat,hset]
  have hb:Nat.beq 83 83=true:=rfl
  have hb5:Nat.beq 5 5=true:=rfl
  have hall:((rowOf Sig.av l).all aO)=true:=hok
  have hcond:(Nat.beq 83 83&&Nat.beq 5 5&&decide (0 < l.length)&&decide (0 < 5)&&decide (0 + l.length * 5≤(rowOf Sig.av l).length)&&decide ((l.map (·.name)).length=l.length)&&decide (l.length < 4611686018427387904)&&decide ((fr (l.map (·.name))).length=l.length)&&(rowOf Sig.av l).all aO)=true:=by
   have g1:decide (0 < l.length)=true:=decide_eq_true hpos
   have g2:decide (0 + l.length * 5≤(rowOf Sig.av l).length)=true:=decide_eq_true (by omega)
   have g3:decide ((l.map (·.name)).length=l.length)=true:=decide_eq_true (List.length_map ..)
   have g4:decide (l.length < 4611686018427387904)=true:=decide_eq_true (by omega)
   have g5:decide ((fr (l.map (·.name))).length=l.length)=true:=decide_eq_true hpl
   rw[g1,g2,g3,g4,g5,hall,hb,hb5]
   rfl
  rw[hcond]
  rfl
def na(m:Ap.Mod):Face:=if iK m=true then ⟨m.name,fw (eO m.funcs)⟩ else gO
theorem P7(m:Ap.Mod)(hm:m.Lim):ai pg 23 [m.av]=M.pure (na m).av:=by
 have hR:=t13 m hm
 have lm:aj T 29 (.ip (ab m.av))=some m.av:=rfl
 simp only[bC] at lm
 rw[C23,uk]
 unfold na
 by_cases hr:iK m=true
 ·rw[hr] at hR
  rw[if_pos hr]
  have MK:=mf hr
  obtain⟨hv,h',A,e'⟩:=Hj m MK m.funcs.length 0 .hn (.str []) (.sl []) [] rfl (Nat.zero_le _) (.inl ⟨rfl,rfl⟩)
  have hpl:(eO m.funcs).length≤1000:=by
   have:(eO m.funcs).length≤m.funcs.length:=by
    unfold eO
    rw[List.length_map]
    exact List.length_filter_le _ _
   have:=MK.flen
   omega
  obtain⟨h2,e2,A2⟩:=A8 A hpl
  have b1:aL T true 69 [(0,.str m.name)]=some (.agg [.str m.name,.hn]):=rfl
  have b2:ar 2 [1] (.agg [.str m.name,.hn])=M.pure (.agg [.str m.name,.hn]):=rfl
  have b2':ar 2 [] (.agg [.str m.name,.hn])=M.pure (.agg [.str m.name,.hn]):=rfl
  have hcn:ar 2 [] (.agg [.str m.name,hv])=M.pure (.agg [.str m.name,hv]):=by
   rcases A2 with ⟨_,rfl⟩ | ⟨_,q,rfl,_⟩
   ·rfl
   ·exact aR rfl
  have hfz:iE 6 h2 (.agg [.str m.name,hv])=(Face.mk m.name (fw (eO m.funcs))).av:=by
   rcases A2 with ⟨e,rfl⟩ | ⟨_,q,rfl,hq⟩
   ·rw[e];rfl
   ·have hfr:=nS (f:=Sig.av) Nz (fun x=>by rw[fa,qH]) (fun x g=>yK g x) (by decide) hq 5
    have e:(Face.mk m.name (fw (eO m.funcs))).av= .agg [.str m.name,.sl ((fw (eO m.funcs)).map Sig.av)]:=rfl
    rw[e,← hfr]
    rfl
  refine bN (v:=.agg [.str m.name,hv]) (h':=h2) ?_ hfz
  have e'':af (L23_1 (ai pg) af) [eQ m.funcs,.int .i64 m.funcs.length,.int .i64 0,.str [],.sl [],.str m.name,.hn] []= .ok (.agg [.str m.name,hv]) h2:=by
   refine e'.trans ?_
   rw[aV e2,hcn]
   rfl
  simp[S23,lm,hR,b1,b2,b2',e'']
 ·rw[if_neg hr]
  rw[Bool.not_eq_true] at hr
  rw[hr] at hR
  have b1:aL T false 69 []=some gO.av:=rfl
  have b2:ar 2 [] gO.av=M.pure gO.av:=rfl
  have hfz:iE 6 [] gO.av=gO.av:=rfl
  refine bN (v:=gO.av) (h':=[]) ?_ hfz
  simp[S23,lm,hR,b1,b2]
  rfl
structure Accd (m:Ap.Mod) (fs:List Face):Prop where
 right:iK m=true
 faces:∀ f∈fs,gJ f=true
 uses:∀ u∈m.uses,u≠m.name
 moves:(jN m).2=0
 fns:∀ f∈m.funcs,∃ t n,bF (ej m (cC [] fs)) 12 f.params f.body 0= .ok t n∧bW t f.result=true∧dG n f.effects=0
theorem GK{c:Tcx}{f:Fun}(h:CE c f=0):∃ t n,bF c 12 f.params f.body 0= .ok t n∧bW t f.result=true∧dG n f.effects=0:=by
 unfold CE at h
 cases hx:bF c 12 f.params f.body 0 with
 | er b n=>rw[hx] at h;exact absurd h (gW c 12 f.params f.body 0 b n hx)
 | ok t n=>
  rw[hx] at h
  simp only at h
  by_cases h1:bW t f.result=true
  ·rw[if_pos h1] at h
   by_cases h2:dG n f.effects=0
   ·exact⟨t,n,rfl,h1,h2⟩
   ·rw[if_neg h2] at h;cases h
  ·rw[if_neg h1] at h;cases h
theorem yI{m:Ap.Mod}{fs:List Face}(h:(nI m fs).2=0):Accd m fs:=by
 unfold nI at h
 split at h
 ·rename_i hr
  rw[Bool.and_eq_true,List.all_eq_true] at hr
  have H:=Am h
  refine⟨hr.2,hr.1,fun u hu e=>?_,H _ (by simp),fun f hf=>?_⟩
  ·have:=H _ (List.mem_append_left _ (List.mem_map_of_mem hu))
   simp only at this
   rw[if_pos (by simp[e])] at this
   cases this
  ·exact GK (H _ (List.mem_append_right _ (List.mem_cons_of_mem _ (List.mem_map_of_mem hf))))
 ·cases h
structure Prog (p:List Mod):Prop where
 names:(p.map (·.name)).Nodup
 acc:∀ i (h:i < p.length),Accd p[i] ((p.take i).map na)
theorem Prog.find{p:List Mod}(P:Prog p){i:Nat}(h:i < p.length){s:aW}(hs:p[i].name=s):p.find? (fun m=>m.name== s)=some p[i]:=by
 subst hs
 exact qE (·.name) P.names (List.getElem_mem h)
theorem Prog.findR{p:List Mod}(P:Prog p){i:Nat}(h:i < p.length){r:aD}(hs:p[i].name=r.1):findR p r=p[i].funcs.find? fun f=>f.name== r.2:=by
 unfold Ap.findR
 rw[P.find h hs]
theorem Prog.of_findR{p:List Mod}(P:Prog p){r:aD}{g:Fun}(h:Ap.findR p r=some g):∃ i,∃(hi:i < p.length),p[i].name=r.1∧g∈p[i].funcs∧g.name=r.2:=by
 unfold Ap.findR at h
 split at h
 ·rename_i m hm
  obtain⟨i,hi,rfl⟩:=List.getElem_of_mem (List.mem_of_find?_eq_some hm)
  exact⟨i,hi,by simpa using List.find?_some hm,List.mem_of_find?_eq_some h,by simpa using List.find?_some h⟩
 ·cases h
theorem Prog.same{p:List Mod}(P:Prog p){i j:Nat}(hi:i < p.length)(hj:j < p.length)(h:p[i].name=p[j].name):i=j:=by
 have H:=List.pairwise_iff_getElem.1 P.names
 rcases Nat.lt_trichotomy i j with h1 | h1 | h1
 ·have:=H i j (by simpa using hi) (by simpa using hj) h1;simp at this;exact absurd h this
 ·exact h1
 ·have:=H j i (by simpa using hj) (by simpa using hi) h1;simp at this;exact absurd h.symm this
theorem Cj{m:Ap.Mod}(h:iK m=true):na m=⟨m.name,fw (eO m.funcs)⟩:=by unfold na;rw[if_pos h]
theorem E4{l:List Fun}(hn:(l.map (·.name)).Nodup){s:aW}{g:Sig}(h:(fw (eO l)).find? (fun x=>x.name== s)=some g):∃ f,l.find? (fun f=>f.name== s)=some f∧f.pub=true∧g=xN f:=by
 have hm:(eO l).map (·.name)=(l.filter (·.pub)).map (·.name):=by
  unfold eO
  rw[List.map_map]
  rfl
 have hn2:((eO l).map (·.name)).Nodup:=by
  rw[hm]
  exact (List.filter_sublist.map _).nodup hn
 rw[BM (gd _) hn2] at h
 have h1:=List.mem_of_find?_eq_some h
 have h2:g.name=s:=by simpa using List.find?_some h
 unfold eO at h1
 obtain⟨f,hf,rfl⟩:=List.mem_map.1 h1
 obtain⟨hf1,hf2⟩:=List.mem_filter.1 hf
 have h3:f.name=s:=h2
 subst h3
 exact⟨f,qE (·.name) hn hf1,hf2,rfl⟩
theorem AK{m:Ap.Mod}(hm:m.Lim):(na m).Lim:=by
 unfold na
 split
 ·rename_i hr
  have hl:(fw (eO m.funcs)).length≤30:=by
   rw[(gd _).length_eq]
   unfold eO
   rw[List.length_map]
   exact Nat.le_trans (List.length_filter_le _ _) (mf hr).flen
  refine⟨by show (fw (eO m.funcs)).length≤_;omega,fun s hs=>?_⟩
  have hs':s∈eO m.funcs:=(gd _).mem_iff.1 hs
  unfold eO at hs'
  obtain⟨f,hf,rfl⟩:=List.mem_map.1 hs'
  have hf':=hm.fns f (List.mem_filter.1 hf).1
  refine⟨?_,fun t ht=>?_,hf'.result⟩
  ·show (f.params.map (·.2)).length≤_
   rw[List.length_map]
   exact hf'.params
  ·obtain⟨z,hz,rfl⟩:=List.mem_map.1 ht
   exact hf'.pty z hz
 ·exact⟨by decide,fun s hs=>by cases hs⟩
theorem Prog.callee{p:List Mod}(P:Prog p){i:Nat}(hi:i < p.length){e:Exp}{s:List Ty×Ty×Int} (h:cZ (ej p[i] (cC [] ((p.take i).map na))) e=some s) (f:aW):
  ∃ j,∃(hj:j < p.length),∃ g,j≤i∧p[j].name=(xY (p[i].name,f) e).1∧p[j].funcs.find? (fun g=>g.name== e.s)=some g∧s=(g.params.map (·.2),g.result,g.effects)∧(e.m≠[]→g.pub=true∧j < i∧e.m∈p[i].uses):=by
 unfold cZ at h
 by_cases hm:e.m=[]
 ·rw[if_pos hm] at h
  split at h
  ·rename_i g hg
   cases h
   refine⟨i,hi,g,Nat.le_refl _,?_,hg,rfl,fun h=>absurd hm h⟩
   simp[xY,hm]
  ·cases h
 ·rw [if_neg hm] at h
  have hd:(ej p[i] (cC [] ((p.take i).map na))).faces e.m=((p.take i).map na).find? fun f=>f.module== e.m:=by
   show (cC [] ((p.take i).map na)).find? (fun f=>f.module== e.m)=_
   rw[qx]
   rfl
  rw[hd] at h
  split at h
  ·cases h
  ·rename_i F hF
   have hF1:=List.mem_of_find?_eq_some hF
   have hF2:F.module=e.m:=by simpa using List.find?_some hF
   obtain⟨m,hmm,rfl⟩:=List.mem_map.1 hF1
   obtain⟨j,hj,e1⟩:=List.getElem_of_mem hmm
   have hj':j < i:=by simp at hj;omega
   have hjp:j < p.length:=by omega
   have e2:m=p[j]:=by rw[← e1,List.getElem_take]
   subst e2
   have hR:=(P.acc j hjp).right
   rw[Cj hR] at h hF2
   simp only at h hF2
   split at h
   ·cases h
   ·rename_i g hg
    split at h
    ·rename_i hu
     cases h
     obtain⟨f',h1,h2,rfl⟩:=E4 (mf hR).fnames hg
     exact⟨j,hjp,f',by omega,by simp[xY,hm,hF2],h1,rfl,fun _=>⟨h2,hj',hu⟩⟩
    ·cases h
theorem Prog.stated{p:List Mod}(P:Prog p){f:aD}{a:Nat}(ha:a < p.length)(hn:p[a].name=f.1){x:Fun}(hx:Ap.findR p f=some x):
  ∀ r∈lO p f,∃ j,∃(hj:j < p.length),∃ g,j≤a∧p[j].name=r.1∧Ap.findR p r=some g∧gS g.effects x.effects:=by
 refine Bb (A:=fun r=>∃ j,∃(hj:j < p.length),∃ g,j≤a∧p[j].name=r.1∧Ap.findR p r=some g∧gS g.effects x.effects) ⟨a,ha,x,Nat.le_refl _,hn,hx,gS.refl _⟩ ?_
 rintro y r ⟨j,hj,g,hja,hjn,hg,hge⟩ hr
 obtain⟨e,he,hcb,rfl⟩:=oe.1 hr
 unfold ji at he
 rw[hg,Option.getD_some] at he
 have hr15:e.op=15:=by
  unfold lC at hcb
  rw[Bool.and_eq_true] at hcb
  exact beq_iff_eq.1 hcb.1
 have hgm:g∈p[j].funcs:=by
  rw[P.findR hj hjn] at hg
  exact List.mem_of_find?_eq_some hg
 obtain⟨t,n,h1,_,h3⟩:=(P.acc j hj).fns g hgm
 obtain⟨s,hs,hse⟩:=(Po _ 12 _ _ _ _ _ ((mf (P.acc j hj).right).fns g hgm).body h1 e he).2 hr15
 obtain⟨k,hk,g',hkj,hkn,hkf,rfl,_⟩:=P.callee hj hs y.2
 have hy:(p[j].name,y.2)=y:=Prod.ext hjn rfl
 rw[hy] at hkn
 refine⟨k,hk,g',by omega,hkn,?_,(hse.trans (oV h3)).trans hge⟩
 rw[P.findR hk hkn]
 exact hkf
theorem Prog.effs{p:List Mod}(P:Prog p){f:aD}{a:Nat}(ha:a < p.length)(hn:p[a].name=f.1){x:Fun}(hx:Ap.findR p f=some x):Hk (yQ p) 0#64 ((bq p f).map (·.1)) ||| bv x.effects=bv x.effects:=by
 refine qI _ _ _ BitVec.zero_or fun r hr=>?_
 obtain⟨j,hj,g,hja,hjn,hg,hge⟩:=P.stated ha hn hx r (uG.2 hr)
 refine qI _ _ _ BitVec.zero_or fun e he=>?_
 unfold ji at he
 rw[hg,Option.getD_some] at he
 have hgm:g∈p[j].funcs:=by
  rw[P.findR hj hjn] at hg
  exact List.mem_of_find?_eq_some hg
 obtain⟨t,n,h1,_,h3⟩:=(P.acc j hj).fns g hgm
 have h4:=Po _ 12 _ _ _ _ _ ((mf (P.acc j hj).right).fns g hgm).body h1 e he
 have h5:=D7 h4
 have h6:bv n ||| bv x.effects=bv x.effects:=(oV h3).trans hge
 rw[← h6,← BitVec.or_assoc,h5]
end Go.Proofs.YtkkabinknmldeaaGreat
namespace Go.Proofs.YtkkabinknmldeaaGreat
open Go Go.Av Go.Av.Ap
set_option maxRecDepth 100000
theorem cy{α β:Type}{m:M α}{f:α→M β}{h h':Hp}{a:α}(e:m h= .ok a h'):ae m f h=f a h':=by simp only[ae,e]
section
variable {V:Type} {f:V→AV} {t et:Nat} {ei:TI} {h:Hp} {l:Nat} {es:List (aD×V)}
theorem oc(hm:fP T t=some (65,et))(he:T et=some ei)(hl:h[l]? = some [.tup (es.map (bV f))])(k:aD)(ok:Bool):
  cL T t (.mp l) (aP k) ok h= .ok (match eu es k with | some v=>(bif ok then .tup [f v,.bool true] else f v) | none=>(bif ok then .tup [eK ei,.bool false] else eK ei)) h:=by
 unfold cL gq
 simp only[hl,EO f hm he]
 cases eu es k <;> rfl
theorem rI(hm:fP T t=some (65,et))(hl:h[l]? = some [.tup (es.map (bV f))])(k:aD)(v:V):
  putH T t (.mp l) (aP k) (f v) h= .ok (.tup []) (h.set l [.tup ((gB es k v).map (bV f))]):=by
 unfold putH
 have hc:vV T 20 65 (aP k)=true:=rfl
 simp only[hm,hc,cond_true,hl,AO f]
end
theorem Lf:∃ ei,T 76=some ei∧eK ei=r9.av:=⟨_,rfl,rfl⟩
theorem FO:∃ ei,T 65=some ei∧eK ei=aP ([],[]):=⟨_,rfl,rfl⟩
def iu(p:List Mod)(h:Hp)(l:Nat):Prop:=h[l]? = some [.tup ((bT p).map (bV Fun.av))]
theorem jr{p:List Mod}{h:Hp}{l:Nat}(hl:iu p h l)(k:aD)(ok:Bool):cL T 160 (.mp l) (aP k) ok h= .ok (bif ok then .tup [((findR p k).getD r9).av,.bool (findR p k).isSome] else ((findR p k).getD r9).av) h:=by
 obtain⟨ei,h1,h2⟩:=Lf
 rw[oc EU h1 hl,Au,h2]
 cases findR p k <;> cases ok <;> rfl
theorem G6(l:List aW)(hb:l.length≤1099511627776):∀(n:Nat)(i:Int),l.length - i.toNat=n→0≤i→i≤l.length→
  af (L248_0 (ai pg) af) [.str [],strs l,.int .i64 l.length,.int .i64 i]=M.pure (.str (((l.drop i.toNat).find? fun x=>!(x== [])).getD [])):=by
 intro n
 induction n with
 | zero=>
  intro i hn hi hl
  rw[FL248_0]
  simp only[L248_0]
  have h1:¬ (i < (l.length:Int)):=by omega
  have h2:l.drop i.toNat=[]:=List.drop_eq_nil_of_le (by omega)
  simp[h1,h2]
 | succ n ih=>
  intro i hn hi hl
  have h1:i < (l.length:Int):=by omega
  have hlt:i.toNat < l.length:=by omega
  have h4:=ih (i + 1) (by omega) (by omega) (by omega)
  rw[show (i + 1).toNat=i.toNat + 1 by omega] at h4
  rw[FL248_0,List.drop_eq_getElem_cons hlt]
  simp only[L248_0,List.find?_cons]
  by_cases h0:l[i.toNat]=[]
  ·simp (disch:=omega) [h1,br,vA,h4,h0,getElem!_pos l i.toNat hlt]
  ·have h0':(l[i.toNat]== [])=false:=beq_eq_false_iff_ne.2 h0
   simp (disch:=omega) [h1,br,vA,h0,h0',getElem!_pos l i.toNat hlt]
theorem t248(a b:aW):ai pg 248 [strs [a,b]]=M.pure (.str (if a=[] then b else a)):=by
 rw[C248]
 have:=G6 [a,b] (by simp) 2 0 rfl (by omega) (by simp)
 simp at this
 simp[S248,this]
 by_cases h1:a=[]
 ·by_cases h2:b=[]
  ·simp[h1,h2]
  ·have:(b== [])=false:=beq_eq_false_iff_ne.2 h2
   simp only[h1,List.isEmpty_nil,Bool.not_true,if_true]
   cases b with
   | nil=>exact absurd rfl h2
   | cons c b=>rfl
 ·have:(a== [])=false:=beq_eq_false_iff_ne.2 h1
  simp[h1,this]
theorem t247(p:List Mod)(f:aD)(e:Exp)(h:Hp)(la lf:Nat)(o:List (aD×Bool))(ha:iu p h la)(hf:h[lf]? = some [.tup (o.map (bV AV.bool))]):
  ai pg 247 [e.av,.ip [.str f.1,.str f.2],.ip [.mp la],.ip [.mp lf]] h= .ok (.tup []) (h.set lf [.tup ((ky p f o e).map (bV AV.bool))]):=by
 rw[C247]
 have hB:∀ x y:aW,aB T 22 2 [(0,.str x),(1,.str y)]=some (strs [x,y]):=fun x y=>rfl
 have hB2:∀ x y:aW,aL T false 65 [(0,.str x),(1,.str y)]=some (aP (x,y)):=fun x y=>rfl
 have hset:h.set lf [.tup (o.map (bV AV.bool))]=h:=by
  apply List.ext_getElem?
  intro i
  rw[List.getElem?_set]
  split
  ·rename_i hi;subst hi
   obtain⟨h1,h2⟩:=List.getElem?_eq_some_iff.1 hf
   simp[h1,h2]
  ·rfl
 have hlook:=jr ha (xY f e) true
 have hput:=rI (f:=AV.bool) Nk hf (xY f e) true
 have htg:xY f e=(if e.m=[] then f.1 else e.m,e.s):=rfl
 simp[S247,hB,t248,hB2,ff]
 rw[← htg]
 have hcm:aC 2 (aP (xY f e))=M.pure (aP (xY f e)):=by rw[bd (gz _),eF,iD]
 simp[hcm]
 rw[cy hlook]
 unfold ky lC
 cases hfi:findR p (xY f e) with
 | none=>simp[hfi,hset];rfl
 | some g=>
  simp[hfi]
  split
  ·rw[cy hput];rfl
  ·rw[hset];rfl
end Go.Proofs.YtkkabinknmldeaaGreat
namespace Go.Proofs.YtkkabinknmldeaaGreat
open Go Go.Av Go.Av.Ap
set_option maxRecDepth 100000
theorem vJ{e x:Exp}(h:x∈e.args):SizeOf.sizeOf x < SizeOf.sizeOf e:=by
 cases e with
 | mk o n s m ns es=>
  have:=List.sizeOf_lt_of_mem h
  simp only[Exp.mk.sizeOf_spec]
  show SizeOf.sizeOf x < 1 + SizeOf.sizeOf o + SizeOf.sizeOf n + SizeOf.sizeOf s + SizeOf.sizeOf m + SizeOf.sizeOf ns + SizeOf.sizeOf es
  have h2:SizeOf.sizeOf x < SizeOf.sizeOf es:=this
  omega
theorem KN{σ:Type}{H:σ→Hp}{st:σ→Exp→σ}{g:AV}{l:List Exp}(hl:l.length≤140737488355328) (ih:∀ x∈l,∀ s,ai pg 90 [x.av,g] (H s)= .ok (.tup []) (H ((eS x).foldl st s))):
  ∀(n:Nat) (i:Int) s,l.length - i.toNat=n→0≤i→i≤l.length→af (L90_0 (ai pg) af) [g,cG l,.int .i64 l.length,.int .i64 i] (H s)= .ok (.tup []) (H (((l.drop i.toNat).flatMap eS).foldl st s)):=by
 intro n
 induction n with
 | zero=>
  intro i s hn hi hb
  rw[FL90_0]
  simp only[L90_0]
  have h1:¬ (i < (l.length:Int)):=by omega
  have h2:l.drop i.toNat=[]:=List.drop_eq_nil_of_le (by omega)
  simp[h1,h2]
  rfl
 | succ n IH=>
  intro i s hn hi hb
  have h1:i < (l.length:Int):=by omega
  have hlt:i.toNat < l.length:=by omega
  have h4:=IH (i + 1) ((eS l[i.toNat]).foldl st s) (by omega) (by omega) (by omega)
  rw[show (i + 1).toNat=i.toNat + 1 by omega] at h4
  have h5:=ih _ (List.getElem_mem hlt) s
  rw[FL90_0]
  simp only[L90_0]
  simp (disch:=omega) [h1,br,pB,getElem!_pos l i.toNat hlt]
  rw[cy h5,h4,List.drop_eq_getElem_cons hlt,List.flatMap_cons,List.foldl_append]
theorem t90{σ:Type}{H:σ→Hp}{st:σ→Exp→σ}{g:AV}(hg:∀ s e,bH (ai pg) g [e.av] (H s)= .ok (.tup []) (H (st s e))):
  ∀(n:Nat)(e:Exp),SizeOf.sizeOf e≤n→e.Lim→∀ s,ai pg 90 [e.av,g] (H s)= .ok (.tup []) (H ((eS e).foldl st s)):=by
 intro n
 induction n with
 | zero=>intro e he;cases e;simp at he
 | succ n ih=>
  intro e he hL s
  rw[C90]
  have h1:=hg s e
  have h2:=KN (H:=H) (st:=st) (g:=g) hL.len (fun x hx s=>ih x (by have:=vJ hx;omega) (hL.kid hx) s) e.args.length 0 (st s e) rfl (by omega) (by omega)
  simp[S90]
  rw[cy h1]
  simp at h2
  simp[h2]
  rw[oh]
  rfl
theorem m0{α β γ:Type}{f:β→Option γ}{k:α→β}{g:α→γ}(hf:∀ x,f (k x)=some (g x)):∀ l:List α,(l.map k).mapM f=some (l.map g)
 | []=>rfl
 | x:: l=>by
  rw[List.map_cons,List.mapM_cons,hf,m0 hf l]
  rfl
theorem ET(m:Mod):zt m.av=some (m.name,m.funcs.map fun f=>(f.name,f.av)):=by
 show ((m.funcs.map Fun.av).mapM wD).map (fun l=>(m.name,l))=_
 rw[m0 (f:=wD) (k:=Fun.av) (g:=fun f:Fun=>(f.name,f.av)) (fun f=>by cases f with | mk a b c r w e=>cases r;cases e;rfl)]
 rfl
theorem t88(p:List Mod)(h1:p.length≤1000000)(h2:∀ m∈p,m.funcs.length≤1000000)(h:Hp):ai pg 88 [mods p] h= .ok (.mp h.length) (h++[[.tup ((bT p).map (bV Fun.av))]]):=by
 rw[cS hOther (E:=qS) rfl]
 show (match (p.map Mod.av).mapM zt with | some l=>_ | none=>_)=_
 rw[m0 (g:=fun m:Mod=>(m.name,m.funcs.map fun f=>(f.name,f.av))) ET]
 simp only
 rw[if_pos ⟨by simpa using h1,fun m hm=>by
  obtain⟨m',hm',rfl⟩:=List.mem_map.1 hm
  simpa using h2 m' hm'⟩]
 have:(p.map fun m:Mod=>(m.name,m.funcs.map fun f=>(f.name,f.av)))=(p.map oq).map fun m=>(m.1,m.2.map fun x=>(x.1,x.2.av)):=by
  rw[List.map_map]
  apply List.map_congr_left
  intro m _
  simp[oq]
 rw[this]
 have:=qO Fun.av (p.map oq) [] []
 rw[List.map_nil] at this
 rw[this,List.map_map]
 rfl
theorem t85{V:Type}{f:V→AV}{h:Hp}{l:Nat}{es:List (aD×V)}(hl:h[l]? = some [.tup (es.map (bV f))])(hb:es.length≤1000000)(g:Nat)(hg:g=295∨g=186):
  ai pg 85 [.fn (.func g) [] [.ip [.mp l]],.fn (.func 89) [] []] h= .ok (aU (cY (es.map (·.1)))) h:=by
 rw[cS hOther (E:=lx [186,295] 89) rfl]
 have hk:(es.map (bV f)).mapM wP=some (es.map (·.1)):=m0 (f:=wP) (k:=bV f) (g:=fun x:aD×V=>x.1) (fun x=>rfl) es
 have hm:(eD [186,295] g&&Nat.beq 89 89)=true:=by rcases hg with rfl | rfl <;> rfl
 show (bif eD [186,295] g&&Nat.beq 89 89 then _ else _:R AV)=_
 rw[hm]
 show (match gq h (.mp l) with | some es=>_ | none=>_)=_
 simp only[gq,hl,hk,List.length_map,if_pos hb]
theorem Ih(f:Fun):nN T 76 f.av 5=some f.body.av:=by
 cases f with | mk a b c r w e=>cases r;cases e;rfl
theorem t179{p:List Mod}{h:Hp}{la:Nat}(ha:iu p h la)(f:aD)(hL:(ji p f).Lim)(hb:(found p f).length≤1000000):
  ai pg 179 [.mp la,aP f] h= .ok (aU (dh p f)) (h++[[.tup ((found p f).map (bV AV.bool))]]):=by
 rw[C179]
 have hla:la < h.length:=(List.getElem?_eq_some_iff.1 ha).1
 let H0:List (aD×Bool)→Hp:=fun o=>h++[[.tup (o.map (bV AV.bool))]]
 have h0:=t90 (H:=H0) (st:=ky p f) (g:=.fn (.func 247) [] [.ip [.str f.1,.str f.2],.ip [.mp la],.ip [.mp h.length]]) (fun o e=>by
  have:=t247 p f e (h++[[.tup (o.map (bV AV.bool))]]) la h.length o (by unfold iu;rw[List.getElem?_append_left hla];exact ha) (by simp)
  show ai pg 247 ([]++[e.av]++_) _=_
  simp only[List.nil_append,List.cons_append]
  rw[this]
  simp[H0]) _ (ji p f) (Nat.le_refl _) hL []
 have hlk:=jr (p:=p) (h:=h++[[.tup []]]) (l:=la) (by unfold iu;rw[List.getElem?_append_left hla];exact ha) f false
 have hs:=t85 (f:=AV.bool) (h:=h++[[.tup ((found p f).map (bV AV.bool))]]) (l:=h.length) (es:=found p f) (by simp) hb 295 (.inl rfl)
 have hk:ai pg 249 [.mp h.length]=M.pure (.fn (.func 295) [] [.ip [.mp h.length]]):=C249 _
 simp[S179]
 rw[cy (m:=dU) (h:=h) rfl]
 have hc1:aC 1 (.mp h.length)=M.pure (.agg [.mp h.length]):=bd rfl
 have hc2:∀ n,ab (.mp n)=[.mp n]:=fun _=>rfl
 simp only[hc1]
 simp[hk,hc2]
 rw[cy hlk]
 simp[Ih]
 refine (cy h0).trans ?_
 refine (cy hs).trans ?_
 rfl
end Go.Proofs.YtkkabinknmldeaaGreat
