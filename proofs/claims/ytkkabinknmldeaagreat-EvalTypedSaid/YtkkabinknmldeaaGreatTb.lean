/- What the functions of the seat compute, part 2: the texts of the claim, one behind the other. Conditions: bounds, as each theorem names them. -/
import Derived.Test.YtkkabinknmldeaaGreatTa
set_option linter.unusedSimpArgs false
set_option linter.unusedVariables false
namespace Go.Proofs.YtkkabinknmldeaaGreat
open Go Go.Av Go.RowKit
set_option maxRecDepth 100000
def KS(S:aC)(β:List bU)(y:List UInt8×Int×List AV)(z:dE):Prop:=z.1.data.toList=y.1∧z.2.1=y.2.1∧VR S β (.sl y.2.2) z.f
def lq(S:aC)(β:List bU):List (List UInt8×Int×List AV)→List dE→Prop
 | [],zs=>zs=[]
 | y:: l,zs=>∃ z r,zs=z:: r∧KS S β y z∧lq S β l r
theorem lq.length{S:aC}{β:List bU}:{l:List (List UInt8×Int×List AV)} →{zs:List dE} →lq S β l zs→zs.length=l.length
 | [],_,h=>by simp only[lq] at h;simp[h]
 | y:: l,zs,h=>by
  simp only[lq] at h
  obtain⟨z,r,rfl,_,h⟩:=h
  simp[lq.length h]
theorem B8{e:AV}{y:List UInt8×Int×List AV}(h:wR e=some y):e= .agg [.str y.1,.int .i64 y.2.1,.sl y.2.2]:=by
 unfold wR at h
 split at h
 ·cases h;rfl
 ·cases h
theorem Ly{S:aC}{β:List bU}{b sz:Nat}:(es:List AV)→(off:Nat)→(l:List (List UInt8×Int×List AV))→bZ S β es b off sz→gH es=some l→
  ∃ zs:List dE,lq S β l zs∧∀ j,j < zs.length→S b (off + j * 3)=some (.string (zs[j]?.getD default).1)∧S b (off + j * 3 + 1)=some (zs[j]?.getD default).k∧S b (off + j * 3 + 2)=some (zs[j]?.getD default).f
 | [],off,l,_,h=>by
  simp only[gH,Option.some.injEq] at h
  subst h
  exact⟨[],rfl,fun j hj=>by simp at hj⟩
 | e :: es,off,l,he,h=>by
  simp only[gH] at h
  cases h1:wR e with
  | none=>rw[h1] at h;cases h
  | some y=>
   cases h2:gH es with
   | none=>rw[h1,h2] at h;cases h
   | some l'=>
    rw[h1,h2] at h
    simp only[Option.some.injEq] at h
    subst h
    simp only[bZ] at he
    obtain⟨⟨v,hv,hs,hc⟩,he⟩:=he
    have:=B8 h1
    subst this
    simp only[VR,bj] at hv
    obtain⟨vs,rfl,_,_,rfl,⟨x,rfl,hx⟩,_,_,rfl,rfl,v3,_,rfl,hv3,rfl⟩:=hv
    obtain⟨p,cap,hp,hq1,hq2,hq3⟩:=hv3
    subst hp
    have hsz:sz=3:=by rw[← hs];rfl
    subst hsz
    obtain⟨zs,hR,hZ⟩:=Ly es (off + 3) l' he h2
    have c0:=hc 0 _ rfl
    have c1:=hc 1 _ rfl
    have c2:=hc 2 _ rfl
    refine⟨(x,y.2.1,(p,y.2.2.length,cap)):: zs,⟨_,_,rfl,⟨hx,rfl,by simp only[dE.f,VR];exact⟨p,cap,rfl,hq1,hq2,hq3⟩⟩,hR⟩,fun j hj=>?_⟩
    cases j with
    | zero=>exact⟨by simpa using c0,by simpa [dE.k] using c1,by simpa [dE.f] using c2⟩
    | succ j=>
     have:=hZ j (by simpa using hj)
     rw[show off + 3 + j * 3=off + (j + 1) * 3 by omega] at this
     simpa using this
theorem nK{S:aC}{β:List bU}{x:ByteArray}{name:List UInt8}(hx:x.data.toList=name):{l:List (List UInt8×Int×List AV)} →{zs:List dE} →lq S β l zs→
  (bQ (fun z=>z.1== name) l=none∧bQ (fun z:dE=>decide (z.1=x)) zs=none)∨∃ y z,bQ (fun z=>z.1== name) l=some y∧bQ (fun z:dE=>decide (z.1=x)) zs=some z∧KS S β y z
 | [],zs,h=>by simp only[lq] at h;subst h;exact .inl ⟨rfl,rfl⟩
 | y :: l,zs,h=>by
  simp only[lq] at h
  obtain⟨z,r,rfl,hz,h⟩:=h
  rcases nK hx h with ⟨h1,h2⟩ | ⟨y',z',h1,h2,h3⟩
  ·have he:(y.1== name)=decide (z.1=x):=by
    rw[← hz.1,← hx]
    by_cases h:z.1=x
    ·subst h;simp
    ·have h':z.1.data.toList≠x.data.toList:=fun h'=>h (ByteArray.ext (Array.ext' h'))
     rw[decide_eq_false h]
     exact beq_eq_false_iff_ne.2 h'
   simp only[bQ,h1,h2,he]
   cases decide (z.1=x) with
   | true=>exact .inr ⟨y,z,rfl,rfl,hz⟩
   | false=>exact .inl ⟨rfl,rfl⟩
  ·simp only[bQ,h1,h2]
   exact .inr ⟨_,_,rfl,rfl,h3⟩
theorem Kd (call:FuncId→List AV→M AV) (args:List AV) (h:Hp) (S:aC) (β:List bU) (w:World) (vs:List Value) (hr:ml call args h≠.fail) (hg:vX β h w) (hw:Wf S w) (hh:cU S β w h) (hv:bj S β args vs):
  Calls Tryz.prog 145 vs.toArray w (eM none S β h w (ml call args h)):=by
 unfold ml at hr ⊢
 split at hr
 ·rename_i es name
  cases hl:gH es with
  | none=>rw[hl] at hr;exact absurd rfl hr
  | some l=>
   rw[hl] at hr
   simp only at hr ⊢
   cases hc:decide (l.length≤1000000000) with
   | false=>rw[hc] at hr;exact absurd rfl hr
   | true=>
    simp only[cond_true]
    simp only[bj,VR] at hv
    obtain⟨_,_,rfl,⟨a,cap,rfl,hle,hnil,hq⟩,_,_,rfl,⟨x,rfl,hx⟩,rfl⟩:=hv
    have hlen:∀(es:List AV)(l:List (List UInt8×Int×List AV)),gH es=some l→l.length=es.length:=by
     intro es
     induction es with
     | nil=>intro l h;simp only[gH,Option.some.injEq] at h;subst h;rfl
     | cons e es ih=>
      intro l h
      simp only[gH] at h
      split at h
      ·rename_i h2
       cases h
       simp[ih _ h2]
      ·cases h
    have hll:=hlen es l hl
    have hz:∃ zs:List dE,lq S β l zs∧nj w.heap.size w (.slice a zs.length cap) zs:=by
     cases es with
     | nil=>
      simp only[gH,Option.some.injEq] at hl
      subst hl
      exact⟨[],rfl,.inl ⟨rfl,a,cap,rfl⟩⟩
     | cons e es=>
      cases a with
      | none=>have:=hnil rfl;subst this;simp at hle
      | some q=>
       obtain⟨hs,sz,hE⟩:=hq q rfl
       have hcap:0 < cap:=by simp at hle;omega
       obtain⟨b,off,sp⟩:=q
       have hs':sp=none:=hs hcap
       subst hs'
       obtain⟨zs,hR,hZ⟩:=Ly (e:: es) off l hE hl
       refine⟨zs,hR,.inr ⟨b,off,cap,rfl,?_,fun j hj=>?_⟩⟩
       ·have h0:=(hZ 0 (by rw[hR.length,hll];simp)).1
        exact hw.lt h0
       ·obtain⟨h1,h2,h3⟩:=hZ j hj
        exact⟨hw _ _ _ h1,hw _ _ _ h2,hw _ _ _ h3⟩
    obtain⟨zs,hR,hF⟩:=hz
    have hzl:=hR.length
    rw[show es.length=zs.length by omega]
    refine (callsIn_wide (n:=3)).1 ((Hy Fence.wide 3 trivial trivial trivial rfl (by omega) a zs.length cap x zs (by have:=of_decide_eq_true hc;omega) w hF).mono ?_)
    rintro e w' ⟨rfl,hb⟩
    refine jG hw hh hb HR ?_
    unfold eZ zE oM
    rw[← sP]
    rcases nK hx hR with ⟨h1,h2⟩ | ⟨y,z,h1,h2,h3⟩
    ·rw[h1,h2]
     simp only[VR,bj]
     exact⟨_,rfl,_,_,rfl,⟨_,rfl,_,_,rfl,rfl,_,_,rfl,⟨none,0,rfl,Nat.le_refl _,fun _=>rfl,fun q hq=>by cases hq⟩,rfl⟩,_,_,rfl,rfl,rfl⟩
    ·rw[h1,h2]
     obtain⟨_,h4,h5⟩:=h3
     simp only[VR,bj]
     exact⟨_,rfl,_,_,rfl,⟨_,rfl,_,_,rfl,by rw[← h4];rfl,_,_,rfl,h5,rfl⟩,_,_,rfl,rfl,rfl⟩
 ·exact absurd rfl hr
end Go.Proofs.YtkkabinknmldeaaGreat
