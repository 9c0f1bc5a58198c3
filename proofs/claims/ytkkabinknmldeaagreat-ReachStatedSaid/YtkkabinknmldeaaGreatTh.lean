/- What the functions of the seat compute, part 8: the texts of the claim, one behind the other. Conditions: bounds, as each theorem names them. -/
import Derived.Test.YtkkabinknmldeaaGreatTg
import Derived.Test.YtkkabinknmldeaaGreatTd
import Derived.Test.YtkkabinknmldeaaGreatTb
import Derived.Test.YtkkabinknmldeaaGreatLd
import Derived.KernelRfl
import Derived.Test.YtkkabinknmldeaaGreatRows
import Derived.Test.YtkkabinknmldeaaGreatTe
import Derived.Test.YtkkabinknmldeaaGreatTf
import Derived.Lib.SmallJoins
set_option linter.unusedSimpArgs false
set_option linter.unusedVariables false
namespace Go.Proofs.YtkkabinknmldeaaGreat
open Go Go.Av Go.Av.Ap
set_option maxRecDepth 100000
def NS(most:Int)(m:M AV):Prop:=∃ n,m=M.pure (.int .i64 n)∧1≤n∧n≤most + 1
def CJ(e:Exp):Prop:=∀ most depth:Int,0≤most→most≤1099511627776→depth≤1099511627776→NS most (ai pg 181 [e.av,.int .i64 most,.int .i64 depth])
theorem G0(e:Exp)(hL:e.Lim)(ih:∀ x∈e.args,CJ x)(most depth:Int)(h0:0≤most)(h1:most≤1099511627776)(h2:depth≤1099511627776)(h3:1≤depth):
  ∀(r:Nat)(n i:Int),e.args.length - i.toNat=r→0≤i→i≤e.args.length→1≤n→n≤most + 1→NS most (af (L181_0 (ai pg) af) [.int .i64 most,.int .i64 depth,.ip (ab e.av),.int .i64 n,.int .i64 i]):=by
 intro r
 induction r with
 | zero=>
  intro n i hr hi hb hn hm
  rw[FL181_0]
  simp only[L181_0]
  have h1:¬ (i < (e.args.length:Int)):=by omega
  simp[h1]
  exact⟨n,rfl,hn,hm⟩
 | succ r IH=>
  intro n i hr hi hb hn hm
  have hlen:=hL.len
  have h5:i < (e.args.length:Int):=by omega
  have hlt:i.toNat < e.args.length:=by omega
  rw[FL181_0]
  simp only[L181_0]
  by_cases hs:n≤most
  ·obtain⟨k,hk,hk1,hk2⟩:=ih e.args[i.toNat] (List.getElem_mem hlt) (most - n) (depth - 1) (by omega) (by omega) (by omega)
   have h4:=IH (n + k) (i + 1) (by omega) (by omega) (by omega) (by omega) (by omega)
   simp (disch:=omega) [h5,hs,pB,getElem!_pos e.args i.toNat hlt,br,hk]
   simpa using h4
  ·simp[h5,hs]
   exact⟨n,rfl,hn,hm⟩
theorem t181:∀(N:Nat)(e:Exp),SizeOf.sizeOf e≤N→e.Lim→CJ e:=by
 intro N
 induction N with
 | zero=>intro e he;cases e;simp at he
 | succ N ih=>
  intro e he hL most depth h0 h1 h2
  rw[C181]
  have h4:1≤depth→_:=fun h3=>G0 e hL (fun x hx=>ih x (by have:=vJ hx;omega) (hL.kid hx)) most depth h0 h1 h2 h3 e.args.length 1 0 rfl (by omega) (by omega) (by omega) (by omega)
  simp[S181]
  by_cases hc:depth < 1∨12 < (e.names.length:Int)
  ·rw[if_pos hc,br (by omega) (by omega),kB]
   exact⟨_,rfl,by omega,by omega⟩
  ·rw[if_neg hc]
   obtain⟨n,hn,b⟩:=h4 (by omega)
   simp at hn
   rw[hn,kB]
   exact⟨n,rfl,b⟩
def zV(e:Ty):Prop:=∀ most depth:Int,0≤most→most≤1099511627776→depth≤1099511627776→NS most (ai pg 80 [e.av,.int .i64 most,.int .i64 depth])
theorem Eo{e:Ty}{x:cr}(h:x∈e.fields):SizeOf.sizeOf x.2 < SizeOf.sizeOf e:=by
 cases e with
 | mk k fs=>
  have h1:=List.sizeOf_lt_of_mem h
  have h2:SizeOf.sizeOf x.2 < SizeOf.sizeOf x:=by cases x;simp;omega
  have h3:SizeOf.sizeOf x < SizeOf.sizeOf fs:=h1
  simp only[Ty.mk.sizeOf_spec]
  show SizeOf.sizeOf x.2 < 1 + SizeOf.sizeOf k + SizeOf.sizeOf fs
  omega
theorem KJ(e:Ty)(hL:e.Lim)(ih:∀ x∈e.fields,zV x.2)(most depth:Int)(h0:0≤most)(h1:most≤1099511627776)(h2:depth≤1099511627776)(h3:1≤depth):
  ∀(r:Nat)(n i:Int),e.fields.length - i.toNat=r→0≤i→i≤e.fields.length→1≤n→n≤most + 1→NS most (af (L80_0 (ai pg) af) [.int .i64 most,.int .i64 depth,.ip (ab e.av),.int .i64 n,.int .i64 i]):=by
 intro r
 induction r with
 | zero=>
  intro n i hr hi hb hn hm
  rw[FL80_0]
  simp only[L80_0]
  have h1:¬ (i < (e.fields.length:Int)):=by omega
  simp[h1]
  exact⟨n,rfl,hn,hm⟩
 | succ r IH=>
  intro n i hr hi hb hn hm
  have hlen:=hL.len
  have h5:i < (e.fields.length:Int):=by omega
  have hlt:i.toNat < e.fields.length:=by omega
  rw[FL80_0]
  simp only[L80_0]
  by_cases hs:n≤most
  ·obtain⟨k,hk,hk1,hk2⟩:=ih e.fields[i.toNat] (List.getElem_mem hlt) (most - n) (depth - 1) (by omega) (by omega) (by omega)
   have h4:=IH (n + k) (i + 1) (by omega) (by omega) (by omega) (by omega) (by omega)
   simp (disch:=omega) [h5,hs,pz,getElem!_pos e.fields i.toNat hlt,br,hk]
   simpa using h4
  ·simp[h5,hs]
   exact⟨n,rfl,hn,hm⟩
theorem t80:∀(N:Nat)(e:Ty),SizeOf.sizeOf e≤N→e.Lim→zV e:=by
 intro N
 induction N with
 | zero=>intro e he;cases e;simp at he
 | succ N ih=>
  intro e he hL most depth h0 h1 h2
  rw[C80]
  have h4:1≤depth→_:=fun h3=>KJ e hL (fun x hx=>ih x.2 (by have:=Eo hx;omega) (hL.kid hx)) most depth h0 h1 h2 h3 e.fields.length 1 0 rfl (by omega) (by omega) (by omega) (by omega)
  simp[S80]
  by_cases hc:depth < 1
  ·rw[if_pos hc,br (by omega) (by omega),kB]
   exact⟨_,rfl,by omega,by omega⟩
  ·rw[if_neg hc]
   obtain⟨n,hn,b⟩:=h4 (by omega)
   simp at hn
   rw[hn,kB]
   exact⟨n,rfl,b⟩
def BB(P:Prop)(m:M AV):Prop:=∃ b,m=M.pure (.bool b)∧(b=true→P)
theorem BB.no{P:Prop}:BB P (M.pure (.bool false)):=⟨false,rfl,fun h=>by cases h⟩
theorem KH(l:List Exp)(hl:l.length≤140737488355328)(hL:∀ e∈l,e.Lim):∀(r:Nat)(i:Int),l.length - i.toNat=r→0≤i→i≤l.length→BB True (af (L78_0 (ai pg) af) [cG l,.int .i64 i]):=by
 intro r
 induction r with
 | zero=>
  intro i hr hi hb
  rw[FL78_0]
  simp only[L78_0]
  have h1:¬ (i < (l.length:Int)):=by omega
  simp[h1]
  exact⟨_,rfl,fun _=>trivial⟩
 | succ r IH=>
  intro i hr hi hb
  have h5:i < (l.length:Int):=by omega
  have hlt:i.toNat < l.length:=by omega
  rw[FL78_0]
  simp only[L78_0]
  by_cases hs:i < 9
  ·obtain⟨k,hk,hk1,hk2⟩:=t181 _ l[i.toNat] (Nat.le_refl _) (hL _ (List.getElem_mem hlt)) 50 16 (by omega) (by omega) (by omega)
   have h4:=IH (i + 1) (by omega) (by omega) (by omega)
   simp (disch:=omega) [h5,hs,pB,getElem!_pos l i.toNat hlt,br,hk]
   by_cases hg:50 < k
   ·rw[if_pos hg];exact .no
   ·rw[if_neg hg];exact h4
  ·simp[h5,hs]
   exact⟨_,rfl,fun _=>trivial⟩
theorem t78(l:List Exp)(hl:l.length≤140737488355328)(hL:∀ e∈l,e.Lim):∃ b,ai pg 78 [cG l]=M.pure (.bool b):=by
 rw[C78]
 obtain⟨b,hb,_⟩:=KH l hl hL l.length 0 rfl (by omega) (by omega)
 refine⟨b,?_⟩
 simp[S78,hb]
theorem KI(l:List cr)(hl:l.length≤140737488355328)(hL:∀ e∈l,e.2.Lim):∀(r:Nat)(i:Int),l.length - i.toNat=r→0≤i→i≤l.length→BB True (af (L79_0 (ai pg) af) [aH l,.int .i64 i]):=by
 intro r
 induction r with
 | zero=>
  intro i hr hi hb
  rw[FL79_0]
  simp only[L79_0]
  have h1:¬ (i < (l.length:Int)):=by omega
  simp[h1]
  exact⟨_,rfl,fun _=>trivial⟩
 | succ r IH=>
  intro i hr hi hb
  have h5:i < (l.length:Int):=by omega
  have hlt:i.toNat < l.length:=by omega
  rw[FL79_0]
  simp only[L79_0]
  by_cases hs:i < 9
  ·obtain⟨k,hk,hk1,hk2⟩:=t80 _ l[i.toNat].2 (Nat.le_refl _) (hL _ (List.getElem_mem hlt)) 30 6 (by omega) (by omega) (by omega)
   have h4:=IH (i + 1) (by omega) (by omega) (by omega)
   simp (disch:=omega) [h5,hs,pz,getElem!_pos l i.toNat hlt,br,hk]
   by_cases hg:30 < k
   ·rw[if_pos hg];exact .no
   ·rw[if_neg hg];exact h4
  ·simp[h5,hs]
   exact⟨_,rfl,fun _=>trivial⟩
theorem t79(l:List cr)(hl:l.length≤140737488355328)(hL:∀ e∈l,e.2.Lim):∃ b,ai pg 79 [aH l]=M.pure (.bool b):=by
 rw[C79]
 obtain⟨b,hb,_⟩:=KI l hl hL l.length 0 rfl (by omega) (by omega)
 refine⟨b,?_⟩
 simp[S79,hb]
theorem Ko(K:List AV→M AV){Q:Prop}(p:List Mod)(m:Mod)(M0:m.Lim)(i:Int)(hi0:0≤i)(hi1:i≤9)(hK:BB Q (K [mods p,.int .i64 (i + 1)])):∀(r:Nat)(j:Int),m.funcs.length - j.toNat=r→0≤j→j≤m.funcs.length→
  BB (m.funcs.length≤6∧Q) (af (L22_0 (ai pg) af K) [mods p,.int .i64 i,.ip (ab m.av),.int .i64 j]):=by
 obtain⟨bk,hk1,hk2⟩:=hK
 obtain⟨b1,h1⟩:=t79 m.vars M0.vars M0.vty
 obtain⟨b2,h2⟩:=t78 m.init M0.init M0.ies
 obtain⟨b3,h3⟩:=t79 m.old M0.old M0.oty
 obtain⟨b4,h4⟩:=t78 m.forward M0.forward M0.fes
 obtain⟨b5,h5⟩:=t78 m.back M0.back M0.bes
 have hfl:=M0.funcs
 intro r
 induction r with
 | zero=>
  intro j hr hj hb
  rw[FL22_0]
  simp only[L22_0]
  have hjl:¬ (j < (m.funcs.length:Int)):=by omega
  simp (disch:=omega) [hjl,h1,h2,h3,h4,h5,br,hk1]
  refine⟨_,rfl,fun h=>?_⟩
  simp at h
  exact⟨by omega,hk2 h.2⟩
 | succ r IH=>
  intro j hr hj hb
  have hjl:j < (m.funcs.length:Int):=by omega
  have hlt:j.toNat < m.funcs.length:=by omega
  rw[FL22_0]
  simp only[L22_0]
  by_cases hs:j < 7
  ·have hf:=M0.fns _ (List.getElem_mem hlt)
   obtain⟨b6,h6⟩:=t78 [m.funcs[j.toNat].body] (by simp) (fun e he=>by rw[List.mem_singleton.1 he];exact hf.body)
   obtain⟨b7,h7⟩:=t79 m.funcs[j.toNat].params hf.params hf.pty
   obtain⟨k,h8,_,_⟩:=t80 _ m.funcs[j.toNat].result (Nat.le_refl _) hf.result 30 6 (by omega) (by omega) (by omega)
   have hB:∀ e:Exp,aB T 24 1 [(0,e.av)]=some (cG [e]):=fun e=>by cases e;rfl
   have h9:=IH (j + 1) (by omega) (by omega) (by omega)
   simp (disch:=omega) [hjl,hs,vB,getElem!_pos m.funcs j.toNat hlt,hB,h6,h7,h8,br]
   split
   ·exact .no
   ·simpa using h9
  ·simp (disch:=omega) [hjl,hs,h1,h2,h3,h4,h5,br,hk1]
   refine⟨_,rfl,fun h=>?_⟩
   simp at h
   exact⟨by omega,hk2 h.2⟩
theorem KB(p:List Mod)(hp:p.length≤140737488355328)(hM:∀ m∈p,m.Lim):∀(r:Nat)(i:Int),p.length - i.toNat=r→0≤i→i≤p.length→BB (p.length≤4∧∀ m∈p.drop i.toNat,m.funcs.length≤6) (af (L22_1 (ai pg) af) [mods p,.int .i64 i]):=by
 intro r
 induction r with
 | zero=>
  intro i hr hi hb
  rw[FL22_1]
  simp only[L22_1]
  have h1:¬ (i < (p.length:Int)):=by omega
  simp[h1]
  refine⟨_,rfl,fun h=>⟨by simp at h;omega,fun m hm=>?_⟩⟩
  rw[List.drop_eq_nil_of_le (by omega)] at hm
  cases hm
 | succ r IH=>
  intro i hr hi hb
  have h1:i < (p.length:Int):=by omega
  have hlt:i.toNat < p.length:=by omega
  rw[FL22_1]
  simp only[L22_1]
  by_cases hs:i < 5
  ·have h4:=IH (i + 1) (by omega) (by omega) (by omega)
   have h5:=Ko (af (L22_1 (ai pg) af)) p p[i.toNat] (hM _ (List.getElem_mem hlt)) i hi (by omega) h4 p[i.toNat].funcs.length 0 rfl (by omega) (by omega)
   simp (disch:=omega) [h1,hs,tX,getElem!_pos p i.toNat hlt]
   obtain⟨b,e,hb⟩:=h5
   simp at e
   refine⟨b,e,fun h=>?_⟩
   obtain⟨q1,q2,q3⟩:=hb h
   refine⟨q2,fun m hm=>?_⟩
   rw[List.drop_eq_getElem_cons hlt] at hm
   rcases List.mem_cons.1 hm with rfl | hm
   ·exact q1
   ·exact q3 m (by rw[show (i + 1).toNat=i.toNat + 1 by omega];exact hm)
  ·simp[h1,hs]
   refine⟨_,rfl,fun h=>?_⟩
   simp at h
   omega
theorem t22(p:List Mod)(hp:p.length≤140737488355328)(hM:∀ m∈p,m.Lim):BB (p.length≤4∧∀ m∈p,m.funcs.length≤6) (ai pg 22 [mods p]):=by
 rw[C22]
 obtain⟨b,h1,h2⟩:=KB p hp hM p.length 0 rfl (by omega) (by omega)
 refine⟨b,?_,fun h=>h2 h⟩
 simp[S22,h1]
structure Sm (p:List Mod):Prop where
 len:p.length≤1000000
 funcs:∀ m∈p,m.funcs.length≤1000000
 idx:(bT p).length≤1000000
 body:∀ r,(ji p r).Lim
theorem Sm.calls{p:List Mod}(S:Sm p)(f:aD):(dh p f).length≤1000000:=by
 have:=ek (l:=dh p f) (m:=(bT p).map (·.1)) (kj p f) (fun x hx=>(kz p x).2 (vT hx))
 have:=S.idx
 simp at *
 omega
theorem Sm.found{p:List Mod}(S:Sm p)(f:aD):(found p f).length≤1000000:=by
 have h1:=S.calls f
 have h2:(dh p f).length=((Ap.found p f).map (·.1)).length:=(dW _).length_eq
 simp at h2
 omega
theorem set_mid(h:Hp)(x y:List AV)(J:Hp):(h++x:: J).set h.length y=h++y:: J:=by simp[List.set_append]
theorem mZ{h:Hp}{l:Nat}{es:List (aD×aD)}(hl:h[l]? = some [.tup (es.map (bV aP))])(k:aD):cL T 158 (.mp l) (aP k) true h= .ok (.tup [aP ((eu es k).getD ([],[])),.bool (eu es k).isSome]) h:=by
 obtain⟨ei,h1,h2⟩:=FO
 rw[oc xd h1 hl,h2]
 cases eu es k <;> rfl
theorem Cb{h:Hp}{l:Nat}{es:List (aD×aD)}(hl:h[l]? = some [.tup (es.map (bV aP))])(k:aD):cL T 158 (.mp l) (aP k) false h= .ok (aP ((eu es k).getD ([],[]))) h:=by
 obtain⟨ei,h1,h2⟩:=FO
 rw[oc xd h1 hl,h2]
 cases eu es k <;> rfl
theorem nn(D:List (aD×List aD)):(D.map kL).map (·.1)=D.map (·.1):=by rw[List.map_map];rfl
theorem mP(D:List (aD×List aD))(r:aD):(eu (D.map kL) r).isSome=decide (r∈D.map (·.1)):=by
 rw[← nn]
 cases h:eu (D.map kL) r with
 | none=>rw[decide_eq_false (jl.1 h)];rfl
 | some v=>rw[decide_eq_true (List.mem_map.2 ⟨_,wF h,rfl⟩)];rfl
theorem E6{V:Type}(l:List (aD×V))(k:aD)(v:V)(h:k ∉ l.map (·.1)):gB l k v=l++[(k,v)]:=by
 induction l with
 | nil=>rfl
 | cons x l ih=>
  simp only[List.map_cons,List.mem_cons,not_or] at h
  simp only[gB]
  rw[if_neg (fun e=>h.1 e.symm),ih h.2]
  rfl
theorem GF(x:aD)(l:List aD):BD T 79 (aU (x:: l)) (some (.int .i64 1))=some (aU l):=by
 have:BD T 79 (aU (x:: l)) (some (.int .i64 1))=iN T 79 (.sl ((x:: l).map aP)) (some (.int .i64 1)) none none:=rfl
 rw[this,Ct (e:=65) rfl rfl rfl ((x:: l).map aP) (Ck _) (n:=1) (by decide) (by simp;omega)]
 rfl
theorem PQ(y:aD)(l:List aD):ak T 79 (aU (y:: l)) (.int .i64 0)=some (.ip (ab (aP y))):=by
 rw[FZ (by omega) (by simp <;> omega)]
 rfl
theorem jv(h:Hp)(D:List (aD×List aD))(J:Hp):(h++eT D:: J)[h.length]? = some [.tup ((D.map kL).map (bV aP))]:=by simp[eT]
theorem Fo(h:Hp)(D:List (aD×List aD))(J:Hp)(c:List aD)(r y:aD)(hc:c.getLast? = some y)(hr:r ∉ D.map (·.1)):putH T 158 (.mp h.length) (aP r) (aP y) (h++eT D:: J)= .ok (.tup []) (h++eT (D++[(r,c++[r])]):: J):=by
 rw[rI xd (jv h D J),set_mid,E6 _ _ _ (by rw[nn];exact hr)]
 simp only[eT,List.map_append,List.map_cons,List.map_nil,tJ c r y hc]
theorem KM(la:Nat)(h:Hp)(J:Hp)(l:List aD)(y:aD)(c:List aD)(hc:c.getLast? = some y)(k:Nat)(K:List AV→M AV):∀(n:Nat)(i:Int)(D:List (aD×List aD)),l.length - i.toNat=n→0≤i→i≤l.length→k≤D.length→D.length + n≤4000000→l.length≤4000000→
  af (L87_0 (ai pg) af K) [.mp la,.mp h.length,aU (y:: (D.map (·.1)).drop k),aU l,.int .i64 l.length,.int .i64 i] (h++eT D:: J)=
   K [.mp la,.mp h.length,aU ((((l.drop i.toNat).foldl (rV c) D).map (·.1)).drop k)] (h++eT ((l.drop i.toNat).foldl (rV c) D):: J):=by
 intro n
 induction n with
 | zero=>
  intro i D hn hi hb _ _ _
  rw[FL87_0]
  simp only[L87_0]
  have h1:¬ (i < (l.length:Int)):=by omega
  have h2:l.drop i.toNat=[]:=List.drop_eq_nil_of_le (by omega)
  simp[h1,h2,GF]
 | succ n IH=>
  intro i D hn hi hb hk hD hll
  have h1:i < (l.length:Int):=by omega
  have hlt:i.toNat < l.length:=by omega
  have h3:=mZ (jv h D J) l[i.toNat]
  rw[mP] at h3
  have hcm:∀ r,aC 2 (aP r)=M.pure (aP r):=fun r=>by rw[bd (gz _),eF,iD]
  rw[FL87_0]
  simp only[L87_0]
  simp (disch:=omega) [h1,br,FZ,getElem!_pos l i.toNat hlt,hcm]
  rw[cy h3]
  have hB:∀ x:aD,aB T 79 1 [(0,aP x)]=some (aU [x]):=fun x=>rfl
  by_cases hr:l[i.toNat]∈D.map (·.1)
  ·have h4:=IH (i + 1) D (by omega) (by omega) (by omega) hk (by omega) hll
   rw[show (i + 1).toNat=i.toNat + 1 by omega] at h4
   have h5:rV c D l[i.toNat]=D:=if_pos hr
   simp only[hr,decide_true]
   simp[hcm]
   rw[h4,List.drop_eq_getElem_cons hlt,List.foldl_cons,h5]
  ·have h4:=IH (i + 1) (D++[(l[i.toNat],c++[l[i.toNat]])]) (by omega) (by omega) (by omega) (by simp;omega) (by simp;omega) hll
   rw[show (i + 1).toNat=i.toNat + 1 by omega] at h4
   have h5:rV c D l[i.toNat]=D++[(l[i.toNat],c++[l[i.toNat]])]:=if_neg hr
   have h6:=Fo h D J c l[i.toNat] y hc hr
   have h7:((D++[(l[i.toNat],c++[l[i.toNat]])]).map (·.1)).drop k=(D.map (·.1)).drop k++[l[i.toNat]]:=by
    rw[List.map_append,List.drop_append_of_le_length (by simpa using hk)];rfl
   rw[h7] at h4
   simp only[hr,decide_false]
   simp[hcm]
   simp[PQ,hB]
   rw[cy h6]
   have h8:dL T 79 (aU (y:: (D.map (·.1)).drop k)) (aU [l[i.toNat]])=some (aU (y:: ((D.map (·.1)).drop k++[l[i.toNat]]))):=by
    rw[Oe (by simp;omega)];rfl
   simp only[h8]
   simp
   rw[h4,List.drop_eq_getElem_cons hlt,List.foldl_cons,h5]
theorem G8{p:List Mod}(S:Sm p){f:aD}(la:Nat)(h:Hp)(ha:iu p h la):∀(n k:Nat)(D:List (aD×List aD))(J:Hp),DInv p f k D→(bT p).length≤k + n→k≤D.length→
  ∃ J':Hp,J'.length + k=J.length + (mD (dh p) n k D).length∧af (L87_1 (ai pg) af) [.mp la,.mp h.length,aU ((D.map (·.1)).drop k)] (h++eT D:: J)= .ok (.mp h.length) (h++eT (mD (dh p) n k D):: J'):=by
 have hla:la < h.length:=(List.getElem?_eq_some_iff.1 ha).1
 intro n
 induction n with
 | zero=>
  intro k D J I hn hk
  have:=I.len
  have h1:(D.map (·.1)).drop k=[]:=List.drop_eq_nil_of_le (by simp;omega)
  refine⟨J,by simp only[mD];omega,?_⟩
  rw[h1,FL87_1]
  simp only[L87_1]
  simp[aU]
  rfl
 | succ n IH=>
  intro k D J I hn hk
  cases hD:D[k]? with
  | none=>
   have h0:=List.getElem?_eq_none_iff.1 hD
   have h1:(D.map (·.1)).drop k=[]:=List.drop_eq_nil_of_le (by simp;omega)
   refine⟨J,by simp only[mD,hD];omega,?_⟩
   rw[h1,FL87_1]
   simp only[L87_1,mD,hD]
   simp[aU]
   rfl
  | some e=>
   obtain⟨x,c⟩:=e
   obtain⟨hlt,he⟩:=List.getElem?_eq_some_iff.1 hD
   have hI:=S.idx
   have hIl:=I.len
   have hcl:=S.calls x
   have h1:(D.map (·.1)).drop k=x:: (D.map (·.1)).drop (k + 1):=by
    rw[List.drop_eq_getElem_cons (by simpa using hlt)]
    simp[he]
   have hc:=t179 (p:=p) (h:=h++eT D:: J) (la:=la) (by unfold iu;rw[List.getElem?_append_left hla];exact ha) x (S.body x) (S.found x)
   have hlast:c.getLast? = some x:=I.last (List.mem_of_getElem? hD)
   have h2:=KM la h (J++[[.tup ((found p x).map (bV AV.bool))]]) (dh p x) x c hlast (k + 1) (af (L87_1 (ai pg) af)) (dh p x).length 0 D rfl (by omega) (by omega) (by omega) (by omega) (by omega)
   obtain⟨J',hJ,h3⟩:=IH (k + 1) (D++xg (dh p) D x c) (J++[[.tup ((found p x).map (bV AV.bool))]]) (I.step hD) (by omega) (by simp;omega)
   refine⟨J',by simp only[mD,hD];simp at hJ;omega,?_⟩
   have hdr:(dh p x).drop (0:Int).toNat=dh p x:=rfl
   rw[hdr,He _ _ _ _ (kj p x),h3] at h2
   rw[h1,FL87_1]
   simp only[L87_1,mD,hD]
   have hpos:(0:Int) < ((D.map (·.1)).drop (k + 1)).length + 1:=by omega
   simp[PQ]
   rw[cy hc]
   have hj:(h++eT D:: J)++[[.tup ((found p x).map (bV AV.bool))]]=h++eT D:: (J++[[.tup ((found p x).map (bV AV.bool))]]):=by simp
   rw[hj]
   have hlen:aJ T 79 (aU (dh p x))=some (.int .i64 (dh p x).length):=by simp[aU]
   simp only[hlen]
   simp
   exact h2
theorem t87{p:List Mod}(S:Sm p){h:Hp}{la:Nat}(ha:iu p h la)(f:aD):
  ∃ J:Hp,J.length=(bq p f).length∧ai pg 87 [.mp la,aP f] h=if (findR p f).isSome=true then .ok (.mp h.length) (h++eT (bq p f):: J) else .ok .nilm h:=by
 have hla:la < h.length:=(List.getElem?_eq_some_iff.1 ha).1
 have h1:=jr ha f true
 by_cases hf:(findR p f).isSome=true
 ·obtain⟨J,hJ,h2⟩:=G8 S la h ha ((bT p).length + 1) 0 [(f,[f])] [] (DInv.zero hf) (by omega) (by simp)
  have h3:bq p f=mD (dh p) ((bT p).length + 1) 0 [(f,[f])]:=if_pos hf
  refine⟨J,by rw[h3];simpa using hJ,?_⟩
  rw[if_pos hf]
  rw[h3,C87]
  simp[S87]
  rw[cy h1]
  simp[hf]
  rw[cy (m:=dU) (h:=h) rfl]
  have h4:=rI (f:=aP) (h:=h++[[.tup []]]) (l:=h.length) (es:=[]) xd (by simp) f f
  rw[cy h4]
  have hB:aB T 79 1 [(0,aP f)]=some (aU [f]):=rfl
  have h5:(h++[[AV.tup []]]).set h.length [.tup ((gB [] f f).map (bV aP))]=h++eT [(f,[f])]:: []:=by
   rw[set_mid]
   rfl
  simp only[hB]
  rw[h5]
  exact h2
 ·refine⟨[],by unfold bq;rw[if_neg hf];rfl,?_⟩
  rw[if_neg hf]
  have hf':(findR p f).isSome=false:=by simpa using hf
  rw[C87]
  simp[S87]
  rw[cy h1]
  simp[hf']
  rfl
theorem ED{m:M AV}{a:AV}{h:Hp}(hm:m []= .ok a h)(hc:Go.Av.Ap.Clean a):aF m=M.pure a:=by
 funext h0
 simp only[aF,hm,hc.frz]
 rfl
theorem lR(l:List aD):Go.Av.Ap.Clean (aU l):=fun g=>Ai g l
theorem BV{p:List Mod}(S:Sm p):ai pg 88 [mods p] []= .ok (.mp 0) [[.tup ((bT p).map (bV Fun.av))]]:=t88 p S.len S.funcs []
theorem qU(p:List Mod):iu p [[.tup ((bT p).map (bV Fun.av))]] 0:=rfl
theorem t76{p:List Mod}(S:Sm p)(f:aD):ai pg 76 [mods p,aP f]=M.pure (aU (dh p f)):=by
 rw[C76]
 have h1:=jr (qU p) f true
 have h2:=t179 (qU p) f (S.body f) (S.found f)
 have h3:∃ h',S76 (ai pg) af (mods p) (aP f) []= .ok (aU (dh p f)) h':=by
  simp only[S76]
  rw[cy (BV S)]
  simp
  rw[cy h1]
  cases hf:findR p f with
  | none=>
   simp[hf]
   rw[yC hf]
   exact⟨_,rfl⟩
  | some g=>
   simp[hf]
   rw[cy h2]
   exact⟨_,rfl⟩
 obtain⟨h',h3⟩:=h3
 simp only[gU,km]
 exact ED h3 (lR _)
theorem oz{p:List Mod}(S:Sm p)(f:aD):(bq p f).length≤1000000:=by
 by_cases h:(findR p f).isSome=true
 ·have:=(ow h).len;have:=S.idx;omega
 ·unfold bq;rw[if_neg h];simp
theorem t25{p:List Mod}(S:Sm p)(f:aD):ai pg 25 [mods p,aP f]=M.pure (aU (lO p f)):=by
 rw[C25]
 have h1:=jr (qU p) f true
 obtain⟨J,_,h2⟩:=t87 S (qU p) f
 have hk:∀ x,ai pg 86 [.mp x]=M.pure (.fn (.func 186) [] [.ip [.mp x]]):=fun x=>C86 _
 have hk0:ai pg 86 [.nilm]=M.pure (.fn (.func 186) [] [.ip [.nilm]]):=C86 _
 have h3:∃ h',S25 (ai pg) af (mods p) (aP f) []= .ok (aU (lO p f)) h':=by
  simp only[S25]
  simp
  rw[cy (BV S)]
  by_cases hf:(findR p f).isSome=true
  ·rw[if_pos hf] at h2
   rw[cy h2]
   have hs:=t85 (f:=aP) (jv [[.tup ((bT p).map (bV Fun.av))]] (bq p f) J) (by simpa using oz S f) 186 (.inr rfl)
   rw[nn] at hs
   simp[hk]
   exact⟨_,cy hs⟩
  ·rw[if_neg hf] at h2
   rw[cy h2]
   simp[hk0]
   have hs:ai pg 85 [.fn (.func 186) [] [.ip [.nilm]],.fn (.func 89) [] []] [[.tup ((bT p).map (bV Fun.av))]]= .ok (aU []) [[.tup ((bT p).map (bV Fun.av))]]:=by
    rw[cS hOther (E:=lx [186,295] 89) rfl]
    rfl
   have he:lO p f=[]:=by unfold lO bq;rw[if_neg hf];rfl
   rw[he]
   exact⟨_,cy hs⟩
 obtain⟨h',h3⟩:=h3
 simp only[gU,km]
 exact ED h3 (lR _)
theorem Fj{l:Hp}{n:Nat}(h1:l.length=n)(h2:∀ x∈l,x=[]):l=List.replicate n []:=List.eq_replicate_iff.2 ⟨h1,h2⟩
theorem t91(e:Exp)(l:Nat)(h:Hp)(s:BitVec 64)(hl:h[l]? = some [sA s]):ai pg 91 [e.av,.hp l 0] h= .ok (.tup []) (h.set l [sA (Np s e)]):=by
 rw[C91]
 have h1:bA T 3 (.hp l 0) h= .ok (sA s) h:=jJ rfl rfl hl rfl
 have h2:∀ v,bK T 3 (.hp l 0) (sA v) h= .ok (.tup []) (h.set l [sA v]):=fun v=>nz (T:=T) (t:=3) (h:=h) (l:=l) (k:=0) (cs:=[sA s]) (v:=sA v) rfl hl rfl (by exact Nat.le_refl 1) (by exact Nat.one_pos)
 simp[S91]
 unfold Np D6
 by_cases h16:e.op=16
 ·simp only[h16,if_true]
  rw[cy h1]
  simp[K7,Ny]
  rw[cy (h2 _)]
  rfl
 ·simp only[h16,if_false]
  have:h.set l [sA (s ||| 0#64)]=h:=by
   obtain⟨h3,h4⟩:=List.getElem?_eq_some_iff.1 hl
   simp
   rw[← h4]
   simp
  rw[this]
  rfl
def sw(D:List (aD×List aD))(q:Nat):aD:=((D.map (·.1))[q]?).getD ([],[])
theorem KC{p:List Mod}(S:Sm p)(D:List (aD×List aD))(J:Hp):∀(n:Nat)(qs:List Nat)(s:BitVec 64)(c:AV),qs.length=n→qs.Nodup→(∀ q∈qs,q < D.length)→
  af (L26_0 (ai pg) af) [.mp 0,.hp 1 0,.it (J.length + 3)] ([.tup ((bT p).map (bV Fun.av))]:: [sA s]:: eT D:: (J++[[.tup [],.mp 2,.int .i64 D.length,fh qs,c]]))=
   .ok (sA (Hk (fun q=>yQ p (sw D q)) s qs)) (List.replicate (J.length + 4) []):=by
 intro n
 induction n with
 | zero=>
  intro qs s c hn _ _
  obtain rfl:qs=[]:=List.length_eq_zero_iff.1 hn
  rw[FL26_0]
  simp only[L26_0]
  simp only[bu,bD]
  rw[AJ (l:=J.length + 3) (m:=2) (n:=D.length) (c:=c) (es:=(D.map kL).map (bV aP)) (by simp) rfl (by simp)]
  have h1:bA T 3 (.hp 1 0) (([.tup ((bT p).map (bV Fun.av))]:: [sA s]:: eT D:: (J++[[.tup [],.mp 2,.int .i64 D.length,fh [],c]])).set (J.length + 3) [])= .ok (sA s) _:=jJ rfl rfl rfl rfl
  rw[cy h1]
  simp[tm,Hk]
  exact⟨rfl,Fj (by simp) (fun x hx=>by simp at hx;rcases hx with h | ⟨_,h⟩ | h <;> exact h)⟩
 | succ n IH=>
  intro qs s c hn hnd hlt
  rw[FL26_0]
  simp only[L26_0]
  simp only[bu,bD]
  apply xn (m:=2) (n:=D.length) (qs:=qs) (c:=c) (es:=(D.map kL).map (bV aP))
  ·simp
  ·rfl
  ·simp
  ·intro e;rw[e] at hn;cases hn
  intro q hq
  have hset:([.tup ((bT p).map (bV Fun.av))]:: [sA s]:: eT D:: (J++[[.tup [],.mp 2,.int .i64 D.length,fh qs,c]])).set (J.length + 3) [.tup [],.mp 2,.int .i64 D.length,fh (qs.filter fun r=>!(Nat.beq r q)),.int .i64 (q:Nat)]=
   [.tup ((bT p).map (bV Fun.av))]:: [sA s]:: eT D:: (J++[[.tup [],.mp 2,.int .i64 D.length,fh (qs.filter fun r=>!(Nat.beq r q)),.int .i64 (q:Nat)]]):=by simp
  rw[hset]
  have hqD:=hlt q hq
  have hent:((D.map kL).map (bV aP))[q]? = some (.tup [aP (sw D q),aP (kL D[q]).2]):=by
   rw[List.getElem?_map,List.getElem?_map,List.getElem?_eq_getElem hqD]
   simp only[Option.map_some,sw,List.getElem?_map,List.getElem?_eq_getElem hqD,Option.getD_some]
   rfl
  have h1:=we (l:=J.length + 3) (m:=2) (q:=q) (n:=D.length) (x:=fh (qs.filter fun r=>!(Nat.beq r q))) (k:=aP (sw D q)) (v:=aP (kL D[q]).2) (es:=(D.map kL).map (bV aP))
   (h:=[.tup ((bT p).map (bV Fun.av))]:: [sA s]:: eT D:: (J++[[.tup [],.mp 2,.int .i64 D.length,fh (qs.filter fun r=>!(Nat.beq r q)),.int .i64 (q:Nat)]])) (by simp) rfl (by simp) hent
  have hcm:∀ r,aC 2 (aP r)=M.pure (aP r):=fun r=>by rw[bd (gz _),eF,iD]
  have h2:=jr (p:=p) (l:=0) (h:=[.tup ((bT p).map (bV Fun.av))]:: [sA s]:: eT D:: (J++[[.tup [],.mp 2,.int .i64 D.length,fh (qs.filter fun r=>!(Nat.beq r q)),.int .i64 (q:Nat)]])) rfl (sw D q) false
  let H0:BitVec 64→Hp:=fun s=>[.tup ((bT p).map (bV Fun.av))]:: [sA s]:: eT D:: (J++[[.tup [],.mp 2,.int .i64 D.length,fh (qs.filter fun r=>!(Nat.beq r q)),.int .i64 (q:Nat)]])
  have h3:=t90 (H:=H0) (st:=Np) (g:=.fn (.func 91) [] [.hp 1 0]) (fun s e=>t91 e 1 (H0 s) s rfl) _ (ji p (sw D q)) (Nat.le_refl _) (S.body _) s
  rw[BG] at h3
  have hp:=kK hnd hq
  have h4:=IH (qs.filter fun r=>!(Nat.beq r q)) (s ||| yQ p (sw D q)) (.int .i64 (q:Nat)) (by have:=hp.length_eq;simp at this;omega) (jP hnd) (fun r hr=>hlt r ((List.mem_filter.1 hr).1))
  rw[cy h1]
  simp[hcm]
  rw[cy h2]
  simp[Ih]
  refine (cy h3).trans ?_
  rw[E1 _ hp]
  exact h4
def yR(p:List Mod)(f:aD):BitVec 64:=Hk (yQ p) 0#64 ((bq p f).map (·.1))
theorem Cm(p:List Mod)(D:List (aD×List aD)):Hk (fun q=>yQ p (sw D q)) 0#64 (List.range D.length)=Hk (yQ p) 0#64 (D.map (·.1)):=by
 have:D.map (·.1)=(List.range D.length).map (sw D):=by
  apply List.ext_getElem (by simp)
  intro i h1 h2
  simp at h1
  simp[sw,h1]
 unfold Hk
 rw[this,List.foldl_map]
theorem t26{p:List Mod}(S:Sm p)(f:aD):ai pg 26 [mods p,aP f]=M.pure (sA (yR p f)):=by
 rw[C26]
 obtain⟨J,_,h2⟩:=t87 (h:=[[.tup ((bT p).map (bV Fun.av))],[sA 0#64]]) (la:=0) S rfl f
 have h3:∃ h',S26 (ai pg) af (mods p) (aP f) []= .ok (sA (yR p f)) h':=by
  simp only[S26]
  rw[cy (BV S)]
  have hn:newH [.int .i64 0] [[.tup ((bT p).map (bV Fun.av))]]= .ok (.hp 1 0) [[.tup ((bT p).map (bV Fun.av))],[.int .i64 0]]:=rfl
  have hs:bK T 3 (.hp 1 0) (.int .i64 0) [[.tup ((bT p).map (bV Fun.av))],[.int .i64 0]]= .ok (.tup []) [[.tup ((bT p).map (bV Fun.av))],[sA 0#64]]:=rfl
  rw[cy hn,cy hs]
  simp
  by_cases hf:(findR p f).isSome=true
  ·rw[if_pos hf] at h2
   rw[cy h2]
   have h4:=KC S (bq p f) J _ (List.range (bq p f).length) 0#64 .any rfl List.nodup_range (fun q hq=>List.mem_range.1 hq)
   rw[Cm] at h4
   have hr:fY T 158 (.mp 2) ([.tup ((bT p).map (bV Fun.av))]:: [sA 0#64]:: eT (bq p f):: J)= .ok (.it (J.length + 3)) ([.tup ((bT p).map (bV Fun.av))]:: [sA 0#64]:: eT (bq p f):: (J++[[.tup [],.mp 2,.int .i64 (bq p f).length,fh (List.range (bq p f).length),.any]])):=by
    simp[fY,xd,eT]
   exact⟨_,(cy hr).trans h4⟩
  ·rw[if_neg hf] at h2
   rw[cy h2]
   have he:yR p f=0#64:=by unfold yR bq;rw[if_neg hf];rfl
   have hr:fY T 158 .nilm [[.tup ((bT p).map (bV Fun.av))],[sA 0#64]]= .ok (.it 2) [[.tup ((bT p).map (bV Fun.av))],[sA 0#64],[.tup [],.nilm]]:=rfl
   rw[cy hr,FL26_0,he]
   simp only[L26_0,bu,bD]
   rw[EW rfl]
   exact⟨_,rfl⟩
 obtain⟨h',h3⟩:=h3
 simp only[gU,km]
 exact ED h3 (fun _=>rfl)
theorem Pl{l n:Nat}{i:Int}(h0:0≤i)(h1:i < n):ak T 79 (.hs l 0 n 2 true) (.int .i64 i)=some (.hp l (i.toNat * 2)):=by
 show (if 0≤i∧i < n then some (AV.hp l (0 + i.toNat * 2)) else none)=_
 rw[if_pos ⟨h0,h1⟩,Nat.zero_add]
theorem Io{h:Hp}{l:Nat}{Q:List aD}(hl:h[l]? = some (bb Q))(i:Nat)(hi:i < Q.length):bA T 65 (.hp l (i * 2)) h= .ok (aP Q[i]) h:=by
 rw[zl (T:=T) (t:=65) (l:=l) (k:=i * 2) (cs:=bb Q) (h:=h) rfl rfl hl (by rw[dR];show i * 2 + 2≤_;omega)]
 show R.ok (AV.agg (((bb Q).drop (i * 2)).take 2)) h=_
 rw[lQ Q i hi]
 rfl
theorem Fy{h:Hp}{l:Nat}{Q:List aD}(hl:h[l]? = some (bb Q))(i:Nat)(hi:i < Q.length)(r:aD):bK T 65 (.hp l (i * 2)) (aP r) h= .ok (.tup []) (h.set l (bb (Q.set i r))):=by
 rw[nz (T:=T) (t:=65) (l:=l) (k:=i * 2) (cs:=bb Q) (v:=aP r) (h:=h) rfl hl rfl (by rw[dR];show i * 2 + 2≤_;omega) (by exact Nat.zero_lt_two)]
 show R.ok _ (h.set l (setCells (bb Q) (i * 2) [.str r.1,.str r.2]))=_
 rw[qk Q i hi]
theorem GZ(P:List aD)(hP:P.length≤4000000)(l:Nat):∀(n:Nat)(i j:Int)(Q:List aD)(h:Hp),(j - i + 1).toNat=n→0≤i→i + j + 1=P.length→zW P Q i.toNat→h[l]? = some (bb Q)→
  af (L178_0 (ai pg) af) [.hs l 0 P.length 2 true,.int .i64 i,.int .i64 j] h= .ok (.tup []) (h.set l (bb P.reverse)):=by
 intro n
 induction n using Nat.strongRecOn with
 | ind n IH=>
  intro i j Q h hn hi hij H hl
  rw[FL178_0]
  simp only[L178_0]
  by_cases hlt:i < j
  ·have hQ:=H.1
   have h2:=Io hl j.toNat (by omega)
   have h3:=Io hl i.toNat (by omega)
   have h4:=Fy hl i.toNat (by omega) Q[j.toNat]
   have hll:l < h.length:=(List.getElem?_eq_some_iff.1 hl).1
   have h5:=Fy (h:=h.set l (bb (Q.set i.toNat Q[j.toNat]))) (l:=l) (Q:=Q.set i.toNat Q[j.toNat]) (List.getElem?_set_self hll) j.toNat (by simp;omega) Q[i.toNat]
   rw[List.set_set] at h5
   have hs:(Q.set i.toNat Q[j.toNat]).set j.toNat Q[i.toNat]=r5 Q i.toNat j.toNat:=by
    simp only[r5,List.getElem?_eq_getElem (show j.toNat < Q.length by omega),List.getElem?_eq_getElem (show i.toNat < Q.length by omega),Option.getD_some]
   rw[hs] at h5
   have h6:=IH (j - 1 - (i + 1) + 1).toNat (by omega) (i + 1) (j - 1) (r5 Q i.toNat j.toNat) (h.set l (bb (r5 Q i.toNat j.toNat))) rfl (by omega) (by omega) (by
    rw[show (i + 1).toNat=i.toNat + 1 by omega]
    exact zG H (by omega) (by omega)) (List.getElem?_set_self hll)
   rw[List.set_set] at h6
   simp (disch:=omega) [hlt,Pl]
   rw[cy h2,cy h3,cy h4,cy h5,br (by omega) (by omega),br (by omega) (by omega)]
   exact h6
  ·have:=Cp H hi hij hlt
   subst this
   have hll:l < h.length:=(List.getElem?_eq_some_iff.1 hl).1
   have hs:h.set l (bb P.reverse)=h:=by
    obtain⟨h3,h4⟩:=List.getElem?_eq_some_iff.1 hl
    rw[← h4];simp
   rw[hs]
   simp[hlt]
   rfl
theorem t178(P:List aD)(hP:P.length≤4000000)(l:Nat)(h:Hp)(hl:h[l]? = some (bb P)):ai pg 178 [.hs l 0 P.length 2 true] h= .ok (.tup []) (h.set l (bb P.reverse)):=by
 rw[C178]
 have h1:=GZ P hP l _ 0 (P.length - 1) P h rfl (by omega) (by omega) ⟨rfl,fun x hx=>by rw[if_neg (by omega)]⟩ hl
 have h2:aJ T 79 (.hs l 0 P.length 2 true)=some (.int .i64 P.length):=rfl
 simp only[S178,h2]
 simp (disch:=omega) [br]
 exact h1
theorem qd{h:Hp}{q:Nat}{P:List aD}(hq:h[q]? = some (bb P))(h0:P≠[])(hb:P.length≤4000000)(r:aD):
  appH T 79 false (.hs q 0 P.length 2 true) (aU [r]) h= .ok (.hs h.length 0 (P++[r]).length 2 true) (h.set q []++[bb (P++[r])]):=by
 have hp:0 < P.length:=by cases P with | nil=>exact absurd rfl h0 | cons _ _=>simp
 have:=DC (T:=T) (t:=79) (e:=65) (ti:=_) (ei:=_) rfl rfl rfl (x:=aP r) rfl (by decide) (by decide) (h:=h) (q:=q) (n:=P.length) (cs:=bb P) hq (kV P) (dR P) hp (by show (P.length + 1) * 32≤_;omega)
 rw[qj,List.length_append]
 exact this
theorem Ac(a b:aD):am T .neq 65 (aP a) (aP b)=some (.bool !decide (a=b)):=by
 show (wg T 20 65 (aP a) (aP b)).map (fun b=>AV.bool !b)=_
 rw[MY]
 rfl
theorem KE{p:List Mod}{f:aD}{k:Nat}{D:List (aD×List aD)}(I:DInv p f k D)(m:Nat):∀(n:Nat)(x:aD)(c P:List aD)(h:Hp)(q:Nat),c.length=n→(x,c)∈D→h[m]? = some (eT D)→h[q]? = some (bb P)→q≠m→P≠[]→P.length + n≤3000000→
  ∃ h' q' R,R=(P++c.dropLast.reverse).reverse∧af (L74_0 (ai pg) af) [.ip [.str f.1,.str f.2],.mp m,.hs q 0 P.length 2 true,.str x.1,.str x.2] h= .ok (.tup [.hs q' 0 R.length 2 true,.bool true]) h'∧h'[q']? = some (bb R):=by
 intro n
 induction n with
 | zero=>
  intro x c P h q hn hx
  have:=I.last hx
  rw[List.length_eq_zero_iff.1 hn] at this
  cases this
 | succ n IH=>
  intro x c P h q hn hx hm hq hqm h0 hb
  rw[FL74_0]
  simp only[L74_0]
  have hcm:∀ r,ar 2 [] (aP r)=M.pure (aP r):=fun r=>by rw[aR (gz _),eF,iD]
  by_cases hxf:x=f
  ·subst hxf
   have hc:=I.uniq hx I.start
   subst hc
   have h1:=t178 P (by omega) q h hq
   have hql:q < h.length:=(List.getElem?_eq_some_iff.1 hq).1
   refine⟨h.set q (bb P.reverse),q,P.reverse,by simp,?_,List.getElem?_set_self hql⟩
   simp[Ac]
   exact cy h1
  ·rcases I.chain _ hx with e | ⟨y,c',h1,h2,h3⟩
   ·exact absurd (congrArg Prod.fst e) hxf
   ·simp only at h3
    subst h3
    have hg:eu (D.map kL) x=some y:=lZ (by rw[nn];exact I.nodup) (List.mem_map.2 ⟨_,hx,tJ c' x y (I.last h1)⟩)
    have h4:=Cb (es:=D.map kL) hm x
    rw[hg] at h4
    have h5:=qd hq h0 (by omega) y
    have hml:m < h.length:=(List.getElem?_eq_some_iff.1 hm).1
    obtain⟨h',q',R,r1,r2,r3⟩:=IH y c' (P++[y]) (h.set q []++[bb (P++[y])]) h.length (by simpa using hn) h1
     (by rw[List.getElem?_append_left (by simpa using hml),List.getElem?_set_ne hqm];exact hm) (by simp) (by omega) (by simp) (by simp;omega)
    refine⟨h',q',R,?_,?_,r3⟩
    ·rw[r1,List.dropLast_concat]
     have:c'=c'.dropLast++[y]:=by
      have hl:=I.last h1
      have hne:c'≠[]:=by intro e;rw[e] at hl;cases hl
      have:=List.dropLast_concat_getLast hne
      rw[List.getLast?_eq_some_getLast hne] at hl
      rw[Option.some.inj hl] at this
      exact this.symm
     rw[this]
     simp
    ·have hB:aB T 79 1 [(0,aP y)]=some (aU [y]):=rfl
     simp[Ac,hxf]
     rw[cy h4]
     simp[hcm,hB]
     exact (cy h5).trans r2
def Nv:Option (List aD)→AV
 | some c=>.tup [aU c,.bool true]
 | none=>.tup [aU [],.bool false]
theorem t74{p:List Mod}(S:Sm p)(f t:aD):ai pg 74 [mods p,aP f,aP t]=M.pure (Nv (AM p f t)):=by
 rw[C74]
 obtain⟨J,_,h2⟩:=t87 S (qU p) f
 have hcm:∀ r,aC 2 (aP r)=M.pure (aP r):=fun r=>by rw[bd (gz _),eF,iD]
 simp only[gU,km]
 cases hg:AM p f t with
 | none=>
  have h3:∃ h',S74 (ai pg) af (mods p) (aP f) (aP t) []= .ok (.tup [aU [],.bool false]) h':=by
   simp only[S74]
   simp[hcm]
   rw[cy (BV S)]
   by_cases hf:(findR p f).isSome=true
   ·rw[if_pos hf] at h2
    rw[cy h2]
    have h4:=mZ (jv [[.tup ((bT p).map (bV Fun.av))]] (bq p f) J) t
    have h5:(eu ((bq p f).map kL) t).isSome=false:=by
     rw[mP]
     exact decide_eq_false (jl.1 hg)
    rw[h5] at h4
    rw[cy h4]
    simp[hcm]
    exact⟨_,rfl⟩
   ·rw[if_neg hf] at h2
    rw[cy h2]
    exact⟨_,rfl⟩
  obtain⟨h',h3⟩:=h3
  exact ED h3 (fun _=>rfl)
 | some c=>
  have hf:(findR p f).isSome=true:=by
   by_cases hf:(findR p f).isSome=true
   ·exact hf
   ·unfold AM bq at hg
    rw[if_neg hf] at hg
    cases hg
  have hI:=ow hf
  have hx:=wF hg
  have hlen:=Bu hI hx
  have hRl:=oz S f
  have h3:∃ h' q',S74 (ai pg) af (mods p) (aP f) (aP t) []= .ok (.tup [.hs q' 0 c.length 2 true,.bool true]) h'∧h'[q']? = some (bb c):=by
   simp only[S74]
   simp[hcm]
   rw[cy (BV S)]
   rw[if_pos hf] at h2
   rw[cy h2]
   have h4:=mZ (jv [[.tup ((bT p).map (bV Fun.av))]] (bq p f) J) t
   have h5:(eu ((bq p f).map kL) t).isSome=true:=by
    rw[mP]
    exact decide_eq_true (List.mem_map.2 ⟨_,hx,rfl⟩)
   rw[h5] at h4
   rw[cy h4]
   simp[hcm]
   obtain⟨h',q',R,r1,r2,r3⟩:=KE hI 1 c.length t c [t] ([.tup ((bT p).map (bV Fun.av))]:: eT (bq p f):: (J++[bb [t]])) (J.length + 2) rfl hx rfl (by simp) (by simp) (by simp) (by simp at hlen ⊢;omega)
   have hR:R=c:=by
    have hl:=hI.last hx
    have hne:c≠[]:=by intro e;rw[e] at hl;cases hl
    have:=List.dropLast_concat_getLast hne
    rw[List.getLast?_eq_some_getLast hne] at hl
    rw[Option.some.inj hl] at this
    rw[r1]
    simp
    exact this
   subst hR
   have hB:ki T 79 1 [(0,aP t)] ([.tup ((bT p).map (bV Fun.av))]:: eT (bq p f):: J)= .ok (.hs (J.length + 2) 0 [t].length 2 true) ([.tup ((bT p).map (bV Fun.av))]:: eT (bq p f):: (J++[bb [t]])):=rfl
   exact⟨h',q',(cy hB).trans r2,r3⟩
  obtain⟨h',q',h3,h4⟩:=h3
  funext h0
  simp only[aF,h3]
  rw[Ep h4]
  rfl
theorem GD{α:Type}{b:Bool}{x y:α}(h:b=true):(bif b then x else y)=x:=by rw[h];rfl
theorem uv:∀ l:List aD,(l.map oS).flatten=bb l
 | []=>rfl
 | r:: l=>by
  rw[List.map_cons,List.flatten_cons,uv l]
  rfl
theorem t180{h:Hp}{q:Nat}{P:List aD}(hq:h[q]? = some (bb P))(h0:P≠[])(hb:P.length≤4000000):
  ai pg 180 [.hs q 0 P.length 2 true,.fn (.func 89) [] []] h= .ok (.tup []) (h.set q (bb (cY P))):=by
 rw[cS hOther (E:=gD 89) rfl]
 show lG dB 89 ge (ai pg) [.hs q 0 P.length 2 true,.fn (.func 89) [] []] h=_
 have hp:0 < P.length:=by cases P with | nil=>exact absurd rfl h0 | cons _ _=>simp
 have h1:dB.dec (((bb P).drop 0).take (P.length * dB.k))=some P:=by
  show lT (((bb P).drop 0).take (P.length * 2))=some P
  rw[List.drop_zero,← dR,List.take_length,← uv]
  exact yO P
 have h2:((ge P).map dB.ea).flatten=bb (cY P):=by
  rw[oB]
  exact uv _
 have h3:(Nat.beq 89 89&&Nat.beq 2 dB.k&&decide (0 < P.length)&&decide (0 + P.length * dB.k≤(bb P).length)&&decide (P.length=P.length)&&decide (P.length < 4611686018427387904)&&decide ((ge P).length=P.length)&&(bb P).all aO&&((ge P).map dB.ea).flatten.all aO)=true:=by
  rw[h2,oB,io,kV,kV,dR]
  have:dB.k=2:=rfl
  rw[this]
  simp
  omega
 simp only[decide_true] at h3
 simp only[lG,hq,h1]
 refine (GD ?_).trans ?_
 ·simpa using h3
 congr 2
 rw[h2]
 unfold setCells
 simp only[List.take_zero,List.nil_append,Nat.zero_add,dR,io]
 rw[List.drop_eq_nil_of_le (by rw[dR];omega),List.append_nil]
def GO(p:List Mod)(q:Nat):aD:=((bT p)[q]?.map (·.1)).getD ([],[])
def FK(p:List Mod)(f k:aD)(g:Fun):Bool:=decide (f∈(bq p k).map (·.1))&&g.pub
def Hr(p:List Mod)(f:aD)(q:Nat):Bool:=((bT p)[q]?.map fun e=>FK p f e.1 e.2).getD false
def Bv(p:List Mod)(f:aD)(q:Nat):Nat:=1 + (bq p (GO p q)).length + (if Hr p f q=true then 1 else 0)
def oA(p:List Mod)(f:aD)(qs:List Nat):List aD:=(qs.filter (Hr p f)).map (GO p)
def Bw(p:List Mod)(f:aD)(n:Nat)(qs:List Nat):Nat:=qs.foldl (fun n q=>n + Bv p f q) n
def zT(p:List Mod)(f:aD):List aD:=cY (oA p f (List.range (bT p).length))
inductive OutRc (h:Hp):AV→List aD→Prop
 | nil:OutRc h .hn []
 | cons (q:Nat) (P:List aD):2≤q→h[q]? = some (bb P)→P≠[]→OutRc h (.hs q 0 P.length 2 true) P
theorem OutRc.grow{h:Hp}{out:AV}{P:List aD}(H:OutRc h out P)(J:Hp):OutRc (h++J) out P:=by
 cases H with
 | nil=>exact .nil
 | cons q P h1 h2 h3=>exact .cons q P h1 (by rw[List.getElem?_append_left (List.getElem?_eq_some_iff.1 h2).1];exact h2) h3
theorem OutRc.put{h:Hp}{out:AV}{P:List aD}(H:OutRc h out P)(hb:P.length≤4000000)(h2:2≤h.length)(r:aD):∃ out' h',appH T 79 false out (aU [r]) h= .ok out' h'∧OutRc h' out' (P++[r])∧h'.length=h.length + 1∧∀ i,i < 2→h'[i]? = h[i]?:=by
 cases H with
 | nil=>
  refine⟨.hs h.length 0 1 2 true,h++[bb [r]],rfl,.cons h.length [r] h2 (by simp) (by simp),by simp,fun i hi=>by rw[List.getElem?_append_left (by omega)]⟩
 | cons q P h3 h4 h5=>
  have:=qd h4 h5 hb r
  refine⟨_,_,this,.cons h.length (P++[r]) h2 ?_ (by simp),by simp,fun i hi=>?_⟩
  ·have:(h.set q []).length=h.length:=by simp
   rw[← this]
   simp
  ·rw[List.getElem?_append_left (by simp;omega),List.getElem?_set_ne (by omega)]
theorem OutRc.set1{h:Hp}{out:AV}{P:List aD}(H:OutRc h out P)(x:List AV):OutRc (h.set 1 x) out P:=by
 cases H with
 | nil=>exact .nil
 | cons q P h1 h2 h3=>exact .cons q P h1 (by rw[List.getElem?_set_ne (by omega)];exact h2) h3
theorem OutRc.done{h:Hp}{out:AV}{P:List aD}(H:OutRc h out P)(hb:P.length≤4000000):ae (ai pg 180 [out,.fn (.func 89) [] []]) (fun _=>ae (ah (some out)) tm) h= .ok (aU (cY P)) (List.replicate h.length []):=by
 have hrep:∀ h:Hp,h.map (fun _=>([]:List AV))=List.replicate h.length []:=fun h=>Fj (List.length_map _) (fun x hx=>by obtain⟨_,_,rfl⟩:=List.mem_map.1 hx;rfl)
 cases H with
 | nil=>
  have h1:ai pg 180 [.hn,.fn (.func 89) [] []] h= .ok (.tup []) h:=by
   rw[cS hOther (E:=gD 89) rfl]
   rfl
  rw[cy h1]
  simp only[aT,tm,hrep]
  rfl
 | cons q P h1 h2 h3=>
  rw[cy (t180 h2 h3 hb)]
  simp only[aT,tm,hrep,List.length_set]
  have hql:q < h.length:=(List.getElem?_eq_some_iff.1 h2).1
  have:=wC (h:=h.set q (bb (cY P))) (l:=q) (P:=cY P) (List.getElem?_set_self hql) 5
  rw[io] at this
  rw[this]
theorem Cr(p:List Mod)(f:aD){a b:List Nat}(h:a.Perm b):(oA p f a).Perm (oA p f b):=(h.filter _).map _
theorem Bz(p:List Mod)(f:aD){a b:List Nat}(h:a.Perm b)(n:Nat):Bw p f n a=Bw p f n b:=h.foldl_eq' (fun x _ y _ z=>by omega) n
theorem KG{p:List Mod}(S:Sm p)(f:aD):∀(n:Nat)(qs:List Nat)(P:List aD)(out:AV)(h:Hp)(c:AV),qs.length=n→qs.Nodup→(∀ q∈qs,q < (bT p).length)→OutRc h out P→P.length + n≤3000000→
  iu p h 0→h[1]? = some [.tup [],.mp 0,.int .i64 (bT p).length,fh qs,c]→
  af (L77_0 (ai pg) af) [.ip [.str f.1,.str f.2],.mp 0,out,.it 1] h= .ok (aU (cY (P++oA p f qs))) (List.replicate (Bw p f h.length qs) []):=by
 intro n
 induction n with
 | zero=>
  intro qs P out h c hn _ _ hO hb hi h1
  obtain rfl:qs=[]:=List.length_eq_zero_iff.1 hn
  rw[FL77_0]
  simp only[L77_0,bu,bD]
  rw[AJ h1 hi (by simp)]
  have:=(hO.set1 []).done (by omega)
  rw[this]
  simp[oA,Bw]
 | succ n IH=>
  intro qs P out h c hn hnd hlt hO hb hi h1
  rw[FL77_0]
  simp only[L77_0,bu,bD]
  have hhl:2≤h.length:=by have:=(List.getElem?_eq_some_iff.1 h1).1;omega
  apply xn h1 hi (by simp)
  ·intro e;rw[e] at hn;cases hn
  intro q hq
  have hqI:=hlt q hq
  have hent:((bT p).map (bV Fun.av))[q]? = some (.tup [aP (bT p)[q].1,(bT p)[q].2.av]):=by
   rw[List.getElem?_map,List.getElem?_eq_getElem hqI]
   rfl
  have hk:GO p q=(bT p)[q].1:=by simp[GO,hqI]
  have hs:Hr p f q=FK p f (bT p)[q].1 (bT p)[q].2:=by simp[Hr,hqI]
  generalize hg:(bT p)[q]=e at hent hk hs
  obtain⟨k,g⟩:=e
  simp only at hent hk hs
  have hmem:(k,g)∈bT p:=hg▸List.getElem_mem hqI
  have hfk:(findR p k).isSome=true:=(kz p k).1 (List.mem_map.2 ⟨_,hmem,rfl⟩)
  let h2:=h.set 1 [.tup [],.mp 0,.int .i64 (bT p).length,fh (qs.filter fun r=>!(Nat.beq r q)),.int .i64 (q:Nat)]
  have hi2:iu p h2 0:=by unfold iu;rw[List.getElem?_set_ne (by omega)];exact hi
  have h12:h2[1]? = some [.tup [],.mp 0,.int .i64 (bT p).length,fh (qs.filter fun r=>!(Nat.beq r q)),.int .i64 (q:Nat)]:=List.getElem?_set_self (by omega)
  have hO2:OutRc h2 out P:=hO.set1 _
  have hl2:h2.length=h.length:=List.length_set
  have he:=we (h:=h2) h12 hi2 (by simp) hent
  have hcm:∀ r,aC 2 (aP r)=M.pure (aP r):=fun r=>by rw[bd (gz _),eF,iD]
  obtain⟨J,hJ,hsp⟩:=t87 S hi2 k
  rw[if_pos hfk] at hsp
  have hlk:=mZ (jv h2 (bq p k) J) f
  rw[mP] at hlk
  have hp:=kK hnd hq
  have hnl:(qs.filter fun r=>!(Nat.beq r q)).length=n:=by have:=hp.length_eq;simp only[List.length_cons] at this;omega
  have hlt2:∀ r∈qs.filter (fun r=>!(Nat.beq r q)),r < (bT p).length:=fun r hr=>hlt r (List.mem_filter.1 hr).1
  have hO3:=hO2.grow (eT (bq p k):: J)
  have hhl3:(h2++eT (bq p k):: J).length=h.length + (1 + (bq p k).length):=by simp[hl2,hJ];omega
  have hi3:iu p (h2++eT (bq p k):: J) 0:=by unfold iu;rw[List.getElem?_append_left (by omega)];exact hi2
  have h13:(h2++eT (bq p k):: J)[1]? = some [.tup [],.mp 0,.int .i64 (bT p).length,fh (qs.filter fun r=>!(Nat.beq r q)),.int .i64 (q:Nat)]:=by rw[List.getElem?_append_left (by omega)];exact h12
  have hres1:cY (P++oA p f qs)=cY (P++oA p f (q:: qs.filter fun r=>!(Nat.beq r q))):=lH ((Cr p f hp).append_left P)
  rw[hres1,Bz p f hp]
  have hcnt:Bw p f h.length (q:: qs.filter fun r=>!(Nat.beq r q))=Bw p f (h.length + Bv p f q) (qs.filter fun r=>!(Nat.beq r q)):=rfl
  rw[hcnt]
  refine (cy he).trans ?_
  simp[hcm]
  refine (cy hsp).trans ?_
  refine (cy hlk).trans ?_
  simp[hcm]
  have hB:aB T 79 1 [(0,aP k)]=some (aU [k]):=rfl
  by_cases hu:FK p f k g=true
  ·have hsel:oA p f (q:: qs.filter fun r=>!(Nat.beq r q))=k:: oA p f (qs.filter fun r=>!(Nat.beq r q)):=by
    unfold oA
    rw[List.filter_cons_of_pos (by rw[hs];exact hu),List.map_cons,hk]
   have hc1:Bv p f q=1 + (bq p k).length + 1:=by unfold Bv;rw[hs,hk,if_pos hu]
   obtain⟨out',h',a1,a2,a3,a4⟩:=hO3.put (by omega) (by omega) k
   have h4:=IH (qs.filter fun r=>!(Nat.beq r q)) (P++[k]) out' h' (.int .i64 (q:Nat)) hnl (jP hnd) hlt2 a2 (by simp;omega) (by unfold iu;rw[a4 0 (by omega)];exact hi3) (by rw[a4 1 (by omega)];exact h13)
   rw[a3,hhl3] at h4
   have hu':(decide (f∈(bq p k).map (·.1))&&g.pub)=true:=hu
   rw[if_pos hu',hsel,hc1]
   simp only[hB,aT]
   refine (cy a1).trans ?_
   rw[h4]
   simp only[List.append_assoc,List.cons_append,List.nil_append]
   congr 3
  ·have hsel:oA p f (q:: qs.filter fun r=>!(Nat.beq r q))=oA p f (qs.filter fun r=>!(Nat.beq r q)):=by
    unfold oA
    rw[List.filter_cons_of_neg (by rw[hs];exact hu)]
   have hc1:Bv p f q=1 + (bq p k).length:=by unfold Bv;rw[hs,hk,if_neg hu];rfl
   have h4:=IH (qs.filter fun r=>!(Nat.beq r q)) P out (h2++eT (bq p k):: J) (.int .i64 (q:Nat)) hnl (jP hnd) hlt2 hO3 (by omega) hi3 h13
   rw[hhl3] at h4
   have hu':¬ (decide (f∈(bq p k).map (·.1))&&g.pub)=true:=hu
   rw[if_neg hu',hsel,hc1]
   exact h4
theorem t77{p:List Mod}(S:Sm p)(f:aD):ai pg 77 [mods p,aP f]=M.pure (aU (zT p f)):=by
 rw[C77]
 have h3:∃ h',S77 (ai pg) af (mods p) (aP f) []= .ok (aU (zT p f)) h':=by
  simp only[S77]
  rw[cy (BV S)]
  have hr:fY T 160 (.mp 0) [[.tup ((bT p).map (bV Fun.av))]]= .ok (.it 1) [[.tup ((bT p).map (bV Fun.av))],[.tup [],.mp 0,.int .i64 (bT p).length,fh (List.range (bT p).length),.any]]:=by
   simp[fY,EU]
  have:=KG S f _ (List.range (bT p).length) [] .hn [[.tup ((bT p).map (bV Fun.av))],[.tup [],.mp 0,.int .i64 (bT p).length,fh (List.range (bT p).length),.any]] .any rfl List.nodup_range (fun q hq=>List.mem_range.1 hq) .nil (by have:=S.idx;simp;omega) rfl rfl
  exact⟨_,(cy hr).trans this⟩
 obtain⟨h',h3⟩:=h3
 simp only[gU,km]
 exact ED h3 (lR _)
theorem KF(a b:List aD)(hab:a.length=b.length)(hb:a.length≤40000000):∀(n:Nat)(i:Int),a.length - i.toNat=n→0≤i→i≤a.length→af (L75_0 (ai pg) af) [aU a,aU b,.int .i64 i]=M.pure (.bool (decide (a.drop i.toNat=b.drop i.toNat))):=by
 intro n
 have h3:∀ l,aJ T 79 (aU l)=some (.int .i64 l.length):=fun l=>by simp[aU]
 induction n with
 | zero=>
  intro i hn hi hl
  rw[FL75_0]
  simp only[L75_0]
  have h1:¬ (i < (a.length:Int)):=by omega
  have h2:a.drop i.toNat=[]:=List.drop_eq_nil_of_le (by omega)
  have h4:b.drop i.toNat=[]:=List.drop_eq_nil_of_le (by omega)
  simp[h1,h2,h3,h4]
 | succ n ih=>
  intro i hn hi hl
  have h1:i < (a.length:Int):=by omega
  have hlt:i.toNat < a.length:=by omega
  have hlb:i.toNat < b.length:=by omega
  have h4:=ih (i + 1) (by omega) (by omega) (by omega)
  rw[show (i + 1).toNat=i.toNat + 1 by omega] at h4
  rw[FL75_0]
  simp only[L75_0]
  have h5:(a.drop i.toNat=b.drop i.toNat)↔(a[i.toNat]=b[i.toNat]∧a.drop (i.toNat + 1)=b.drop (i.toNat + 1)):=by
   rw[List.drop_eq_getElem_cons hlt,List.drop_eq_getElem_cons hlb,List.cons.injEq]
  have h7:i < (b.length:Int):=by omega
  simp (disch:=omega) [h1,h3,br,FZ,h4,getElem!_pos a i.toNat hlt,getElem!_pos b i.toNat hlb,Ac]
  simp only[h5]
  by_cases h6:a[i.toNat]=b[i.toNat]
  ·simp[h6]
  ·simp[h6]
theorem t75(a b:List aD)(hb:a.length≤40000000):ai pg 75 [aU a,aU b]=M.pure (.bool (decide (a=b))):=by
 have h3:∀ l,aJ T 79 (aU l)=some (.int .i64 l.length):=fun l=>by simp[aU]
 rw[C75]
 by_cases hab:a.length=b.length
 ·have:=KF a b hab hb a.length 0 rfl (by omega) (by omega)
  simp at this
  have hc:(a.length:Int)=b.length:=by omega
  simp[S75,h3,hc,this]
 ·have hc:¬ (a.length:Int)=b.length:=by omega
  have hne:¬ a=b:=fun e=>hab (by rw[e])
  simp[S75,h3,hab,hne]
def sT(m s:aW):Exp:=.mk 15 0 s m [] []
def Cz(b:Bool):List Mod:=
 [⟨[109],[],[],[],[⟨[102],b,[],.mk 0 [],0,sT [] [103]⟩,⟨[103],false,[],.mk 0 [],0,.mk 3 0 [] [] [] [sT [] [102],.mk 16 2 [] [] [] [yf]]⟩],false,[],[],[]⟩,
   ⟨[110],[[109]],[],[],[⟨[104],true,[],.mk 0 [],0,sT [109] [102]⟩],false,[],[],[]⟩]
theorem t177(m s:aW):ai pg 177 [.str m,.str s]=M.pure (sT m s).av:=by
 rw[C177]
 exact bP (fun g=>yJ g (sT m s))
theorem t73(b:Bool):ai pg 73 [.bool b]=M.pure (mods (Cz b)):=by
 rw[C73]
 have h:S73 (ai pg) af (.bool b)=M.pure (mods (Cz b)):=by
  simp only[S73,t177,ff,bi]
  rfl
 simp only[cl]
 rw[h]
 exact bP (fun g=>gU g _)
theorem kC{o n:Int}{s m:aW}{ns:List aW}{es:List Exp}(h1:ns.length≤8796093022208)(h2:es.length≤140737488355328)(h3:∀ x∈es,x.Lim):(Exp.mk o n s m ns es).Lim:=fun k=>by
 cases k with
 | zero=>trivial
 | succ k=>exact⟨h1,h2,fun x hx=>h3 x hx k⟩
theorem wZ:yf.Lim:=kC (by simp) (by simp) (fun x hx=>by cases hx)
theorem qZ(m s:aW):(sT m s).Lim:=kC (by simp) (by simp) (fun x hx=>by cases hx)
theorem vN{p:List Mod}(h:∀ m∈p,∀ f∈m.funcs,f.body.Lim)(r:aD):(ji p r).Lim:=by
 unfold ji
 cases hf:findR p r with
 | none=>exact wZ
 | some g=>
  unfold findR at hf
  split at hf
  ·rename_i m hm
   exact h m (List.mem_of_find?_eq_some hm) g (List.mem_of_find?_eq_some hf)
  ·cases hf
theorem Iv(b:Bool):Sm (Cz b) where
 len:=by simp[Cz]
 funcs:=fun m hm=>by
  simp only[Cz,List.mem_cons,List.not_mem_nil,or_false] at hm
  rcases hm with rfl | rfl <;> simp
 idx:=by cases b <;> decide
 body:=vN (fun m hm f hf=>by
  simp only[Cz,List.mem_cons,List.not_mem_nil,or_false] at hm
  rcases hm with rfl | rfl
  ·simp only[List.mem_cons,List.not_mem_nil,or_false] at hf
   rcases hf with rfl | rfl
   ·exact qZ _ _
   ·refine kC (by simp) (by simp) (fun x hx=>?_)
    simp only[List.mem_cons,List.not_mem_nil,or_false] at hx
    rcases hx with rfl | rfl
    ·exact qZ _ _
    ·refine kC (by simp) (by simp) (fun x hx=>?_)
     simp only[List.mem_cons,List.not_mem_nil,or_false] at hx
     subst hx
     exact wZ
  ·simp only[List.mem_cons,List.not_mem_nil,or_false] at hf
   subst hf
   exact qZ _ _)
abbrev rM:aD:=([109],[102])
abbrev rG:aD:=([109],[103])
abbrev rH:aD:=([110],[104])
theorem PX:AM (Cz true) rH rG=some [rH,rM,rG]:=by kernel_rfl
theorem PY:lO (Cz true) rM=[rM,rG]:=by kernel_rfl
theorem PZ:yR (Cz true) rM=2#64:=by kernel_rfl
theorem P0:dh (Cz false) rH=[]:=by kernel_rfl
theorem P1:zT (Cz true) rG=[rM,rH]:=by kernel_rfl
theorem P2:dh (Cz true) rH=[rM]:=by kernel_rfl
theorem st{α β:Type}{m:M α}{a:α}{f:α→M β}{r:M β}(e:m=M.pure a)(h:f a=r):ae m f=r:=by rw[e,bi];exact h
theorem eR{x:Option AV}{a:AV}(e:x=some a):ah x=M.pure a:=by rw[e];rfl
theorem np{α:Type}{m:M α}{a:α}(e:m=M.pure a):bY m=M.pure a:=by rw[e];rfl
theorem gE{m:M (List AV)}{r:M (List AV)}(e:m=r):aA (.bool true) true 1 m=r:=by rw[← e];rfl
theorem Ph(x y:aW):aL T false 65 [(0,.str x),(1,.str y)]=some (aP (x,y)):=rfl
theorem Pb(x:aD):aB T 79 1 [(0,aP x)]=some (aU [x]):=rfl
theorem M6(x y:aD):aB T 79 2 [(0,aP x),(1,aP y)]=some (aU [x,y]):=rfl
theorem Pf(x y z:aD):aB T 79 3 [(0,aP x),(1,aP y),(2,aP z)]=some (aU [x,y,z]):=rfl
theorem Kt(r:aD):aC 2 (aP r)=M.pure (aP r):=by rw[bd (gz _),eF,iD]
theorem l5(r:aD):aj T 65 (.ip (ab (aP r)))=some (aP r):=rfl
theorem Ht(call:FuncId→List AV→M AV)(P Q:AV)(x1:call 73 [.bool true]=M.pure P) (x2:call 73 [.bool false]=M.pure Q)
  (e1:call 74 [P,aP rH,aP rG]=M.pure (.tup [aU [rH,rM,rG],.bool true])) (e2:call 25 [P,aP rM]=M.pure (aU [rM,rG])) (e3:call 26 [P,aP rM]=M.pure (sA 2#64))
  (e4:call 76 [Q,aP rH]=M.pure (aU [])) (e5:call 77 [P,aP rG]=M.pure (aU [rM,rH])) (e6:call 76 [P,aP rH]=M.pure (aU [rM]))
  (s1:∀ l:List aD,l.length≤9→call 75 [aU l,aU l]=M.pure (.bool true)):S21 call af=M.pure (.bool true):=by
 have h2:am T .eql 3 (sA 2#64) (.int .i64 2)=some (.bool true):=rfl
 have s1a:=s1 [rM,rG] (by simp)
 have s2a:=s1 [rH,rM,rG] (by simp)
 have s3a:=s1 [rM,rH] (by simp)
 have s4a:=s1 [rM] (by simp)
 clear s1
 unfold S21
 refine st (eR (Ph _ _)) ?_
 refine st (Kt _) ?_
 refine st (eR (Ph _ _)) ?_
 refine st (Kt _) ?_
 refine st (eR (Ph _ _)) ?_
 refine st (Kt _) ?_
 refine st x1 ?_
 refine st (eR (l5 _)) ?_
 refine st (eR (l5 _)) ?_
 refine st e1 ?_
 refine st (eR rfl) ?_
 refine st (eR rfl) ?_
 refine st (eR (l5 _)) ?_
 refine st (np e2) ?_
 refine st (eR (l5 _)) ?_
 refine st (eR (l5 _)) ?_
 refine st (eR (M6 _ _)) ?_
 refine st (np s1a) ?_
 refine st (gE (st (eR (l5 _)) (st (np e3) (st (eR h2) rfl)))) ?_
 refine st (eR rfl) ?_
 refine st (gE (st (np x2) (st (eR (l5 _)) (st (np e4) (st (eR rfl) (st (eR rfl) rfl)))))) ?_
 refine st (eR rfl) ?_
 refine st (gE rfl) ?_
 refine st (eR rfl) ?_
 refine st (gE (st (eR (l5 _)) (st (eR (l5 _)) (st (eR (l5 _)) (st (eR (Pf _ _ _)) (st (np s2a) rfl)))))) ?_
 refine st (eR rfl) ?_
 refine st (gE (st (eR (l5 _)) (st (np e5) (st (eR (l5 _)) (st (eR (l5 _)) (st (eR (M6 _ _)) (st (np s3a) rfl))))))) ?_
 refine st (eR rfl) ?_
 refine st (gE (st (eR (l5 _)) (st (np e6) (st (eR (l5 _)) (st (eR (Pb _)) (st (np s4a) rfl)))))) ?_
 refine st (eR rfl) ?_
 rfl
theorem t21:ai pg 21 []=M.pure (.bool true):=by
 rw[C21]
 have S1:=Iv true
 have S2:=Iv false
 have e1:=t74 S1 rH rG
 have e2:=t25 S1 rM
 have e3:=t26 S1 rM
 have e4:=t76 S2 rH
 have e5:=t77 S1 rG
 have e6:=t76 S1 rH
 rw[PX] at e1
 rw[PY] at e2
 rw[PZ] at e3
 rw[P0] at e4
 rw[P1] at e5
 rw[P2] at e6
 rw[Ht (ai pg) _ _ (t73 true) (t73 false) e1 e2 e3 e4 e5 e6 (fun l hl=>by rw[t75 l l (by omega)];simp)]
 exact lg true
theorem K9{p:List Mod}(hM:∀ m∈p,m.Lim)(h1:p.length≤9)(h2:∀ m∈p,m.funcs.length≤9):Sm p where
 len:=by omega
 funcs:=fun m hm=>by have:=h2 m hm;omega
 idx:=by
  have h3:=GP p
  have h4:=CO p h2
  have:p.length * 9≤9 * 9:=Nat.mul_le_mul_right 9 h1
  omega
 body:=vN fun m hm f hf=>((hM m hm).fns f hf).body
theorem F6{p:List Mod}(S:Sm p)(f:aD):(lO p f).length≤1000000:=by
 unfold lO
 rw[io,List.length_map]
 exact oz S f
theorem pL(l:List aD):aJ T 79 (aU l)=some (.int .i64 l.length):=by simp[aU]
def cV(o:Option Fun):AV:=.tup [(o.getD r9).av,.bool o.isSome]
theorem FN:aL T false 76 []=some r9.av:=rfl
theorem zv(g:Fun):ar 12 [] g.av=M.pure g.av:=by rw[aR (iH g),eE,iC]
theorem KO(r:aD)(l:List Fun)(hl:l.length≤1000000)(b3 b4 b5 b6 b7 b8 b9 b10 b11 b12 b13 b14:AV):∀(n j:Nat),l.length - j=n→j≤l.length→
  af (L24_0 (ai pg) af) [.ip [.str r.1,.str r.2],eQ l,.int .i64 j,b3,b4,b5,b6,b7,b8,b9,b10,b11,b12,b13,b14]=M.pure (cV ((l.drop j).find? fun f=>f.name== r.2)):=by
 intro n
 induction n with
 | zero=>
  intro j hn hj
  have h1:¬ j < l.length:=by omega
  have h2:l.drop j=[]:=List.drop_eq_nil_of_le (by omega)
  rw[FL24_0]
  simp only[L24_0,h2]
  simp[h1,FN,zv,cV]
 | succ n ih=>
  intro j hn hj
  have hlt:j < l.length:=by omega
  have h4:=ih (j + 1) (by omega) (by omega)
  have h4':af (L24_0 (ai pg) af) [.ip [.str r.1,.str r.2],eQ l,.int .i64 ((j:Int) + 1),b3,b4,b5,b6,b7,b8,b9,b10,b11,b12,b13,b14]=_:=h4
  have h5:l.drop j=l[j]:: l.drop (j + 1):=List.drop_eq_getElem_cons hlt
  rw[FL24_0]
  simp only[L24_0,h5,List.find?_cons]
  by_cases he:l[j].name=r.2
  ·have he':(l[j].name== r.2)=true:=beq_iff_eq.2 he
   simp (disch:=omega) [hlt,vB,getElem!_pos l j hlt,br,he',zv,cV]
  ·have he':(l[j].name== r.2)=false:=beq_eq_false_iff_ne.2 he
   simp (disch:=omega) [hlt,vB,getElem!_pos l j hlt,br,he,he',h4']
theorem KP{p:List Mod}(S:Sm p)(r:aD)(b3 b4 b5 b6 b7 b8 b9 b10 b11 b12 b13 b14:AV):∀(n i:Nat),p.length - i=n→i≤p.length→
  af (L24_1 (ai pg) af) [mods p,.ip [.str r.1,.str r.2],.int .i64 i,b3,b4,b5,b6,b7,b8,b9,b10,b11,b12,b13,b14]=M.pure (cV (findR (p.drop i) r)):=by
 have hpl:=S.len
 have hlenM:aJ T 42 (mods p)=some (.int .i64 p.length):=by simp[mods]
 intro n
 induction n with
 | zero=>
  intro i hn hi
  have h1:¬ i < p.length:=by omega
  have h2:p.drop i=[]:=List.drop_eq_nil_of_le (by omega)
  rw[FL24_1]
  simp only[L24_1,h2]
  simp[hlenM,h1,FN,zv,cV,findR]
 | succ n ih=>
  intro i hn hi
  have hlt:i < p.length:=by omega
  have h4:=ih (i + 1) (by omega) (by omega)
  have h4':af (L24_1 (ai pg) af) [mods p,.ip [.str r.1,.str r.2],.int .i64 ((i:Int) + 1),b3,b4,b5,b6,b7,b8,b9,b10,b11,b12,b13,b14]=_:=h4
  have h5:p.drop i=p[i]:: p.drop (i + 1):=List.drop_eq_getElem_cons hlt
  have h6:=KO r p[i].funcs (S.funcs _ (List.getElem_mem hlt)) b3 b4 b5 b6 b7 b8 b9 b10 b11 b12 b13 b14 _ 0 rfl (by omega)
  simp only[List.drop_zero] at h6
  have h6':af (L24_0 (ai pg) af) [.ip [.str r.1,.str r.2],eQ p[i].funcs,.int .i64 0,b3,b4,b5,b6,b7,b8,b9,b10,b11,b12,b13,b14]=_:=h6
  rw[FL24_1]
  simp only[L24_1,h5]
  by_cases he:p[i].name=r.1
  ·have hf:findR (p[i]:: p.drop (i + 1)) r=p[i].funcs.find? fun f=>f.name== r.2:=by unfold findR;rw[List.find?_cons_of_pos (by simp[he])]
   rw[hf]
   simp (disch:=omega) [hlenM,hlt,tX,getElem!_pos p i hlt,br,he,h6']
  ·have hf:findR (p[i]:: p.drop (i + 1)) r=findR (p.drop (i + 1)) r:=by unfold findR;rw[List.find?_cons_of_neg (by simp[he])]
   have he':(p[i].name== r.1)=false:=beq_eq_false_iff_ne.2 he
   rw[hf]
   simp (disch:=omega) [hlenM,hlt,tX,getElem!_pos p i hlt,br,he,he',h4']
theorem t24{p:List Mod}(S:Sm p)(r:aD):ai pg 24 [mods p,aP r]=M.pure (cV (findR p r)):=by
 rw[C24]
 have h:=KP S r (.str []) (.bool false) (.sl []) (.int .i64 0) (.sl []) (.int .i64 0) (.int .i64 0) (.int .i64 0) (.str []) (.str []) (.sl []) (.sl []) _ 0 rfl (by omega)
 simp only[List.drop_zero] at h
 have h':af (L24_1 (ai pg) af) [mods p,.ip [.str r.1,.str r.2],.int .i64 0,.str [],.bool false,.sl [],.int .i64 0,.sl [],.int .i64 0,.int .i64 0,.int .i64 0,.str [],.str [],.sl [],.sl []]=_:=h
 simp only[gU,km,S24,eF]
 rw[h']
 exact bP (fun g=>by simp[cV,cl,ee])
theorem Ig(g:Fun):aC 12 g.av=M.pure g.av:=by rw[bd (iH g),eE,iC]
theorem Hq(T:TT)(t:Nat)(a:BitVec 64)(n:Int):am T .andNot t (sA a) (.int .i64 n)=some (sA (a &&& ~~~(bv n))):=by
 have:EA .andNot .i64 a.toInt n=some (sA (a &&& ~~~(bv n))):=by
  show some (AV.int .i64 (IntKind.i64.wrap (BitVec.ofInt 64 a.toInt &&& ~~~BitVec.ofInt 64 n).toNat))=_
  rw[BitVec.ofInt_toInt,vw]
  rfl
 simpa [am,sA,lc] using this
theorem R0{p:List Mod}{f:aD}(V:List AV→M AV)(fs:List Face)(at_ e:Int)(i:Nat)(hi:i < p.length)(hpl:p.length≤1000)(hfl:fs.length≤1000)(hM:∀ m∈p,m.Lim):∀(n k:Nat),i - k=n→k≤i→
  af (L5_0 (ai pg) af V) [mods p,.ip [.str f.1,.str f.2],.bool true,faces fs,.int .i64 at_,.int .i64 i,.int .i64 e,.int .i64 k]=
   if p[i].name∈((p.take i).drop k).map (·.name) then M.pure (.bool true)
   else if e=0 then V [mods p,.ip [.str f.1,.str f.2],.bool true,faces (fs++[na p[i]]),.int .i64 (if p[i].name=f.1 then (i:Int) else at_),.int .i64 i]
   else M.pure (.bool true):=by
 intro n
 induction n with
 | zero=>
  intro k hn hk
  obtain rfl:k=i:=by omega
  have h1:(p.take k).drop k=[]:=List.drop_eq_nil_of_le (by simp;omega)
  have hO:=P7 p[k] (hM _ (List.getElem_mem hi))
  have hB:aB T 30 1 [(0,(na p[k]).av)]=some (faces [na p[k]]):=rfl
  have hA:dL T 30 (faces fs) (faces [na p[k]])=some (faces (fs++[na p[k]])):=Od (by simp;omega)
  rw[FL5_0]
  simp only[L5_0,h1]
  by_cases he:e=0
  ·subst he
   by_cases hn:p[k].name=f.1
   ·have hn':(p[k].name== f.1)=true:=beq_iff_eq.2 hn
    simp (disch:=omega) [tX,getElem!_pos p k hi,hO,hB,hA,hn']
    rw[if_pos hn]
   ·have hn':(p[k].name== f.1)=false:=beq_eq_false_iff_ne.2 hn
    simp (disch:=omega) [tX,getElem!_pos p k hi,hO,hB,hA,hn']
    rw[if_neg hn]
  ·have he':(e != 0)=true:=by simpa using he
   simp[Ac,he',he]
 | succ n ih=>
  intro k hn hk
  have hlt:k < i:=by omega
  have hkp:k < p.length:=by omega
  have h4:=ih (k + 1) (by omega) (by omega)
  have h3:(p.take i).drop k=p[k]:: (p.take i).drop (k + 1):=by
   rw[List.drop_eq_getElem_cons (by simp;omega)]
   simp
  have h1:(k:Int) < i:=by omega
  rw[FL5_0]
  simp only[L5_0,h3,List.map_cons,List.mem_cons]
  by_cases he:p[k].name=p[i].name
  ·have he':(p[k].name== p[i].name)=true:=beq_iff_eq.2 he
   rw[if_pos (.inl he.symm)]
   simp (disch:=omega) [hlt,tX,getElem!_pos p i hi,getElem!_pos p k hkp,br,he']
  ·have he':(p[k].name== p[i].name)=false:=beq_eq_false_iff_ne.2 he
   have he2:(p[i].name=p[k].name∨p[i].name∈((p.take i).drop (k + 1)).map (·.name))↔p[i].name∈((p.take i).drop (k + 1)).map (·.name):=⟨fun h=>h.resolve_left fun h=>he h.symm,.inr⟩
   simp only[he2]
   refine Eq.trans ?_ h4
   simp (disch:=omega) [hlt,tX,getElem!_pos p i hi,getElem!_pos p k hkp,br,he']
theorem R1{p:List Mod}(hpl:p.length≤1000)(V:List AV→M AV)(a1 a2 a4:AV)(l:List aD)(i:Nat)(hi:i < l.length)(hl:l.length≤1000000)(a:Nat)(ha:a < p.length):∀(n k:Nat)(th:Bool),a + 1 - k=n→k≤a + 1→(th=true∨∃ j,∃(hj:j < p.length),k≤j∧j≤a∧p[j].name=l[i].1)→
  af (L5_1 (ai pg) af V) [mods p,a1,a2,.int .i64 a,a4,aU l,.int .i64 i,.bool th,.int .i64 k]=V [mods p,a1,a2,.int .i64 a,a4,aU l,.int .i64 ((i + 1:Nat):Int)]:=by
 intro n
 induction n with
 | zero=>
  intro k th hn hk h
  have h1:¬ k≤a:=by omega
  have ht:th=true:=h.resolve_right (by rintro⟨j,hj,h2,h3,_⟩;omega)
  subst ht
  rw[FL5_1]
  simp only[L5_1]
  simp (disch:=omega) [h1,br]
 | succ n ih=>
  intro k th hn hk h
  have hk1:k≤a:=by omega
  have hkp:k < p.length:=by omega
  have h4:=ih (k + 1) (th||p[k].name== l[i].1) (by omega) (by omega) (by
   rcases h with h | ⟨j,hj,h1,h2,h3⟩
   ·exact .inl (by rw[h];rfl)
   ·by_cases hjk:j=k
    ·subst hjk
     exact .inl (by rw[beq_iff_eq.2 h3];simp)
    ·exact .inr ⟨j,hj,by omega,h2,h3⟩)
  refine Eq.trans ?_ h4
  rw[FL5_1]
  simp only[L5_1]
  cases th with
  | true=>simp (disch:=omega) [hk1,br]
  | false=>simp (disch:=omega) [hk1,tX,FZ,pL,getElem!_pos p k hkp,getElem!_pos l i hi,br]
theorem R2{p:List Mod}(S:Sm p)(hpl:p.length≤1000){f:aD}{x:Fun}(l:List aD)(hl:l.length≤1000000)(a:Nat)(ha:a < p.length)(H:∀ r∈l,∃ j,∃(hj:j < p.length),j≤a∧p[j].name=r.1)(he:yR p f ||| bv x.effects=bv x.effects):∀(n i:Nat),l.length - i=n→i≤l.length→
  af (L5_2 (ai pg) af) [mods p,.ip [.str f.1,.str f.2],.bool true,.int .i64 a,.ip (ab x.av),aU l,.int .i64 i]=M.pure (.bool true):=by
 intro n
 induction n with
 | zero=>
  intro i hn hi
  have h1:¬ i < l.length:=by omega
  have h2:=t26 S f
  have h3:am T .eql 3 (sA 0#64) (.int .i64 0)=some (.bool true):=rfl
  have h4:=Hq T 3 (yR p f) x.effects
  rw[F7 he] at h4
  rw[FL5_2]
  simp only[L5_2]
  simp[pL,h1,h2,h3,h4]
 | succ n ih=>
  intro i hn hi
  have hlt:i < l.length:=by omega
  obtain⟨j,hj,h1,h2⟩:=H _ (List.getElem_mem hlt)
  have h3:=R1 hpl (af (L5_2 (ai pg) af)) (.ip [.str f.1,.str f.2]) (.bool true) (.ip (ab x.av)) l i hlt hl a ha _ 0 false rfl (by omega) (.inr ⟨j,hj,by omega,h1,h2⟩)
  have h3':af (L5_1 (ai pg) af (af (L5_2 (ai pg) af))) [mods p,.ip [.str f.1,.str f.2],.bool true,.int .i64 a,.ip (ab x.av),aU l,.int .i64 i,.bool false,.int .i64 0]=_:=h3
  rw[ih (i + 1) (by omega) (by omega)] at h3'
  rw[FL5_2]
  simp only[L5_2]
  simp only[bu,bD,pL]
  simp only[eE] at h3'
  simp[hlt,pL]
  exact h3'
def fg(p:List Mod)(s:aW):Nat→Int
 | 0=>-1
 | i + 1=>if (p[i]?.map (·.name))=some s then (i:Int) else fg p s i
theorem tI{p:List Mod}{s:aW}:∀ i,fg p s i < 0→∀ j,j < i→∀(h:j < p.length),p[j].name≠s
 | 0,_,j,hj,_=>by omega
 | i + 1,h,j,hj,hl=>by
  unfold fg at h
  split at h
  ·omega
  ·rename_i hne
   by_cases hji:j=i
   ·subst hji
    intro e
    exact hne (by rw[List.getElem?_eq_getElem hl,Option.map_some,e])
   ·exact tI i h j (by omega) hl
theorem pm{p:List Mod}{s:aW}:∀ i,¬ fg p s i < 0→∃ j,∃(h:j < p.length),fg p s i=j∧p[j].name=s
 | 0,h=>by simp[fg] at h
 | i + 1,h=>by
  unfold fg at h ⊢
  split
  ·rename_i he
   cases hp:p[i]? with
   | none=>rw[hp] at he;cases he
   | some m=>
    obtain⟨h1,h2⟩:=List.getElem?_eq_some_iff.1 hp
    rw[hp] at he
    exact⟨i,h1,rfl,by rw[h2];exact Option.some.inj he⟩
  ·rename_i he
   rw[if_neg he] at h
   exact pm i h
theorem R3{p:List Mod}(S:Sm p)(hpl:p.length≤1000)(hM:∀ m∈p,m.Lim){f:aD}:∀(n i:Nat),p.length - i=n→i≤p.length→((p.take i).map (·.name)).Nodup→(∀ j (h:j < p.length),j < i→Accd p[j] ((p.take j).map na))→
  af (L5_3 (ai pg) af) [mods p,.ip [.str f.1,.str f.2],.bool true,faces ((p.take i).map na),.int .i64 (fg p f.1 i),.int .i64 i]=M.pure (.bool true):=by
 have hlenM:aJ T 42 (mods p)=some (.int .i64 p.length):=by simp[mods]
 intro n
 induction n with
 | zero=>
  intro i hn hi hnd hac
  obtain rfl:i=p.length:=by omega
  rw[List.take_length] at hnd
  have P:Prog p:=⟨hnd,fun j h=>hac j h h⟩
  have h1:¬ p.length < p.length:=by omega
  have hF:=t24 S f
  have hA:=t25 S f
  have hl:=F6 S f
  rw[FL5_3]
  simp only[L5_3]
  cases hx:findR p f with
  | none=>
   have h2:lO p f=[]:=by
    rw[List.eq_nil_iff_forall_not_mem]
    intro r hr
    have:=vE hr
    rw[hx] at this
    cases this
   rw[hx] at hF
   rw[h2] at hA
   have h3:aJ T 79 (aU [])=some (.int .i64 0):=rfl
   simp[hlenM,h1,hF,cV,Ig,hA,h3]
  | some x=>
   have h5:¬ fg p f.1 p.length < 0:=fun h=>by
    obtain⟨j,hj,e,_⟩:=P.of_findR hx
    exact tI _ h j hj hj e
   obtain⟨a,ha,e1,e2⟩:=pm _ h5
   have H:∀ r∈lO p f,∃ j,∃(hj:j < p.length),j≤a∧p[j].name=r.1:=fun r hr=>by
    obtain⟨j,hj,g,q1,q2,_⟩:=P.stated ha e2 hx r hr
    exact⟨j,hj,q1,q2⟩
   have h6:=R2 S hpl (f:=f) (x:=x) (lO p f) (by omega) a ha H (P.effs ha e2 hx) _ 0 rfl (by omega)
   have h6':af (L5_2 (ai pg) af) [mods p,.ip [.str f.1,.str f.2],.bool true,.int .i64 a,.ip (ab x.av),aU (lO p f),.int .i64 0]=M.pure (.bool true):=h6
   rw[hx] at hF
   rw[e1]
   have h7:¬ (a:Int) < 0:=by omega
   simp[hlenM,h1,hF,cV,Ig,hA,h7]
   simpa using h6'
 | succ n ih=>
  intro i hn hi hnd hac
  have hlt:i < p.length:=by omega
  have hfsl:((p.take i).map na).length≤1000:=by simp;omega
  have hC:=P6 p[i] (hM _ (List.getElem_mem hlt)) ((p.take i).map na) (fun F hF=>by
   obtain⟨m,hm,rfl⟩:=List.mem_map.1 hF
   exact AK (hM m (List.mem_of_mem_take hm))) (by omega)
  have hR:=R0 (f:=f) (K5_0 (ai pg) af (af (L5_3 (ai pg) af))) ((p.take i).map na) (fg p f.1 i) (nI p[i] ((p.take i).map na)).2 i hlt hpl hfsl hM _ 0 rfl (by omega)
  have hR':af (L5_0 (ai pg) af (K5_0 (ai pg) af (af (L5_3 (ai pg) af)))) [mods p,.ip [.str f.1,.str f.2],.bool true,faces ((p.take i).map na),.int .i64 (fg p f.1 i),.int .i64 i,.int .i64 (nI p[i] ((p.take i).map na)).2,.int .i64 0]=_:=hR
  rw[FL5_3]
  simp only[L5_3]
  simp only[Kx]
  simp (disch:=omega) [hlenM,hlt,tX,getElem!_pos p i hlt,hC,mJ,-List.map_take]
  refine (hR'.trans ?_)
  split
  ·rfl
  ·rename_i hnm
   split
   ·rename_i h0
    have hA:=yI h0
    have h2:=ih (i + 1) (by omega) (by omega) (by
     rw[List.take_add_one,List.getElem?_eq_getElem hlt,List.map_append]
     refine List.nodup_append.2 ⟨hnd,by simp,fun a ha b hb e=>?_⟩
     simp at hb
     subst hb
     subst e
     exact hnm (by simpa using ha)) (fun j hj hji=>by
     by_cases hj2:j=i
     ·subst hj2;exact hA
     ·exact hac j hj (by omega))
    have h3:(p.take (i + 1)).map na=(p.take i).map na++[na p[i]]:=by
     rw[List.take_add_one,List.getElem?_eq_getElem hlt,List.map_append]
     rfl
    have h4:fg p f.1 (i + 1)=if p[i].name=f.1 then (i:Int) else fg p f.1 i:=by
     rw[fg,List.getElem?_eq_getElem hlt]
     simp
    rw[h3,h4] at h2
    simp only[K5_0]
    refine Eq.trans ?_ h2
    simp (disch:=omega) [br]
   ·rfl
theorem t5(p:List Mod)(hp:p.length≤140737488355328)(hM:∀ m∈p,m.Lim)(f:aD):ai pg 5 [mods p,aP f]=M.pure (.bool true):=by
 rw[C5]
 obtain⟨b,hb1,hb2⟩:=t22 p hp hM
 simp only[gU,km]
 have h:S5 (ai pg) af (mods p) (aP f)=M.pure (.bool true):=by
  cases b with
  | false=>simp[S5,t21,hb1]
  | true=>
   obtain⟨q1,q2⟩:=hb2 rfl
   have Q:=K9 hM (by omega) (fun x hx=>by have:=q2 x hx;omega)
   have h2:=R3 Q (by omega) hM (f:=f) _ 0 rfl (by omega) (by simp) (fun j h hj=>by omega)
   simp[S5,t21,hb1]
   simp only[fg,List.take_zero,List.map_nil] at h2
   exact h2
 rw[h]
 exact lg true
end Go.Proofs.YtkkabinknmldeaaGreat
namespace Go.Proofs.YtkkabinknmldeaaGreat.reachStated
open Go Go.Av Go.Av.Ap Go.ChangeShapes Go.WideShapes Go.ChangeAt Go.RowKit Go.Joins Go.Deep
set_option maxRecDepth 1000000
theorem kids:Kids Tryz.prog (· < Tryz.prog.types.size):=kids_rows (by kernel_rfl) (by kernel_rfl)
theorem xQ:∀ t e,t < Tryz.prog.types.size→Tryz.prog.underlying t=some (.slice e)→0 < Tryz.prog.cellsOf e:=slices_full_of Tryz.prog (by kernel_rfl)
theorem D2(H:Type)(enc:TypeId×Value→H)(W:World)(base:Nat)(args:Array Value)(ds gs:List (DataW H)) (before:List MemPlace)
  (hval:∀(j:Nat) t v,Tryz.f5.params[j]? = some t→args[j]? = some v→Value.okWide Tryz.prog W .any base t v)
  (hW:DataW.Whole enc Tryz.prog Tryz.f5.params.toList Rows.reachStatedSpec.vars false W args.toList ds gs before)
  (hz:(DataW.weightsEach Tryz.prog (Tryz.f5.params.toList++Rows.reachStatedSpec.plain.varTypes Tryz.prog) (ds++gs)).all (· ≤reachBytes)=true) (hL:laidMetH Tryz.prog Rows.reachStatedRow.laid W) (hS:W.ShapedOpen Tryz.prog):
  Calls Tryz.prog 5 args W fun e W'=>∃ v,e= .returned v∧Rows.reachStatedSpec.post enc Tryz.prog Tryz.f5 false true false false W args v W':=by
 have hW':=hW
 obtain⟨p,q,hA0,hV,rfl,hfz,hnd⟩:=hW
 have hA:DataW.TrodAll enc Tryz.prog W 0 (fun _=>true) true Tryz.f5.params.toList args.toList ds p:=hA0
 have hA1:=hA
 rw[Tryz.params5] at hA hval hz
 obtain⟨v0,vs0,d0,ds0,p0,q0,ha0,rfl,rfl,h0,r0⟩:=trodAll_cons hA
 obtain⟨v1,vs1,d1,ds1,p1,q1,ha1,rfl,rfl,h1,r1⟩:=trodAll_cons r0
 obtain⟨hnil,rfl,rfl⟩:=trodAll_nil r1
 subst hnil
 subst ha1
 obtain rfl:args= #[v0,v1]:=by cases args;simp_all
 obtain⟨rfl,rfl⟩:=trodVars_none hV
 obtain⟨x0,k0,o0⟩:=Bg (fun N=>Ho N) Tryz.underlying42 (hval 0 42 v0 rfl rfl) h0 (qy hz (j:=0) rfl rfl)
 obtain⟨x1,k1,o1⟩:=yv (fun N=>K5 N) (fun a=>rfl) Tryz.underlying65 (hval 1 65 v1 rfl rfl) h1 (qy hz (j:=1) rfl rfl)
 clear hA0
 simp only[List.append_nil] at hW' hA1
 have hlt:=hW'.lt
 have hv:aM (jh W) [] [mods x0,aP x1] [v0,v1]:=by
  simp only[aM]
  exact⟨_,_,rfl,k0,_,_,rfl,k1,rfl⟩
 refine (B7 good hOther (Kq hS) hv (by rw[t5 x0 o0.1 o0.2 x1];rfl)).mono fun e W' ⟨he,hb⟩=>?_
 subst he
 exact⟨_,rfl,sE (pv:=[]) hW' (fun _ _ _=>trodAll_cons_mk (shut_bool Tryz.underlying4 _) trodAll_mk0) (fun sp hsp=>
   yw kids xQ (by rw[Tryz.params5];decide +kernel) hA1 hlt hb sp hsp) (fun _ _=>rfl) (by simp)
  hb (ok_one (by kernel_rfl) rfl (okWide_bool_mk Tryz.underlying4 _))⟩
theorem reads(os:Os){H:Type}(enc:TypeId×Value→H):∃ ds places,DataW.whole enc Tryz.prog ((tt os).forCall (fun _ _=>0) ⟨#[],#[.slice none 0 0,.agg #[.string ⟨#[]⟩,.string ⟨#[]⟩]],[]⟩).memory Tryz.f5.params.toList Rows.reachStatedSpec.vars false #[.slice none 0 0,.agg #[.string ⟨#[]⟩,.string ⟨#[]⟩]].toList 8=some (ds,[],places):=
 ⟨[.nil,.agg [.lit (.string []),.lit (.string [])]],[],by kernel_rfl⟩
theorem lifted(os:Os)(started:os.Started)(H:Type)(enc:TypeId×Value→H)(F:Stop.Interp):
  ReturnsInHanded {} Tryz.checked os 5 .any ((OpenSpec.ofChange Rows.reachStatedSpec).preRow enc Tryz.prog Tryz.f5 Rows.reachStatedRow.domain false Rows.reachStatedRow.laid) (((OpenSpec.ofChange Rows.reachStatedSpec).at F).post enc Tryz.prog Tryz.f5 false true false false):=by
 obtain⟨ds,places,hx⟩:=reads os enc
 refine returnsInHanded_of_row (C:=Tryz.checked) (s:=OpenSpec.ofChange Rows.reachStatedSpec) Pp started (by kernel_rfl) Tryz.func5
  (witness_row_atRef (enc:=enc) (C:=Tryz.checked) false (tt os) #[.slice none 0 0,.agg #[.string ⟨#[]⟩,.string ⟨#[]⟩]] rfl (by kernel_rfl) (by kernel_rfl) (by kernel_rfl)
   (OpenSpec.preRow_of_cond 8 hx (by kernel_rfl) (fun k hk=>by cases hk) (by kernel_rfl) (laidMet_nil _ _))) ?_
 intro W base args ds gs before hval hW _ _ hz hL hS _
 exact D2 H enc W base args ds gs before hval hW hz hL hS
end Go.Proofs.YtkkabinknmldeaaGreat.reachStated
