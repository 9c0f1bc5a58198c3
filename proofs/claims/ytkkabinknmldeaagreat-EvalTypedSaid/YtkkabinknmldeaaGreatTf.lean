/- What the functions of the seat compute, part 6: the texts of the claim, one behind the other. Conditions: bounds, as each theorem names them. -/
import Derived.Test.YtkkabinknmldeaaGreatTe
import Derived.Test.YtkkabinknmldeaaGreatLd
set_option linter.unusedSimpArgs false
set_option linter.unusedVariables false
namespace Go.Proofs.YtkkabinknmldeaaGreat
open Go Go.Av Go.Av.Ap
set_option maxRecDepth 100000
def jv(name:aU):Ap.Mod:=⟨name,[],[],[],[],false,[],[],[]⟩
theorem NI(name:aU):CxOk (jv name) [] where
 vlen:=by simp[jv]
 vars:=nofun
 flen:=by simp[jv]
 ulen:=by simp[jv]
 plen:=nofun
 pars:=nofun
 res:=nofun
 slen:=nofun
 splen:=nofun
 spars:=nofun
 sres:=nofun
theorem Kj(name:aU)(ls:List bP)(hls:∀ z∈ls,eG z.2)(hll:ls.length≤1000)(e:Exp)(hr:cH 12 e=true)(he:e.Lim)(want:Ty)(hw:bN want=true):ai pg 144 [.str name,aK ls,e.av,want.av]=M.pure (.int .i64 (dz ls e want)):=by
 have R:JR [bh (jv name) .nilm 0] 0 (jv name) .nilm [] 0:=⟨rfl,.inl ⟨rfl,rfl⟩,by simp⟩
 obtain⟨p1,p2⟩:=Ns (NI name) 12 ls e 0 _ hr he hls (by omega) R
 have hc:eA (jv name) []=p9:=rfl
 rw[hc] at p1 p2
 have b0:aM T false 29 [(0,.str name)]=some (jv name).av:=rfl
 have b1:aM T true 120 [(0,(jv name).av)]=some (.agg (bh (jv name) .nilm 0)):=rfl
 have n1:∀ f:AV→M AV,ae (newH (bh (jv name) .nilm 0)) f []=f (.hp 0 0) [bh (jv name) .nilm 0]:=fun f=>rfl
 have fin:∀(h:Hp)(n:Int),ix 6 h (.int .i64 n)= .int .i64 n:=fun h n=>rfl
 have hne:=g9 p9 12 ls e 0
 rw[C144]
 unfold dz
 cases ht:bI p9 12 ls e 0 with
 | er b n=>
  rw[ht] at p1
  have hb:(b != 0)=true:=bne_iff_ne.2 (hne b n ht)
  have k1:∀ f:AV→M AV,ae (ai pg 51 [.hp 0 0,aK ls,e.av]) f [bh (jv name) .nilm 0]=f (.tup [ty0.av,.int .i64 b]) [bh (jv name) .nilm n]:=fun f=>aP p1 f
  refine bX (v:=.int .i64 b) (h':=[bh (jv name) .nilm n]) ?_ (fin _ _)
  simp[S144,b0,b1,n1,k1,hb]
  rfl
 | ok t n=>
  rw[ht] at p1
  have hts:=p2 t n ht
  have k1:∀ f:AV→M AV,ae (ai pg 51 [.hp 0 0,aK ls,e.av]) f [bh (jv name) .nilm 0]=f (.tup [t.av,.int .i64 0]) [bh (jv name) .nilm n]:=fun f=>aP p1 f
  have l1:∀ f:AV→M AV,ae (aR T 3 (.hp 0 10)) f [bh (jv name) .nilm n]=f (.int .i64 n) [bh (jv name) .nilm n]:=fun f=>rfl
  have hbl:=kD hts hw
  dsimp only
  by_cases hn:n=0
  ·subst hn
   rw[if_neg (by simp)]
   cases hb:bR t want with
   | true=>
    rw[hb] at hbl
    rw[if_pos rfl]
    refine bX (v:=.int .i64 0) (h':=[bh (jv name) .nilm 0]) ?_ (fin _ _)
    simp[S144,b0,b1,n1,k1,l1,hbl]
    rfl
   | false=>
    rw[hb] at hbl
    rw[if_neg (by decide)]
    refine bX (v:=.int .i64 13) (h':=[bh (jv name) .nilm 0]) ?_ (fin _ _)
    simp[S144,b0,b1,n1,k1,l1,hbl]
    rfl
  ·rw[if_pos hn]
   have hn':(n != 0)=true:=bne_iff_ne.2 hn
   refine bX (v:=.int .i64 14) (h':=[bh (jv name) .nilm n]) ?_ (fin _ _)
   simp[S144,b0,b1,n1,k1,l1,hn']
   rfl
def nh(x:aU×Int):AV:=.tup [.str x.1,.int .i64 x.2]
theorem m9(ls vs:List bP)(es:List Exp)(i:Nat)(hl:es.length=vs.length)(h:i < vs.length):(ff ls vs es).drop i=(vs[i].1,dz ls (es[i]'(by omega)) vs[i].2):: (ff ls vs es).drop (i + 1):=by
 have hi:i < (ff ls vs es).length:=by simp[ff,List.length_zip];omega
 rw[List.drop_eq_getElem_cons hi]
 congr 1
 simp[ff]
theorem oW(ls vs:List bP)(es:List Exp)(i:Nat)(h:vs.length≤i):(ff ls vs es).drop i=[]:=List.drop_eq_nil_of_le (by simp[ff,List.length_zip];omega)
structure MvOk (m:Ap.Mod):Prop where
 lim:m.Lim
 vlen:m.vars.length≤8
 vars:∀ z∈m.vars,bN z.2=true
 ilen:m.init.length=m.vars.length
 init:∀ e∈m.init,cH 12 e=true
 olen:m.old.length≤8
 old:∀ z∈m.old,bN z.2=true
 wlen:m.moves=true→m.forward.length=m.vars.length
 forw:∀ e∈m.forward,cH 12 e=true
 blen:m.back.length=m.old.length
 back:∀ e∈m.back,cH 12 e=true
theorem NO{m:Ap.Mod}(K:MvOk m):∀(k i:Nat),m.old.length - i=k→i≤m.old.length→
  aj (L50_0 (ai pg) aj) [.ip (ab m.av),aK m.old,.int .i64 m.old.length,.int .i64 i]=M.pure (nh (cj ((ff m.vars m.old m.back).drop i))):=by
 intro k
 induction k with
 | zero=>
  intro i hk hi
  have h1:¬ ((i:Int) < (m.old.length:Int)):=by omega
  rw[FL50_0,oW _ _ _ _ (by omega)]
  simp[L50_0,h1,cj,nh]
 | succ k ih=>
  intro i hk hi
  have hlt:i < m.old.length:=by omega
  have h1:(i:Int) < (m.old.length:Int):=by omega
  have hw:IntKind.i64.wrap ((i:Int) + 1)=(i:Int) + 1:=bq (by have:=K.olen;omega)
  have hix:=mD (l:=m.old) (n:=(i:Int)) (by omega) h1
  rw[Int.toNat_natCast,getElem!_pos m.old i hlt] at hix
  have hlt2:i < m.back.length:=by rw[K.blen];exact hlt
  have hix2:=lj (l:=m.back) (n:=(i:Int)) (by omega) (by have:=K.blen;omega)
  rw[Int.toNat_natCast,getElem!_pos m.back i hlt2] at hix2
  have hp:=Kj m.name m.vars (fun z hz=>fO (K.vars z hz)) (by have:=K.vlen;omega) m.back[i] (K.back _ (List.getElem_mem _)) (K.lim.bes _ (List.getElem_mem _)) m.old[i].2 (K.old _ (List.getElem_mem _))
  have ih':aj (L50_0 (ai pg) aj) [.ip (ab m.av),aK m.old,.int .i64 m.old.length,.int .i64 ((i:Int) + 1)]=_:=ih (i + 1) (by omega) (by omega)
  rw[FL50_0,m9 _ _ _ _ K.blen hlt,cj]
  simp only[br] at ih' ⊢
  generalize m.old[i]=z at hix hp ⊢
  generalize m.back[i]=e at hix2 hp ⊢
  by_cases hb:dz m.vars e z.2=0
  ·rw[hb] at hp
   rw[if_pos hb]
   simp[L50_0,h1,hix,hix2,hp,hw,ih']
  ·rw[if_neg hb]
   have hb':(dz m.vars e z.2 != 0)=true:=bne_iff_ne.2 hb
   simp[L50_0,h1,hix,hix2,hp,hb',nh]
theorem NP{m:Ap.Mod}(K:MvOk m)(hm:m.moves=true):∀(k i:Nat),m.vars.length - i=k→i≤m.vars.length→
  aj (L50_1 (ai pg) aj) [.ip (ab m.av),aK m.vars,.int .i64 m.vars.length,.int .i64 i]=M.pure (nh (cj ((ff m.old m.vars m.forward).drop i++ff m.vars m.old m.back))):=by
 intro k
 induction k with
 | zero=>
  intro i hk hi
  have h1:¬ ((i:Int) < (m.vars.length:Int)):=by omega
  have h0:=NO K m.old.length 0 rfl (Nat.zero_le _)
  have h0':aj (L50_0 (ai pg) aj) [.ip (ab m.av),aK m.old,.int .i64 m.old.length,.int .i64 0]=M.pure (nh (cj (ff m.vars m.old m.back))):=h0
  rw[FL50_1,oW _ _ _ _ (by omega),List.nil_append]
  simp only[br] at h0' ⊢
  simp[L50_1,h1,h0']
 | succ k ih=>
  intro i hk hi
  have hlt:i < m.vars.length:=by omega
  have h1:(i:Int) < (m.vars.length:Int):=by omega
  have hw:IntKind.i64.wrap ((i:Int) + 1)=(i:Int) + 1:=bq (by have:=K.vlen;omega)
  have hix:=mD (l:=m.vars) (n:=(i:Int)) (by omega) h1
  rw[Int.toNat_natCast,getElem!_pos m.vars i hlt] at hix
  have hwl:=K.wlen hm
  have hlt2:i < m.forward.length:=by omega
  have hix2:=lj (l:=m.forward) (n:=(i:Int)) (by omega) (by omega)
  rw[Int.toNat_natCast,getElem!_pos m.forward i hlt2] at hix2
  have hp:=Kj m.name m.old (fun z hz=>fO (K.old z hz)) (by have:=K.olen;omega) m.forward[i] (K.forw _ (List.getElem_mem _)) (K.lim.fes _ (List.getElem_mem _)) m.vars[i].2 (K.vars _ (List.getElem_mem _))
  have ih':aj (L50_1 (ai pg) aj) [.ip (ab m.av),aK m.vars,.int .i64 m.vars.length,.int .i64 ((i:Int) + 1)]=_:=ih (i + 1) (by omega) (by omega)
  rw[FL50_1,m9 _ _ _ _ hwl hlt,List.cons_append,cj]
  simp only[br] at ih' ⊢
  generalize m.vars[i]=z at hix hp ⊢
  generalize m.forward[i]=e at hix2 hp ⊢
  by_cases hb:dz m.old e z.2=0
  ·rw[hb] at hp
   rw[if_pos hb]
   simp[L50_1,h1,hix,hix2,hp,hw,ih']
  ·rw[if_neg hb]
   have hb':(dz m.old e z.2 != 0)=true:=bne_iff_ne.2 hb
   simp[L50_1,h1,hix,hix2,hp,hb',nh]
theorem NQ{m:Ap.Mod}(K:MvOk m):∀(k i:Nat),m.vars.length - i=k→i≤m.vars.length→
  aj (L50_2 (ai pg) aj) [.ip (ab m.av),aK m.vars,.int .i64 m.vars.length,.int .i64 i]=M.pure (nh (cj ((ff [] m.vars m.init).drop i++if m.moves=true then ff m.old m.vars m.forward++ff m.vars m.old m.back else []))):=by
 intro k
 induction k with
 | zero=>
  intro i hk hi
  have h1:¬ ((i:Int) < (m.vars.length:Int)):=by omega
  rw[FL50_2,oW _ _ _ _ (by omega),List.nil_append]
  cases hm:m.moves with
  | true=>
   have h0:=NP K hm m.vars.length 0 rfl (Nat.zero_le _)
   have h0':aj (L50_1 (ai pg) aj) [.ip (ab m.av),aK m.vars,.int .i64 m.vars.length,.int .i64 0]=M.pure (nh (cj (ff m.old m.vars m.forward++ff m.vars m.old m.back))):=h0
   simp only[br,hm] at h0' ⊢
   simp[L50_2,h1,h0']
  | false=>
   simp only[br,hm]
   simp[L50_2,h1,nh,cj]
 | succ k ih=>
  intro i hk hi
  have hlt:i < m.vars.length:=by omega
  have h1:(i:Int) < (m.vars.length:Int):=by omega
  have hw:IntKind.i64.wrap ((i:Int) + 1)=(i:Int) + 1:=bq (by have:=K.vlen;omega)
  have hix:=mD (l:=m.vars) (n:=(i:Int)) (by omega) h1
  rw[Int.toNat_natCast,getElem!_pos m.vars i hlt] at hix
  have hwl:=K.ilen
  have hlt2:i < m.init.length:=by omega
  have hix2:=lj (l:=m.init) (n:=(i:Int)) (by omega) (by omega)
  rw[Int.toNat_natCast,getElem!_pos m.init i hlt2] at hix2
  have hp0:=Kj m.name [] (fun z hz=>by cases hz) (by simp) m.init[i] (K.init _ (List.getElem_mem _)) (K.lim.ies _ (List.getElem_mem _)) m.vars[i].2 (K.vars _ (List.getElem_mem _))
  have hp:ai pg 144 [.str m.name,.sl [],m.init[i].av,m.vars[i].2.av]=M.pure (.int .i64 (dz [] m.init[i] m.vars[i].2)):=hp0
  have ih':aj (L50_2 (ai pg) aj) [.ip (ab m.av),aK m.vars,.int .i64 m.vars.length,.int .i64 ((i:Int) + 1)]=_:=ih (i + 1) (by omega) (by omega)
  rw[FL50_2,m9 _ _ _ _ hwl hlt,List.cons_append,cj]
  simp only[br] at ih' ⊢
  generalize m.vars[i]=z at hix hp ⊢
  generalize m.init[i]=e at hix2 hp ⊢
  by_cases hb:dz [] e z.2=0
  ·rw[hb] at hp
   rw[if_pos hb]
   simp[L50_2,h1,hix,hix2,hp,hw,ih']
  ·rw[if_neg hb]
   have hb':(dz [] e z.2 != 0)=true:=bne_iff_ne.2 hb
   simp[L50_2,h1,hix,hix2,hp,hb',nh]
theorem NU{m:Ap.Mod}(K:MvOk m):ai pg 50 [m.av]=M.pure (nh (jR m)):=by
 have h0:=NQ K m.vars.length 0 rfl (Nat.zero_le _)
 have h0':aj (L50_2 (ai pg) aj) [.ip (ab m.av),aK m.vars,.int .i64 m.vars.length,.int .i64 0]=M.pure (nh (jR m)):=h0
 rw[C50]
 simp only[br] at h0'
 simp[S50,h0']
 exact bM fun g=>by simp[nh,cl,dL]
def setRow(ns:List aU):List AV:=ns.map fun s=>.tup [.str s,.bool true]
theorem JQ(a b:aU):BO T 20 9 (.str a) (.str b)=some (a== b):=rfl
theorem oD(s:aU):(ns:List aU)→(i:Nat)→(ns.contains s=false∧fF T 9 (.str s) (setRow ns) i=some none)∨(ns.contains s=true∧∃(j:Nat)(k:AV),fF T 9 (.str s) (setRow ns) i=some (some (j,k,.bool true)))
 | [],i=>.inl ⟨rfl,rfl⟩
 | x:: ns,i=>by
  show (_∧fF T 9 (.str s) (.tup [.str x,.bool true]:: setRow ns) i=_)∨(_∧∃(j:Nat)(k:AV),fF T 9 (.str s) (.tup [.str x,.bool true]:: setRow ns) i=_)
  unfold fF
  rw[JQ,List.contains_cons]
  cases h:s== x with
  | true=>exact .inr ⟨rfl,i,.str x,rfl⟩
  | false=>
   rcases oD s ns (i + 1) with ⟨h1,h2⟩ | ⟨h1,j,k,h2⟩
   ·exact .inl ⟨by rw[h1];rfl,h2⟩
   ·exact .inr ⟨by rw[h1];rfl,j,k,h2⟩
theorem rE{h:Hp}{l:Nat}{ns:List aU}(hl:h[l]? = some [.tup (setRow ns)])(s:aU):fw T 125 (.mp l) (.str s) false h= .ok (.bool (ns.contains s)) h:=by
 have e:pI T 125 (setRow ns) (.str s) false=(match fF T 9 (.str s) (setRow ns) 0 with
   | some (some (_,_,v))=>some v
   | some none=>some (.bool false)
   | none=>none):=rfl
 unfold fw lG
 simp only[hl]
 rw[e]
 rcases oD s ns 0 with ⟨h1,h2⟩ | ⟨h1,j,k,h2⟩
 ·rw[h2,h1]
 ·rw[h2,h1]
theorem vt{h:Hp}{l:Nat}{ns:List aU}(hl:h[l]? = some [.tup (setRow ns)])(s:aU)(hs:ns.contains s=false):nY T 125 (.mp l) (.str s) (.bool true) h= .ok (.tup []) (h.set l [.tup (setRow (ns++[s]))]):=by
 have e:nY T 125 (.mp l) (.str s) (.bool true) h=(match h[l]? with
   | some [.tup es]=>(match xH T 9 es (.str s) (.bool true) with
    | some es'=>.ok (.tup []) (h.set l [.tup es'])
    | none=>.fail)
   | _=>.fail):=rfl
 rw[e,hl]
 simp only
 unfold xH
 rcases oD s ns 0 with ⟨h1,h2⟩ | ⟨h1,j,k,h2⟩
 ·rw[h2]
  simp[setRow]
 ·rw[h1] at hs
  cases hs
theorem J8(l:List bP)(hb:l.length≤140737488355328)(ht:∀ f∈l,f.2.Lim)(most:Int)(q:Nat):∀(n i:Nat),l.length - i=n→i≤l.length→∀(seen:List aU)(h:Hp),h[q]? = some [.tup (setRow seen)]→
  ∃ h',aj (L54_0 (ai pg) aj) [aK l,.int .i64 most,.mp q,aK l,.int .i64 l.length,.int .i64 i] h= .ok (.bool (xE seen (l.drop i)&&decide ((l.length:Int)≤most))) h':=by
 intro n
 induction n with
 | zero=>
  intro i hn hi seen h hq
  rw[FL54_0]
  have h1:¬ ((i:Int) < (l.length:Int)):=by omega
  have h2:l.drop i=[]:=List.drop_eq_nil_of_le (by omega)
  rw[h2]
  exact⟨h,by simp[L54_0,h1,xE,M.pure]⟩
 | succ n ih=>
  intro i hn hi seen h hq
  have hlt:i < l.length:=by omega
  have h1:(i:Int) < (l.length:Int):=by omega
  have h2:l.drop i=l[i]:: l.drop (i + 1):=List.drop_eq_getElem_cons hlt
  have hw:IntKind.i64.wrap ((i:Int) + 1)=((i + 1:Nat):Int):=bq (by omega)
  have hix:=mD (l:=l) (n:=(i:Int)) (by omega) h1
  rw[Int.toNat_natCast,getElem!_pos l i hlt] at hix
  have hfl:=ht _ (List.getElem_mem hlt)
  have ih':=fun s=>ih (i + 1) (by omega) (by omega) (seen++[s]) (h.set q [.tup (setRow (seen++[s]))])
  have hql:q < h.length:=(List.getElem?_eq_some_iff.1 hq).1
  rw[h2]
  generalize l[i]=f at hix hfl ⊢
  have hlk:=rE hq f.1
  have hnm:=t53 f.1
  have hty:=t55 f.2 hfl
  have hcf:aH 3 (bF f)=M.pure (bF f):=by rw[ba (ir f),df,ij]
  generalize hcode:aj (L54_0 (ai pg) aj) [aK l,.int .i64 most,.mp q,aK l,.int .i64 l.length,.int .i64 i] h=code
  rw[FL54_0] at hcode
  simp -implicitDefEqProofs only[L54_0,aL,aS,bz,ar,h1,decide_true,aA,if_true,hix,df,LD87,List.length_cons,List.length_nil,Nat.zero_add,Nat.reduceAdd,Nat.le_refl,List.take_succ_cons,List.take_zero,ij,hcf,aB,FA87_0,FA87_1,List.drop_zero,List.drop_succ_cons,LD9] at hcode
  rw[aP hlk] at hcode
  have eo:xE seen (f:: l.drop (i + 1))=(!(seen.contains f.1)&&de f.1&&bN f.2&&xE (seen++[f.1]) (l.drop (i + 1))):=rfl
  rw[eo]
  cases hc:seen.contains f.1 with
  | true=>
   rw[hc] at hcode
   refine⟨h,?_⟩
   rw[← hcode]
   simp[M.pure]
  | false=>
   rw[hc] at hcode
   cases hn2:de f.1 with
   | false=>
    rw[hn2] at hnm
    refine⟨h,?_⟩
    rw[← hcode]
    simp[hnm,M.pure]
   | true=>
    rw[hn2] at hnm
    cases hr:bN f.2 with
    | false=>
     rw[hr] at hty
     refine⟨h,?_⟩
     rw[← hcode]
     simp[hnm,hty,M.pure]
    | true=>
     rw[hr] at hty
     obtain⟨h',e'⟩:=ih' f.1 (by rw[List.getElem?_set_self hql])
     refine⟨h',?_⟩
     have hp:=vt hq f.1 hc
     rw[← hcode]
     simp -implicitDefEqProofs only[hnm,hty,aB,ga,dS,Bool.not_true,Bool.not_false,aL,l6,aA,Bool.false_eq_true,if_false,LD72,List.length_cons,List.length_nil,Nat.zero_add,Nat.reduceAdd,Nat.le_refl,if_true,List.take_succ_cons,List.take_zero,eP,ar]
     rw[aP hp]
     simp only[cX,ar,hw,e',Bool.true_and]
theorem t54(l:List bP)(hb:l.length≤140737488355328)(ht:∀ f∈l,f.2.Lim)(most:Int):ai pg 54 [aK l,.int .i64 most]=M.pure (.bool (gl l most)):=by
 obtain⟨h',e⟩:=J8 l hb ht most 0 l.length 0 rfl (Nat.zero_le _) [] ([]++[[.tup []]]) rfl
 rw[List.drop_zero] at e
 rw[C54]
 funext hp
 have key:S54 (ai pg) aj (cl aw (aK l)) (cl aw (.int .i64 most)) []= .ok (.bool (gl l most)) h':=by
  rw[Ay,yT]
  have hn:gb []= .ok (.mp 0) ([]++[[.tup []]]):=rfl
  simp -implicitDefEqProofs only[S54]
  rw[aP hn]
  simp only[qv,ar]
  exact e
 show aE _ hp=R.ok (.bool (gl l most)) hp
 unfold aE
 rw[key]
 rfl
theorem t57(l:List Exp)(hb:l.length≤140737488355328)(ht:∀ e∈l,e.Lim)(n:Int):ai pg 57 [cb l,.int .i64 n]=M.pure (.bool (l.all A9&&((l.length:Int)== n))):=by
 have hloop:∀(m i:Nat),l.length - i=m→i≤l.length→aj (L57_0 (ai pg) aj) [cb l,.int .i64 n,cb l,.int .i64 l.length,.int .i64 i]=M.pure (.bool ((l.drop i).all A9&&((l.length:Int)== n))):=by
  intro m
  induction m with
  | zero=>
   intro i hm hi
   rw[FL57_0]
   have h1:¬ ((i:Int) < (l.length:Int)):=by omega
   have h2:l.drop i=[]:=List.drop_eq_nil_of_le (by omega)
   simp[L57_0,h1,h2]
  | succ m ih=>
   intro i hm hi
   have hlt:i < l.length:=by omega
   have h1:(i:Int) < (l.length:Int):=by omega
   have h2:l.drop i=l[i]:: l.drop (i + 1):=List.drop_eq_getElem_cons hlt
   have hw:IntKind.i64.wrap ((i:Int) + 1)=((i + 1:Nat):Int):=bq (by omega)
   have hix:=lj (l:=l) (n:=(i:Int)) (by omega) h1
   rw[Int.toNat_natCast,getElem!_pos l i hlt] at hix
   have hr:=t56 l[i] (ht _ (List.getElem_mem hlt))
   have ih':=ih (i + 1) (by omega) (by omega)
   rw[h2,List.all_cons,FL57_0]
   generalize l[i]=e at hix hr ⊢
   cases hb2:A9 e <;> rw[hb2] at hr <;>
   simp only[L57_0,aL,aS,bz,ar,h1,decide_true,aA,if_true,hix,a7,LD74,List.length_cons,List.length_nil,Nat.zero_add,Nat.reduceAdd,Nat.le_refl,List.take_succ_cons,List.take_zero,f8,uK,aB,hr,dS,Bool.not_true,Bool.not_false,Bool.false_eq_true,if_false,cX,hw,ih',Bool.true_and,Bool.false_and]
 have h:=hloop l.length 0 rfl (Nat.zero_le _)
 rw[List.drop_zero] at h
 have h':aj (L57_0 (ai pg) aj) [cb l,.int .i64 n,cb l,.int .i64 l.length,.int .i64 0]=M.pure (.bool (l.all A9&&((l.length:Int)== n))):=h
 rw[C57]
 simp[S57,h']
theorem Hk(f:Fun):aH 12 f.av=M.pure f.av:=by rw[ba (jh f),dT,lK]
theorem HJ (m:Ap.Mod) (hm:m.Lim) (q:Nat) (R:Bool) (hend:∀ h:Hp,∃ h',aj (L13_0 (ai pg) aj) [.ip (ab m.av),.mp q,eW m.funcs,.int .i64 m.funcs.length,.int .i64 m.funcs.length] h= .ok (.bool R) h'):∀(n i:Nat),m.funcs.length - i=n→i≤m.funcs.length→∀(seen:List aU)(h:Hp),h[q]? = some [.tup (setRow seen)]→
  ∃ h',aj (L13_0 (ai pg) aj) [.ip (ab m.av),.mp q,eW m.funcs,.int .i64 m.funcs.length,.int .i64 i] h= .ok (.bool (pL seen (m.funcs.drop i)&&R)) h':=by
 have hb:=hm.funcs
 intro n
 induction n with
 | zero=>
  intro i hn hi seen h hq
  have h2:m.funcs.drop i=[]:=List.drop_eq_nil_of_le (by omega)
  obtain rfl:i=m.funcs.length:=by omega
  rw[h2]
  exact hend h
 | succ n ih=>
  intro i hn hi seen h hq
  have hlt:i < m.funcs.length:=by omega
  have h1:(i:Int) < (m.funcs.length:Int):=by omega
  have h2:m.funcs.drop i=m.funcs[i]:: m.funcs.drop (i + 1):=List.drop_eq_getElem_cons hlt
  have hw:IntKind.i64.wrap ((i:Int) + 1)=((i + 1:Nat):Int):=bq (by omega)
  have hix:=sE (l:=m.funcs) (n:=(i:Int)) (by omega) h1
  rw[Int.toNat_natCast,getElem!_pos m.funcs i hlt] at hix
  have hfl:=hm.fns _ (List.getElem_mem hlt)
  have ih':=fun s=>ih (i + 1) (by omega) (by omega) (seen++[s]) (h.set q [.tup (setRow (seen++[s]))])
  have hql:q < h.length:=(List.getElem?_eq_some_iff.1 hq).1
  rw[h2]
  generalize m.funcs[i]=f at hix hfl ⊢
  have hlk:=rE hq f.name
  have hnm:=t53 f.name
  have hps:=t54 f.params hfl.params hfl.pty 6
  have hty:=t55 f.result hfl.result
  have hre:=t56 f.body hfl.body
  have hex:am T .andNot 3 (.int .i64 f.effects) (.int .i64 15)=some (.int .i64 (ee f.effects 15)):=rfl
  generalize hcode:aj (L13_0 (ai pg) aj) [.ip (ab m.av),.mp q,eW m.funcs,.int .i64 m.funcs.length,.int .i64 i] h=code
  rw[FL13_0] at hcode
  simp -implicitDefEqProofs only[L13_0,aL,aS,bz,ar,h1,decide_true,aA,if_true,hix,dT,LD76,List.length_cons,List.length_nil,Nat.zero_add,Nat.reduceAdd,Nat.le_refl,List.take_succ_cons,List.take_zero,lK,Hk,aB,FA76_0,List.drop_zero,LD9] at hcode
  rw[aP hlk] at hcode
  have eo:pL seen (f:: m.funcs.drop (i + 1))=(!(seen.contains f.name)&&B9 f&&pL (seen++[f.name]) (m.funcs.drop (i + 1))):=rfl
  rw[eo]
  unfold B9
  cases hc:seen.contains f.name with
  | true=>
   rw[hc] at hcode
   refine⟨h,?_⟩
   rw[← hcode]
   simp[M.pure]
  | false=>
   rw[hc] at hcode
   cases hn2:de f.name with
   | false=>rw[hn2] at hnm;refine⟨h,?_⟩;rw[← hcode];simp[hnm,M.pure]
   | true=>
    rw[hn2] at hnm
    cases hp2:gl f.params 6 with
    | false=>rw[hp2] at hps;refine⟨h,?_⟩;rw[← hcode];simp[hnm,hps,M.pure]
    | true=>
     rw[hp2] at hps
     cases hr:bN f.result with
     | false=>rw[hr] at hty;refine⟨h,?_⟩;rw[← hcode];simp[hnm,hps,hty,M.pure]
     | true=>
      rw[hr] at hty
      cases hrb:A9 f.body with
      | false=>rw[hrb] at hre;refine⟨h,?_⟩;rw[← hcode];simp[hnm,hps,hty,hre,M.pure]
      | true=>
       rw[hrb] at hre
       by_cases he:ee f.effects 15=0
       ·obtain⟨h',e'⟩:=ih' f.name (by rw[List.getElem?_set_self hql])
        refine⟨h',?_⟩
        have hp:=vt hq f.name hc
        rw[← hcode]
        have e'':=e'
        simp only[br] at e''
        simp[hnm,hps,hty,hre,hex,he]
        rw[aP hp]
        simpa [hw] using e''
       ·refine⟨h,?_⟩
        rw[← hcode]
        have he':(ee f.effects 15== 0)=false:=beq_eq_false_iff_ne.2 he
        simp[hnm,hps,hty,hre,hex,he,he',M.pure]
theorem Lz (m:Ap.Mod) (hm:m.Lim) (q:Nat) (h:Hp):∃ h',aj (L13_0 (ai pg) aj) [.ip (ab m.av),.mp q,eW m.funcs,.int .i64 m.funcs.length,.int .i64 m.funcs.length] h= .ok (.bool (tZ m)) h':=by
 have hnm:=t53 m.name
 have hv:=t54 m.vars hm.vars hm.vty 8
 have hi:=t57 m.init hm.init hm.ies m.vars.length
 have ho:=t54 m.old hm.old hm.oty 8
 have hf:=fun n=>t57 m.forward hm.forward hm.fes n
 have hb:=t57 m.back hm.back hm.bes m.old.length
 refine⟨h,?_⟩
 rw[FL13_0]
 unfold tZ
 generalize gl m.vars 8=b1 at hv ⊢
 generalize (m.init.all A9&&((m.init.length:Int)== (m.vars.length:Int)))=b2 at hi ⊢
 generalize gl m.old 8=b3 at ho ⊢
 generalize (m.back.all A9&&((m.back.length:Int)== (m.old.length:Int)))=b4 at hb ⊢
 cases hn:de m.name with
 | false=>rw[hn] at hnm;simp[L13_0,hnm,M.pure]
 | true =>
  rw[hn] at hnm
  by_cases hu:m.uses.length≤12
  ·have hu':¬ (12 < (m.uses.length:Int)):=by omega
   by_cases hfn:m.funcs.length≤30
   ·have hfn':¬ (30 < (m.funcs.length:Int)):=by omega
    cases b1 with
    | false=>simp[L13_0,hnm,hu,hu',hfn,hfn',hv,M.pure]
    | true=>
     cases b2 with
     | false=>simp[L13_0,hnm,hu,hu',hfn,hfn',hv,hi,M.pure]
     | true=>
      cases hmv:m.moves with
      | true=>
       have hfv:=hf m.vars.length
       rw[if_pos rfl]
       generalize (m.forward.all A9&&((m.forward.length:Int)== (m.vars.length:Int)))=b5 at hfv ⊢
       cases b3 <;> cases b5 <;> cases b4 <;> simp[L13_0,K13_0,hnm,hu,hu',hfn,hfn',hv,hi,ho,hfv,hb,hmv,M.pure]
      | false=>
       have hfv:=hf 0
       rw[if_neg (by decide)]
       generalize (m.forward.all A9&&((m.forward.length:Int)== 0))=b5 at hfv ⊢
       by_cases hz:0 < m.old.length
       ·have hz':0 < (m.old.length:Int):=by omega
        have hz2:¬ m.old.length=0:=by omega
        simp[L13_0,K13_0,hnm,hu,hu',hfn,hfn',hv,hi,hmv,hz,hz',hz2,M.pure]
       ·have hz':¬ 0 < (m.old.length:Int):=by omega
        have hz2:m.old.length=0:=by omega
        have hb0:ai pg 57 [cb m.back,.int .i64 0]=M.pure (.bool b4):=by
         rw[hz2] at hb
         exact hb
        cases b3 <;> cases b5 <;> cases b4 <;> simp[L13_0,K13_0,hnm,hu,hu',hfn,hfn',hv,hi,ho,hfv,hb0,hmv,hz,hz',hz2,M.pure]
   ·have hfn':30 < (m.funcs.length:Int):=by omega
    simp[L13_0,hnm,hu,hu',hfn,hfn',M.pure]
  ·have hu':12 < (m.uses.length:Int):=by omega
   simp[L13_0,hnm,hu,hu',M.pure]
theorem HK(m:Ap.Mod)(hm:m.Lim)(q:Nat)(R:Bool)(hend:∀ h:Hp,∃ h',aj (L13_1 (ai pg) aj) [.ip (ab m.av),.mp q,strs m.uses,.int .i64 m.uses.length,.int .i64 m.uses.length] h= .ok (.bool R) h'):∀(n i:Nat),m.uses.length - i=n→i≤m.uses.length→∀(seen:List aU)(h:Hp),h[q]? = some [.tup (setRow seen)]→
  ∃ h',aj (L13_1 (ai pg) aj) [.ip (ab m.av),.mp q,strs m.uses,.int .i64 m.uses.length,.int .i64 i] h= .ok (.bool (FV seen (m.uses.drop i)&&R)) h':=by
 have hb:=hm.uses
 intro n
 induction n with
 | zero=>
  intro i hn hi seen h hq
  have h2:m.uses.drop i=[]:=List.drop_eq_nil_of_le (by omega)
  obtain rfl:i=m.uses.length:=by omega
  rw[h2]
  exact hend h
 | succ n ih=>
  intro i hn hi seen h hq
  have hlt:i < m.uses.length:=by omega
  have h1:(i:Int) < (m.uses.length:Int):=by omega
  have h2:m.uses.drop i=m.uses[i]:: m.uses.drop (i + 1):=List.drop_eq_getElem_cons hlt
  have hw:IntKind.i64.wrap ((i:Int) + 1)=((i + 1:Nat):Int):=bq (by omega)
  have hix:=sD (l:=m.uses) (n:=(i:Int)) (by omega) h1
  rw[Int.toNat_natCast,getElem!_pos m.uses i hlt] at hix
  have ih':=fun s=>ih (i + 1) (by omega) (by omega) (seen++[s]) (h.set q [.tup (setRow (seen++[s]))])
  have hql:q < h.length:=(List.getElem?_eq_some_iff.1 hq).1
  rw[h2]
  generalize m.uses[i]=s at hix ⊢
  have hlk:=rE hq s
  have hnm:=t53 s
  generalize hcode:aj (L13_1 (ai pg) aj) [.ip (ab m.av),.mp q,strs m.uses,.int .i64 m.uses.length,.int .i64 i] h=code
  rw[FL13_1] at hcode
  simp -implicitDefEqProofs only[L13_1,aL,aS,bz,ar,h1,decide_true,aA,if_true,hix,gA,LD9] at hcode
  rw[aP hlk] at hcode
  have eo:FV seen (s:: m.uses.drop (i + 1))=(!(seen.contains s)&&de s&&FV (seen++[s]) (m.uses.drop (i + 1))):=rfl
  rw[eo]
  cases hc:seen.contains s with
  | true=>
   rw[hc] at hcode
   refine⟨h,?_⟩
   rw[← hcode]
   simp[M.pure]
  | false=>
   rw[hc] at hcode
   cases hn2:de s with
   | false=>rw[hn2] at hnm;refine⟨h,?_⟩;rw[← hcode];simp[hnm,M.pure]
   | true=>
    rw[hn2] at hnm
    obtain⟨h',e'⟩:=ih' s (by rw[List.getElem?_set_self hql])
    refine⟨h',?_⟩
    have hp:=vt hq s hc
    rw[← hcode]
    have e'':=e'
    simp only[br] at e''
    simp[hnm]
    rw[aP hp]
    simpa [hw] using e''
theorem t13(m:Ap.Mod)(hm:m.Lim):ai pg 13 [m.av]=M.pure (.bool (jm m)):=by
 have hend:∀ h:Hp,∃ h',aj (L13_1 (ai pg) aj) [.ip (ab m.av),.mp 0,strs m.uses,.int .i64 m.uses.length,.int .i64 m.uses.length] h= .ok (.bool (pL [] m.funcs&&tZ m)) h':=fun h=>by
  have h1:¬ ((m.uses.length:Int) < (m.uses.length:Int)):=by omega
  obtain⟨h',e⟩:=HJ m hm h.length (tZ m) (fun h=>Lz m hm _ h) m.funcs.length 0 rfl (Nat.zero_le _) [] (h++[[.tup []]]) (by simp[setRow])
  rw[List.drop_zero] at e
  refine⟨h',?_⟩
  rw[FL13_1]
  have hn:gb h= .ok (.mp h.length) (h++[[.tup []]]):=rfl
  simp only[br] at e
  simp -implicitDefEqProofs only[L13_1,aL,aS,bz,ar,h1,decide_false,aA,Bool.false_eq_true,if_false]
  rw[aP hn]
  simp only[br,FA29_4,List.drop_succ_cons,List.drop_zero,ar,LD25,Jm]
  exact e
 obtain⟨h',e⟩:=HK m hm 0 _ hend m.uses.length 0 rfl (Nat.zero_le _) [] ([]++[[.tup []]]) rfl
 rw[List.drop_zero] at e
 rw[C13]
 funext hp
 have key:S13 (ai pg) aj (cl aw m.av) []= .ok (.bool (jm m)) h':=by
  have hn:gb []= .ok (.mp 0) ([]++[[.tup []]]):=rfl
  simp only[br] at e
  rw[uH]
  simp -implicitDefEqProofs only[S13]
  rw[aP hn]
  simp only[br,FA29_1,List.drop_succ_cons,List.drop_zero,ar,LD22,qu]
  exact e
 show aE _ hp=R.ok (.bool (jm m)) hp
 unfold aE
 rw[key]
 rfl
theorem Nb{m:Ap.Mod}(hm:m.Lim)(K:ModOk m):MvOk m:=⟨hm,K.vlen,K.vars,K.ilen,K.init,K.olen,K.old,K.wlen,K.forw,K.blen,K.back⟩
theorem M6{m:Ap.Mod}(K:ModOk m){fs:List Face}(hfs:∀ f∈fs,f.Lim)(ha:∀ f∈fs,iB f=true):CxOk m fs where
 vlen:=by have:=K.vlen;omega
 vars:=K.vars
 flen:=by have:=K.flen;omega
 ulen:=by have:=K.ulen;omega
 plen:=fun f hf=>by have:=(K.fns f hf).plen;omega
 pars:=fun f hf=>(K.fns f hf).pars
 res:=fun f hf=>(K.fns f hf).res
 slen:=fun f hf=>(hfs f hf).len
 splen:=fun f hf s hs=>((hfs f hf).sigs s hs).plen
 spars:=fun f hf s hs t ht=>by
  have:=ha f hf
  unfold iB at this
  rw[List.all_eq_true] at this
  have h2:=this s hs
  simp only[Bool.and_eq_true,List.all_eq_true] at h2
  exact h2.2 t ht
 sres:=fun f hf s hs=>by
  have:=ha f hf
  unfold iB at this
  rw[List.all_eq_true] at this
  have h2:=this s hs
  simp only[Bool.and_eq_true] at h2
  exact h2.1
def CX(m:Ap.Mod)(fs:List Face):List (aU×Int):=m.funcs.map fun f=>(f.name,CY (eA m fs) f)
theorem Hc{m:Ap.Mod}(hm:m.Lim)(MK:ModOk m){fs:List Face}(K:CxOk m fs){q:Nat}{mp:AV}:∀(k i:Nat)(n:Int)(h:Hp),m.funcs.length - i=k→i≤m.funcs.length→JR h q m mp fs n→
  ∃ h',aj (L12_0 (ai pg) aj) [.hp q 0,eW m.funcs,.int .i64 m.funcs.length,.int .i64 i] h= .ok (nh (cj ((CX m fs).drop i))) h':=by
 intro k
 have hfl:=MK.flen
 induction k with
 | zero=>
  intro i n h hk hi R
  have h1:¬ ((i:Int) < (m.funcs.length:Int)):=by omega
  have h2:(CX m fs).drop i=[]:=List.drop_eq_nil_of_le (by simp[CX];omega)
  refine⟨h,?_⟩
  rw[FL12_0,h2]
  simp[L12_0,h1]
  rfl
 | succ k ih=>
  intro i n h hk hi R
  have hlt:i < m.funcs.length:=by omega
  have h1:(i:Int) < (m.funcs.length:Int):=by omega
  have h2:(CX m fs).drop i=(m.funcs[i].name,CY (eA m fs) m.funcs[i]):: (CX m fs).drop (i + 1):=by
   rw[List.drop_eq_getElem_cons (by simp[CX];exact hlt)]
   simp[CX]
  have hw:IntKind.i64.wrap ((i:Int) + 1)=(i:Int) + 1:=bq (by omega)
  have hix:=sE (l:=m.funcs) (n:=(i:Int)) (by omega) h1
  rw[Int.toNat_natCast,getElem!_pos m.funcs i hlt] at hix
  have hf:=MK.fns _ (List.getElem_mem hlt)
  have hfl2:=hm.fns _ (List.getElem_mem hlt)
  rw[h2,cj]
  generalize m.funcs[i]=f at hix hf hfl2 ⊢
  have R1:=R.set 0
  obtain⟨p1,p2⟩:=Ns K 12 f.params f.body 0 _ hf.body hfl2.body (fun z hz=>fO (hf.pars z hz)) (by have:=hf.plen;omega) R1
  have s1:∀ g:AV→M AV,ae (bo T 3 (.hp q 10) (.int .i64 0)) g h=g (.tup []) (h.set q (bh m mp 0)):=fun g=>aP (R.put 0) g
  rw[FL12_0]
  have hne:=g9 (eA m fs) 12 f.params f.body 0
  cases ht:bI (eA m fs) 12 f.params f.body 0 with
  | er b n'=>
   rw[ht] at p1
   have hb0:=hne b n' ht
   have hb:(b != 0)=true:=bne_iff_ne.2 hb0
   have k1:∀ g:AV→M AV,ae (ai pg 51 [.hp q 0,aK f.params,f.body.av]) g (h.set q (bh m mp 0))=g (.tup [ty0.av,.int .i64 b]) ((h.set q (bh m mp 0)).set q (bh m mp n')):=fun g=>aP p1 g
   have hx:CY (eA m fs) f=b:=by unfold CY;rw[ht]
   rw[hx]
   dsimp only
   rw[if_neg hb0]
   refine⟨(h.set q (bh m mp 0)).set q (bh m mp n'),?_⟩
   simp[L12_0,h1,hix,s1,k1,hb]
   rfl
  | ok t n'=>
   rw[ht] at p1
   have k1:∀ g:AV→M AV,ae (ai pg 51 [.hp q 0,aK f.params,f.body.av]) g (h.set q (bh m mp 0))=g (.tup [t.av,.int .i64 0]) ((h.set q (bh m mp 0)).set q (bh m mp n')):=fun g=>aP p1 g
   have R2:=R1.set n'
   have l1:∀ g:AV→M AV,ae (aR T 3 (.hp q 10)) g ((h.set q (bh m mp 0)).set q (bh m mp n'))=g (.int .i64 n') ((h.set q (bh m mp 0)).set q (bh m mp n')):=fun g=>aP R2.eff g
   rw[JR.twice] at l1
   have hbl:=kD (p2 t n' ht) hf.res
   have hex:am T .andNot 3 (.int .i64 n') (.int .i64 f.effects)=some (.int .i64 (ee n' f.effects)):=rfl
   by_cases hb:bR t f.result=true
   case neg=>
    rw[Bool.not_eq_true] at hb
    rw[hb] at hbl
    have hx:CY (eA m fs) f=13:=by unfold CY;rw[ht];simp[hb]
    rw[hx]
    dsimp only
    rw[if_neg (by decide)]
    refine⟨(h.set q (bh m mp 0)).set q (bh m mp n'),?_⟩
    simp[L12_0,h1,hix,s1,k1,hbl]
    rfl
   case pos=>
    rw[hb] at hbl
    by_cases he:ee n' f.effects=0
    ·have hx:CY (eA m fs) f=0:=by unfold CY;rw[ht];simp[hb,he]
     rw[hx]
     dsimp only
     rw[if_pos rfl]
     obtain⟨h',e'⟩:=ih (i + 1) n' _ (by omega) (by omega) R2
     have e'':aj (L12_0 (ai pg) aj) [.hp q 0,eW m.funcs,.int .i64 m.funcs.length,.int .i64 ((i:Int) + 1)] ((h.set q (bh m mp 0)).set q (bh m mp n'))=_:=e'
     rw[JR.twice] at e''
     refine⟨h',?_⟩
     simp[L12_0,h1,hix,s1,k1,hbl,l1,hex,he,hw,-qC]
     exact e''
    ·have hx:CY (eA m fs) f=14:=by unfold CY;rw[ht];simp[hb,he]
     rw[hx]
     dsimp only
     rw[if_neg (by decide)]
     have he':(ee n' f.effects != 0)=true:=bne_iff_ne.2 he
     refine⟨(h.set q (bh m mp 0)).set q (bh m mp n'),?_⟩
     simp[L12_0,h1,hix,s1,k1,hbl,l1,hex,he',-qC]
     rfl
def mL(m:Ap.Mod)(fs:List Face):List (aU×Int):=m.uses.map fun u=>(u,if (fs.find? fun f=>f.module== u).isNone||u== m.name then 12 else 0)
theorem Hd{m:Ap.Mod}(hm:m.Lim)(MK:ModOk m){fs:List Face}(K:CxOk m fs){q:Nat}{mp:AV}{h:Hp}(R:JR h q m mp fs 0):∀(k i:Nat),m.uses.length - i=k→i≤m.uses.length→
  ∃ h',aj (L12_1 (ai pg) aj) [.ip (ab m.av),.hp q 0,strs m.uses,.int .i64 m.uses.length,.int .i64 i] h= .ok (nh (cj ((mL m fs).drop i++jR m:: CX m fs))) h':=by
 intro k
 have hul:=MK.ulen
 induction k with
 | zero=>
  intro i hk hi
  have h1:¬ ((i:Int) < (m.uses.length:Int)):=by omega
  have h2:(mL m fs).drop i=[]:=List.drop_eq_nil_of_le (by simp[mL];omega)
  have hmv:=NU (Nb hm MK)
  rw[h2,List.nil_append,cj,FL12_1]
  unfold nh at hmv
  by_cases hb:(jR m).2=0
  ·rw[if_pos hb]
   obtain⟨h',e'⟩:=Hc hm MK K m.funcs.length 0 0 h rfl (Nat.zero_le _) R
   have e'':aj (L12_0 (ai pg) aj) [.hp q 0,eW m.funcs,.int .i64 m.funcs.length,.int .i64 0] h= .ok (nh (cj (CX m fs))) h':=e'
   rw[hb] at hmv
   refine⟨h',?_⟩
   simp[L12_1,h1,hmv,e'']
  ·rw[if_neg hb]
   have hb':((jR m).2 != 0)=true:=bne_iff_ne.2 hb
   refine⟨h,?_⟩
   simp[L12_1,h1,hmv,hb']
   rfl
 | succ k ih=>
  intro i hk hi
  have hlt:i < m.uses.length:=by omega
  have h1:(i:Int) < (m.uses.length:Int):=by omega
  have h2:(mL m fs).drop i=(m.uses[i],if (fs.find? fun f=>f.module== m.uses[i]).isNone||m.uses[i]== m.name then 12 else 0):: (mL m fs).drop (i + 1):=by
   rw[List.drop_eq_getElem_cons (by simp[mL];exact hlt)]
   simp[mL]
  have hw:IntKind.i64.wrap ((i:Int) + 1)=(i:Int) + 1:=bq (by omega)
  have hix:=sD (l:=m.uses) (n:=(i:Int)) (by omega) h1
  rw[Int.toNat_natCast,getElem!_pos m.uses i hlt] at hix
  obtain⟨h',e'⟩:=ih (i + 1) (by omega) (by omega)
  have e'':aj (L12_1 (ai pg) aj) [.ip (ab m.av),.hp q 0,strs m.uses,.int .i64 m.uses.length,.int .i64 ((i:Int) + 1)] h=_:=e'
  rw[h2,List.cons_append,cj,FL12_1]
  generalize m.uses[i]=u at hix ⊢
  have l1:∀ g:AV→M AV,ae (aR T 118 (.hp q 9)) g h=g mp h:=fun g=>aP R.mp g
  have l2:∀ g:AV→M AV,ae (fw T 118 mp (.str u) true) g h=g (.tup [((fs.find? fun f=>f.module== u).getD iF).av,.bool (fs.find? fun f=>f.module== u).isSome]) h:=fun g=>aP (oP R.map u) g
  simp only[br] at e''
  cases hf:fs.find? (fun f=>f.module== u) with
  | none=>
   rw[hf] at l2
   refine⟨h,?_⟩
   simp[L12_1,h1,hix,l1,l2,mi,nh]
   rfl
  | some f=>
   rw[hf] at l2
   by_cases hu:u=m.name
   ·subst hu
    refine⟨h,?_⟩
    simp[L12_1,h1,hix,l1,l2,mi,nh]
    rfl
   ·refine⟨h',?_⟩
    have hu':(u== m.name)=false:=beq_eq_false_iff_ne.2 hu
    simp[L12_1,h1,hix,l1,l2,mi,hu,hw,e'']
def ow(m:Ap.Mod)(fs:List Face):aU×Int:=if (fs.all iB&&jm m)=true then cj (mL m (cE [] fs)++jR m:: CX m (cE [] fs)) else ([],1)
theorem NR(m:Ap.Mod)(hm:m.Lim)(fs:List Face)(hfs:∀ f∈fs,f.Lim)(hlen:fs.length≤140737488355328):ai pg 12 [m.av,faces fs]=M.pure (nh (ow m fs)):=by
 have fin:∀(h:Hp)(x:aU×Int),ix 6 h (nh x)=nh x:=fun h x=>by
  have hc:Ap.Clean (nh x):=fun g=>by simp[nh,cl,dL]
  exact hc.frz 6 h
 have hR:=t13 m hm
 have lm:ah T 29 (.ip (ab m.av))=some m.av:=rfl
 obtain⟨n1,n2⟩:=NT m fs hfs hlen []
 rw[C12,uH,EQ]
 unfold ow
 cases ha:fs.all iB with
 | false=>
  obtain⟨h',e'⟩:=n2 ha
  have k1:∀ g:AV→M AV,ae (ai pg 49 [m.av,faces fs]) g []=g (.tup [.nilp,.bool false]) h':=fun g=>aP e' g
  refine bX (v:=nh ([],1)) (h':=h') ?_ (fin _ _)
  simp only[br] at lm
  simp[S12,k1,lm]
  rfl
 | true=>
  have e1:=n1 ha
  have k1:∀ g:AV→M AV,ae (ai pg 49 [m.av,faces fs]) g []=g (.tup [.hp 1 0,.bool true]) ([]++[[.tup (cC (cE [] fs))],bh m (.mp 0) 0]):=fun g=>aP e1 g
  cases hr:jm m with
  | false=>
   rw[hr] at hR
   refine bX (v:=nh ([],1)) (h':=[]++[[.tup (cC (cE [] fs))],bh m (.mp 0) 0]) ?_ (fin _ _)
   simp only[br] at lm
   simp[S12,k1,lm,hR]
   rfl
  | true=>
   rw[hr] at hR
   have MK:=jQ hr
   have hdm:∀ f∈cE [] fs,f∈fs:=fun f hf=>by
    rcases tp fs [] f hf with h | h
    ·cases h
    ·exact h
   have K:CxOk m (cE [] fs):=M6 MK (fun f hf=>hfs f (hdm f hf)) (fun f hf=>List.all_eq_true.1 ha f (hdm f hf))
   have R:JR ([]++[[.tup (cC (cE [] fs))],bh m (.mp 0) 0]) 1 m (.mp 0) (cE [] fs) 0:=⟨rfl,.inr ⟨0,rfl,rfl⟩,by simp⟩
   obtain⟨h',e'⟩:=Hd hm MK K R m.uses.length 0 rfl (Nat.zero_le _)
   have e'':aj (L12_1 (ai pg) aj) [.ip (ab m.av),.hp 1 0,strs m.uses,.int .i64 m.uses.length,.int .i64 0] ([]++[[.tup (cC (cE [] fs))],bh m (.mp 0) 0])= .ok (nh (cj (mL m (cE [] fs)++jR m:: CX m (cE [] fs)))) h':=e'
   simp only[br] at lm e''
   simp only[Bool.and_self,if_true]
   refine bX (v:=nh (cj (mL m (cE [] fs)++jR m:: CX m (cE [] fs)))) (h':=h') ?_ (fin _ _)
   rw[← e'']
   simp[S12,k1,lm,hR]
theorem L0(x:Sig):(ab x.av).length=5:=by simp
def Bp(h:Hp)(v:AV)(l:List Sig):Prop:=(l=[]∧v= .hn)∨(l≠[]∧∃ q,v= .hs q 0 l.length 5 true∧h[q]? = some (rowOf Sig.av l))
theorem zK:(l:List Sig)→(rowOf Sig.av l).all aO=true
 | []=>rfl
 | f:: l=>by
  rw[jo,List.all_append,zK l,Bool.and_true,fJ]
  rfl
theorem C5{h:Hp}{v:AV}{l:List Sig}(A:Bp h v l)(hl:l.length≤1000000)(s:Sig):∃ v' h',appH T 67 false v (sigs [s]) h= .ok v' h'∧Bp h' v' (l++[s])∧cn v'=M.pure v':=by
 rcases A with ⟨rfl,rfl⟩ | ⟨hne,q,rfl,hq⟩
 ·have e2:=IV (T:=T) (t:=67) (e:=150) rfl rfl rfl (x:=s.av) (lV s) (by decide) (by decide) (by decide) h
  refine⟨_,_,e2,.inr ⟨by simp,h.length,rfl,?_⟩,rfl⟩
  simp[rowOf]
 ·have hln:=fY (f:=Sig.av) L0 l
  have e2:=IX (T:=T) (t:=67) (e:=150) rfl rfl rfl (x:=s.av) (lV s) (by decide) (by decide) hq (zK l) hln (List.length_pos_iff.2 hne) (show (l.length + 1) * 80≤140737488355328 by omega)
  refine⟨_,_,e2,.inr ⟨by simp,h.length,by rw[List.length_append];rfl,?_⟩,rfl⟩
  simp[rowOf]
theorem HV(V:List AV→M AV)(m:Ap.Mod)(f:Fun)(hf:FunOk f)(i:Nat)(hv x3 x4:AV)(h:Hp):∀(k j:Nat)(acc:List Ty),f.params.length - j=k→j≤f.params.length→acc.length≤j→
  aj (L23_0 (ai pg) aj V) [eW m.funcs,.int .i64 m.funcs.length,.int .i64 i,aK f.params,.int .i64 f.params.length,.int .i64 j,x3,x4,.str m.name,hv,.str f.name,ib acc,.int .i64 f.result.kind,aK f.result.fields,.int .i64 f.effects] h=ae (appH T 67 false hv (sigs [⟨f.name,acc++(f.params.drop j).map (·.2),f.result,f.effects⟩])) (fun v=>ae (cn v) fun _=>V [eW m.funcs,.int .i64 m.funcs.length,.int .i64 (IntKind.i64.wrap ((i:Int) + 1)),x3,x4,.str m.name,v]) h:=by
 have hpl:=hf.plen
 intro k
 induction k with
 | zero=>
  intro j acc hk hj ha
  have h1:¬ ((j:Int) < (f.params.length:Int)):=by omega
  have h2:f.params.drop j=[]:=List.drop_eq_nil_of_le (by omega)
  have b1:aI T 67 1 [(0,.agg [.str f.name,ib acc,.int .i64 f.result.kind,aK f.result.fields,.int .i64 f.effects])]=some (sigs [⟨f.name,acc,f.result,f.effects⟩]):=rfl
  rw[FL23_0,h2]
  simp only[L23_0,aL,aS,bz,ar,h1,decide_false,aA,Bool.false_eq_true,if_false,b1,cX,List.map_nil,List.append_nil]
 | succ k ih=>
  intro j acc hk hj ha
  have hlt:j < f.params.length:=by omega
  have h1:(j:Int) < (f.params.length:Int):=by omega
  have h2:f.params.drop j=f.params[j]:: f.params.drop (j + 1):=List.drop_eq_getElem_cons hlt
  have hw:IntKind.i64.wrap ((j:Int) + 1)=(j:Int) + 1:=bq (by omega)
  have hix:=mD (l:=f.params) (n:=(j:Int)) (by omega) h1
  rw[Int.toNat_natCast,getElem!_pos f.params j hlt] at hix
  have hcl:=t81 f.params[j].2 (hf.pars _ (List.getElem_mem hlt))
  have ih':=ih (j + 1) (acc++[f.params[j].2]) (by omega) (by omega) (by simp;omega)
  have hap:=CZ (a:=acc) (b:=[f.params[j].2]) (by simp;omega)
  rw[h2,List.map_cons]
  generalize f.params[j]=z at hix hcl hap ih' ⊢
  have hsl:aI T 148 1 [(0,z.2.av)]=some (ib [z.2]):=by cases z.2;rfl
  have hc1:∀ l:List Ty,cn (ib l)=M.pure (ib l):=fun l=>rfl
  rw[show acc++z.2:: (f.params.drop (j + 1)).map (·.2)=acc++[z.2]++(f.params.drop (j + 1)).map (·.2) by simp,← ih']
  generalize hcode:aj (L23_0 (ai pg) aj V) [eW m.funcs,.int .i64 m.funcs.length,.int .i64 i,aK f.params,.int .i64 f.params.length,.int .i64 j,x3,x4,.str m.name,hv,.str f.name,ib acc,.int .i64 f.result.kind,aK f.result.fields,.int .i64 f.effects] h=code
  rw[FL23_0] at hcode
  simp -implicitDefEqProofs only[L23_0,aL,aS,bz,ar,h1,decide_true,aA,if_true,hix,df,LD87,List.length_cons,List.length_nil,Nat.zero_add,Nat.reduceAdd,Nat.le_refl,List.take_succ_cons,List.take_zero,ij,qF,aB,FA87_1,List.drop_succ_cons,List.drop_zero,LD72,eP,hcl,dW,hsl,hap,hc1,cX,hw] at hcode
  rw[← hcode]
  rfl
theorem HW(m:Ap.Mod)(MK:ModOk m):∀(k i:Nat)(hv x3 x4:AV)(h:Hp),m.funcs.length - i=k→i≤m.funcs.length→Bp h hv (gk (m.funcs.take i))→
  ∃ hv' h',Bp h' hv' (gk m.funcs)∧aj (L23_1 (ai pg) aj) [eW m.funcs,.int .i64 m.funcs.length,.int .i64 i,x3,x4,.str m.name,hv] h=ae (ai pg 82 [hv',.fn (.func 83) [] []]) (fun _=>ae (ao 2 [] (.agg [.str m.name,hv'])) fun v=>M.pure (.agg [nth (ab v) 0,nth (ab v) 1])) h':=by
 have hfl:=MK.flen
 intro k
 induction k with
 | zero=>
  intro i hv x3 x4 h hk hi A
  have h1:¬ ((i:Int) < (m.funcs.length:Int)):=by omega
  have h2:m.funcs.take i=m.funcs:=List.take_of_length_le (by omega)
  rw[h2] at A
  refine⟨hv,h,A,?_⟩
  rw[FL23_1]
  simp only[L23_1,aL,aS,bz,ar,h1,decide_false,aA,Bool.false_eq_true,if_false]
 | succ k ih=>
  intro i hv x3 x4 h hk hi A
  have hlt:i < m.funcs.length:=by omega
  have h1:(i:Int) < (m.funcs.length:Int):=by omega
  have hw:IntKind.i64.wrap ((i:Int) + 1)=((i + 1:Nat):Int):=bq (by omega)
  have hix:=sE (l:=m.funcs) (n:=(i:Int)) (by omega) h1
  rw[Int.toNat_natCast,getElem!_pos m.funcs i hlt] at hix
  have hf:=MK.fns _ (List.getElem_mem hlt)
  have ht:m.funcs.take (i + 1)=m.funcs.take i++[m.funcs[i]]:=List.take_succ_eq_append_getElem hlt
  have ih0:=ih (i + 1)
  rw[ht] at ih0
  have cf:∀ f:Fun,aH 12 f.av=M.pure f.av:=fun f=>by rw[ba (jh f),dT,lK]
  rw[FL23_1]
  generalize m.funcs[i]=f at hix hf ih0 ⊢
  cases hp:f.pub with
  | false=>
   have e:gk (m.funcs.take i++[f])=gk (m.funcs.take i):=by simp[gk,hp]
   rw[e] at ih0
   obtain⟨hv',h',A',e'⟩:=ih0 hv x3 x4 h (by omega) (by omega) A
   refine⟨hv',h',A',?_⟩
   rw[← e']
   simp[L23_1,h1,hix,cf,hw]
   simp[hp]
  | true=>
   have e:gk (m.funcs.take i++[f])=gk (m.funcs.take i)++[xW f]:=by simp[gk,hp]
   rw[e] at ih0
   have hlen:(gk (m.funcs.take i)).length≤1000000:=by
    have:(gk (m.funcs.take i)).length≤(m.funcs.take i).length:=by
     unfold gk
     rw[List.length_map]
     exact List.length_filter_le _ _
    rw[List.length_take] at this
    omega
   obtain⟨v1,h1',e1,A1,c1⟩:=C5 A hlen (xW f)
   obtain⟨hv',h',A',e'⟩:=ih0 v1 x3 x4 h1' (by omega) (by omega) A1
   refine⟨hv',h',A',?_⟩
   rw[← e']
   have hin:=HV (aj (L23_1 (ai pg) aj)) m f hf i hv x3 x4 h f.params.length 0 [] rfl (Nat.zero_le _) (Nat.zero_le _)
   rw[hw] at hin
   have hin2:aj (L23_0 (ai pg) aj (aj (L23_1 (ai pg) aj))) [eW m.funcs,.int .i64 m.funcs.length,.int .i64 i,aK f.params,.int .i64 f.params.length,.int .i64 0,x3,x4,.str m.name,hv,.str f.name,.sl [],.int .i64 f.result.kind,aK f.result.fields,.int .i64 f.effects] h=aj (L23_1 (ai pg) aj) [eW m.funcs,.int .i64 m.funcs.length,.int .i64 ((i + 1:Nat):Int),x3,x4,.str m.name,v1] h1':=by
    refine hin.trans ?_
    show ae (appH T 67 false hv (sigs [xW f])) _ h=_
    rw[aP e1,c1,aB]
   have hcl:=t81 f.result hf.res
   have bs1:∀(k:Int)(x:List bP)(e:Int),aM T true 150 [(0,.str f.name),(2,(Ty.mk k x).av),(3,.int .i64 e)]=some (.agg [.str f.name,.hn,.int .i64 k,aK x,.int .i64 e]):=fun k x e=>rfl
   have bs2:aM T true 150 [(0,.str f.name),(2,f.result.av),(3,.int .i64 f.effects)]=some (.agg [.str f.name,.hn,.int .i64 f.result.kind,aK f.result.fields,.int .i64 f.effects]):=by
    have:=bs1 f.result.kind f.result.fields f.effects
    rwa [Ty.eta] at this
   have bs3:ao 5 [1] (.agg [.str f.name,.hn,.int .i64 f.result.kind,aK f.result.fields,.int .i64 f.effects])=M.pure (.agg [.str f.name,.hn,.int .i64 f.result.kind,aK f.result.fields,.int .i64 f.effects]):=rfl
   rw[← hin2]
   simp[L23_1,h1,hix,cf,hcl,bs2,bs3]
   simp[hp]
theorem tj(l:List Sig)(i:Nat)(hi:i < l.length):ew 5 (rowOf Sig.av l) i=ab l[i].av:=iv L0 l i hi
theorem zU(l:List Sig):rowOf Sig.av l=(l.map fun s=>ab s.av).flatten:=by
 unfold rowOf
 rw[List.flatMap_def,List.map_map]
 rfl
theorem mA(l:List Sig):(gx l).length=l.length:=(kT l).length_eq
theorem Bq{h:Hp}{hv:AV}{l:List Sig}(A:Bp h hv l)(hl:l.length≤1000):∃ h',ai pg 82 [hv,.fn (.func 83) [] []] h= .ok (.tup []) h'∧Bp h' hv (gx l):=by
 have e0:ai pg 82 [hv,.fn (.func 83) [] []]=gJ 5 83 (ai pg) [hv,.fn (.func 83) [] []]:=dy hOther rfl _
 rw[e0]
 rcases A with ⟨rfl,rfl⟩ | ⟨hne,q,rfl,hq⟩
 ·exact⟨h,rfl,.inl ⟨List.eq_nil_of_length_eq_zero (mA []),rfl⟩⟩
 ·have hln:=fY (f:=Sig.av) L0 l
  have hpos:0 < l.length:=List.length_pos_iff.2 hne
  have hrow:((rowOf Sig.av l).drop 0).take (l.length * 5)=rowOf Sig.av l:=by rw[List.drop_zero,← hln];exact List.take_length
  have hkeys:keysOf 5 l.length (rowOf Sig.av l)=some (l.map (·.name)):=by
   unfold keysOf
   have e:(List.range l.length).map (fun i=>ew 5 (rowOf Sig.av l) i)=l.map fun s=>ab s.av:=by
    apply List.ext_getElem
    ·simp
    ·intro i h1 h2
     simp only[List.getElem_map,List.getElem_range]
     exact tj l i (by simpa using h2)
   rw[e]
   have:=xj (nm:=fun c=>match c with | .str s:: _=>s | _=>[]) (cs:=l.map fun s=>ab s.av) (fun c hc=>by
    obtain⟨s,_,rfl⟩:=List.mem_map.1 hc
    rfl)
   rw[this,List.map_map]
   rfl
  have hpl:(fV (l.map (·.name))).length=l.length:=by
   have:=(xG (l.map (·.name))).1.length_eq
   simpa using this
  have hflat:((fV (l.map (·.name))).map fun i=>ew 5 (rowOf Sig.av l) (i % l.length)).flatten=rowOf Sig.av (gx l):=by
   rw[zU (gx l)]
   unfold gx
   rw[List.map_map]
   congr 1
   apply List.map_congr_left
   intro i _
   have hm:=Nat.mod_lt i hpos
   simp only[Function.comp]
   rw[tj l _ hm,getElem!_pos l _ hm]
  have hlen2:(rowOf Sig.av (gx l)).length=(rowOf Sig.av l).length:=by rw[fY (f:=Sig.av) L0,mA,hln]
  have hset:setCells (rowOf Sig.av l) 0 (rowOf Sig.av (gx l))=rowOf Sig.av (gx l):=by
   unfold setCells
   rw[List.take_zero,List.nil_append,Nat.zero_add,hlen2,List.drop_length,List.append_nil]
  have hok:=zK l
  refine⟨h.set q (rowOf Sig.av (gx l)),?_,.inr ⟨fun e=>hne (by have:=mA l;rw[e] at this;exact List.eq_nil_of_length_eq_zero this.symm),q,by rw[mA],List.getElem?_set_self (List.getElem?_eq_some_iff.1 hq).1⟩⟩
  unfold gJ
  simp only[hq,hrow,hkeys,hflat,hset]
  have hb:Nat.beq 83 83=true:=rfl
  have hb5:Nat.beq 5 5=true:=rfl
  have hall:((rowOf Sig.av l).all aO)=true:=hok
  have hcond:(Nat.beq 83 83&&Nat.beq 5 5&&decide (0 < l.length)&&decide (0 < 5)&&decide (0 + l.length * 5≤(rowOf Sig.av l).length)&&decide ((l.map (·.name)).length=l.length)&&decide (l.length < 4611686018427387904)&&decide ((fV (l.map (·.name))).length=l.length)&&(rowOf Sig.av l).all aO)=true:=by
   have g1:decide (0 < l.length)=true:=decide_eq_true hpos
   have g2:decide (0 + l.length * 5≤(rowOf Sig.av l).length)=true:=decide_eq_true (by omega)
   have g3:decide ((l.map (·.name)).length=l.length)=true:=decide_eq_true (List.length_map ..)
   have g4:decide (l.length < 4611686018427387904)=true:=decide_eq_true (by omega)
   have g5:decide ((fV (l.map (·.name))).length=l.length)=true:=decide_eq_true hpl
   rw[g1,g2,g3,g4,g5,hall,hb,hb5]
   rfl
  rw[hcond]
  rfl
def ni(m:Ap.Mod):Face:=if jm m=true then ⟨m.name,gx (gk m.funcs)⟩ else iF
theorem NS(m:Ap.Mod)(hm:m.Lim):ai pg 23 [m.av]=M.pure (ni m).av:=by
 have hR:=t13 m hm
 have lm:ah T 29 (.ip (ab m.av))=some m.av:=rfl
 simp only[br] at lm
 rw[C23,uH]
 unfold ni
 by_cases hr:jm m=true
 ·rw[hr] at hR
  rw[if_pos hr]
  have MK:=jQ hr
  obtain⟨hv,h',A,e'⟩:=HW m MK m.funcs.length 0 .hn (.str []) (.sl []) [] rfl (Nat.zero_le _) (.inl ⟨rfl,rfl⟩)
  have hpl:(gk m.funcs).length≤1000:=by
   have:(gk m.funcs).length≤m.funcs.length:=by
    unfold gk
    rw[List.length_map]
    exact List.length_filter_le _ _
   have:=MK.flen
   omega
  obtain⟨h2,e2,A2⟩:=Bq A hpl
  have b1:aM T true 69 [(0,.str m.name)]=some (.agg [.str m.name,.hn]):=rfl
  have b2:ao 2 [1] (.agg [.str m.name,.hn])=M.pure (.agg [.str m.name,.hn]):=rfl
  have b2':ao 2 [] (.agg [.str m.name,.hn])=M.pure (.agg [.str m.name,.hn]):=rfl
  have hcn:ao 2 [] (.agg [.str m.name,hv])=M.pure (.agg [.str m.name,hv]):=by
   rcases A2 with ⟨_,rfl⟩ | ⟨_,q,rfl,_⟩
   ·rfl
   ·exact aY rfl
  have hfz:ix 6 h2 (.agg [.str m.name,hv])=(Face.mk m.name (gx (gk m.funcs))).av:=by
   rcases A2 with ⟨e,rfl⟩ | ⟨_,q,rfl,hq⟩
   ·rw[e];rfl
   ·have hfr:=oG (f:=Sig.av) L0 (fun x=>by rw[fJ,q7]) (fun x g=>yU g x) (by decide) hq 5
    have e:(Face.mk m.name (gx (gk m.funcs))).av= .agg [.str m.name,.sl ((gx (gk m.funcs)).map Sig.av)]:=rfl
    rw[e,← hfr]
    rfl
  refine bX (v:=.agg [.str m.name,hv]) (h':=h2) ?_ hfz
  have e'':aj (L23_1 (ai pg) aj) [eW m.funcs,.int .i64 m.funcs.length,.int .i64 0,.str [],.sl [],.str m.name,.hn] []= .ok (.agg [.str m.name,hv]) h2:=by
   refine e'.trans ?_
   rw[aP e2,hcn]
   rfl
  simp[S23,lm,hR,b1,b2,b2',e'']
 ·rw[if_neg hr]
  rw[Bool.not_eq_true] at hr
  rw[hr] at hR
  have b1:aM T false 69 []=some iF.av:=rfl
  have b2:ao 2 [] iF.av=M.pure iF.av:=rfl
  have hfz:ix 6 [] iF.av=iF.av:=rfl
  refine bX (v:=iF.av) (h':=[]) ?_ hfz
  simp[S23,lm,hR,b1,b2]
  rfl
structure Accd (m:Ap.Mod) (fs:List Face):Prop where
 right:jm m=true
 faces:∀ f∈fs,iB f=true
 uses:∀ u∈m.uses,u≠m.name
 moves:(jR m).2=0
 fns:∀ f∈m.funcs,∃ t n,bI (eA m (cE [] fs)) 12 f.params f.body 0= .ok t n∧bR t f.result=true∧ee n f.effects=0
theorem Hq{c:Tcx}{f:Fun}(h:CY c f=0):∃ t n,bI c 12 f.params f.body 0= .ok t n∧bR t f.result=true∧ee n f.effects=0:=by
 unfold CY at h
 cases hx:bI c 12 f.params f.body 0 with
 | er b n=>rw[hx] at h;exact absurd h (g9 c 12 f.params f.body 0 b n hx)
 | ok t n=>
  rw[hx] at h
  simp only at h
  by_cases h1:bR t f.result=true
  ·rw[if_pos h1] at h
   by_cases h2:ee n f.effects=0
   ·exact⟨t,n,rfl,h1,h2⟩
   ·rw[if_neg h2] at h;cases h
  ·rw[if_neg h1] at h;cases h
theorem yR{m:Ap.Mod}{fs:List Face}(h:(ow m fs).2=0):Accd m fs:=by
 unfold ow at h
 split at h
 ·rename_i hr
  rw[Bool.and_eq_true,List.all_eq_true] at hr
  have H:=uR h
  refine⟨hr.2,hr.1,fun u hu e=>?_,H _ (by simp),fun f hf=>?_⟩
  ·have:=H _ (List.mem_append_left _ (List.mem_map_of_mem hu))
   simp only at this
   rw[if_pos (by simp[e])] at this
   cases this
  ·exact Hq (H _ (List.mem_append_right _ (List.mem_cons_of_mem _ (List.mem_map_of_mem hf))))
 ·cases h
structure Prog (p:List Mod):Prop where
 names:(p.map (·.name)).Nodup
 acc:∀ i (h:i < p.length),Accd p[i] ((p.take i).map ni)
theorem Prog.find{p:List Mod}(P:Prog p){i:Nat}(h:i < p.length){s:aU}(hs:p[i].name=s):p.find? (fun m=>m.name== s)=some p[i]:=by
 subst hs
 exact lH (·.name) P.names (List.getElem_mem h)
theorem Prog.findR{p:List Mod}(P:Prog p){i:Nat}(h:i < p.length){r:yx}(hs:p[i].name=r.1):findR p r=p[i].funcs.find? fun f=>f.name== r.2:=by
 unfold Ap.findR
 rw[P.find h hs]
theorem Prog.same{p:List Mod}(P:Prog p){i j:Nat}(hi:i < p.length)(hj:j < p.length)(h:p[i].name=p[j].name):i=j:=by
 have H:=List.pairwise_iff_getElem.1 P.names
 rcases Nat.lt_trichotomy i j with h1 | h1 | h1
 ·have:=H i j (by simpa using hi) (by simpa using hj) h1;simp at this;exact absurd h this
 ·exact h1
 ·have:=H j i (by simpa using hj) (by simpa using hi) h1;simp at this;exact absurd h.symm this
theorem Cw{m:Ap.Mod}(h:jm m=true):ni m=⟨m.name,gx (gk m.funcs)⟩:=by unfold ni;rw[if_pos h]
theorem F5{l:List Fun}(hn:(l.map (·.name)).Nodup){s:aU}{g:Sig}(h:(gx (gk l)).find? (fun x=>x.name== s)=some g):∃ f,l.find? (fun f=>f.name== s)=some f∧f.pub=true∧g=xW f:=by
 have hm:(gk l).map (·.name)=(l.filter (·.pub)).map (·.name):=by
  unfold gk
  rw[List.map_map]
  rfl
 have hn2:((gk l).map (·.name)).Nodup:=by
  rw[hm]
  exact (List.filter_sublist.map _).nodup hn
 rw[B6 (kT _) hn2] at h
 have h1:=List.mem_of_find?_eq_some h
 have h2:g.name=s:=by simpa using List.find?_some h
 unfold gk at h1
 obtain⟨f,hf,rfl⟩:=List.mem_map.1 h1
 obtain⟨hf1,hf2⟩:=List.mem_filter.1 hf
 have h3:f.name=s:=h2
 subst h3
 exact⟨f,lH (·.name) hn hf1,hf2,rfl⟩
theorem HT{m:Ap.Mod}(hm:m.Lim):(ni m).Lim:=by
 unfold ni
 split
 ·rename_i hr
  have hl:(gx (gk m.funcs)).length≤30:=by
   rw[(kT _).length_eq]
   unfold gk
   rw[List.length_map]
   exact Nat.le_trans (List.length_filter_le _ _) (jQ hr).flen
  refine⟨by show (gx (gk m.funcs)).length≤_;omega,fun s hs=>?_⟩
  have hs':s∈gk m.funcs:=(kT _).mem_iff.1 hs
  unfold gk at hs'
  obtain⟨f,hf,rfl⟩:=List.mem_map.1 hs'
  have hf':=hm.fns f (List.mem_filter.1 hf).1
  refine⟨?_,fun t ht=>?_,hf'.result⟩
  ·show (f.params.map (·.2)).length≤_
   rw[List.length_map]
   exact hf'.params
  ·obtain⟨z,hz,rfl⟩:=List.mem_map.1 ht
   exact hf'.pty z hz
 ·exact⟨by decide,fun s hs=>by cases hs⟩
theorem Prog.callee{p:List Mod}(P:Prog p){i:Nat}(hi:i < p.length){e:Exp}{s:List Ty×Ty×Int} (h:cY (eA p[i] (cE [] ((p.take i).map ni))) e=some s) (f:aU):
  ∃ j,∃(hj:j < p.length),∃ g,j≤i∧p[j].name=(Mf (p[i].name,f) e).1∧p[j].funcs.find? (fun g=>g.name== e.s)=some g∧s=(g.params.map (·.2),g.result,g.effects)∧(e.m≠[]→g.pub=true∧j < i∧e.m∈p[i].uses):=by
 unfold cY at h
 by_cases hm:e.m=[]
 ·rw[if_pos hm] at h
  split at h
  ·rename_i g hg
   cases h
   refine⟨i,hi,g,Nat.le_refl _,?_,hg,rfl,fun h=>absurd hm h⟩
   simp[Mf,hm]
  ·cases h
 ·rw [if_neg hm] at h
  have hd:(eA p[i] (cE [] ((p.take i).map ni))).faces e.m=((p.take i).map ni).find? fun f=>f.module== e.m:=by
   show (cE [] ((p.take i).map ni)).find? (fun f=>f.module== e.m)=_
   rw[qO]
   rfl
  rw[hd] at h
  split at h
  ·cases h
  ·rename_i F hF
   have hF1:=List.mem_of_find?_eq_some hF
   have hF2:F.module=e.m:=by simpa using List.find?_some hF
   obtain⟨m,hmm,rfl⟩:=List.mem_map.1 hF1
   obtain⟨j,hj,e1⟩:=List.getElem_of_mem hmm
   have hj':j < i:=by simp at hj;omega
   have hjp:j < p.length:=by omega
   have e2:m=p[j]:=by rw[← e1,List.getElem_take]
   subst e2
   have hR:=(P.acc j hjp).right
   rw[Cw hR] at h hF2
   simp only at h hF2
   split at h
   ·cases h
   ·rename_i g hg
    split at h
    ·rename_i hu
     cases h
     obtain⟨f',h1,h2,rfl⟩:=F5 (jQ hR).fnames hg
     exact⟨j,hjp,f',by omega,by simp[Mf,hm,hF2],h1,rfl,fun _=>⟨h2,hj',hu⟩⟩
    ·cases h
theorem Prog.modAt{p:List Mod}(P:Prog p){i:Nat}(h:i < p.length){s:aU}(hs:p[i].name=s):Ap.modAt p s=i:=by
 have h1:=P.find h hs
 unfold Ap.modAt
 rcases lO (F:=fun m:Mod=>m.name== s) p 0 (by omega) with ⟨h2,_⟩ | ⟨k,hk,h2,h3⟩
 ·rw[h2] at h1;cases h1
 ·rw[h3] at h1
  have e:p[k].name=p[i].name:=congrArg Mod.name (Option.some.inj h1)
  rw[h2,P.same hk h e]
  omega
def BL(p:List Mod)(own:Int):Tcx:=if own < 0 then p9 else match p[own.toNat]? with
 | some m=>eA m (cE [] ((p.take own.toNat).map ni))
 | none=>p9
theorem wC(p:List Mod)(own:Int):BL p own=p9∨∃ i,∃(h:i < p.length),own=i∧BL p own=eA p[i] (cE [] ((p.take i).map ni)):=by
 unfold BL
 by_cases h:own < 0
 ·rw[if_pos h];exact .inl rfl
 ·rw[if_neg h]
  cases hp:p[own.toNat]? with
  | none=>exact .inl rfl
  | some m=>
   obtain⟨h1,h2⟩:=List.getElem?_eq_some_iff.1 hp
   exact .inr ⟨own.toNat,h1,by omega,by rw[← h2]⟩
theorem Prog.wt{p:List Mod}(P:Prog p):Wt p (BL p) where
 call:=fun own e s h=>by
  rcases wC p own with hc | ⟨i,hi,rfl,hc⟩
  ·rw[hc] at h
   have h1:=GJ.call 0 e s h
   obtain⟨f,hf,_⟩:=h1
   split at hf <;> simp[f9,kb,aZ,show (default:Mod).funcs=[] from rfl] at hf
  ·rw[hc] at h
   obtain⟨j,hj,g,hji,hn,hf,rfl,hm⟩:=P.callee hi h []
   have hfx:f9 p (j:Int) e.s=some g:=by
    have h1:=P.modAt hj rfl
    rw[← h1,rc,P.findR hj rfl]
    exact hf
   refine⟨g,?_,?_,rfl,rfl,rfl⟩
   ·by_cases hem:e.m=[]
    ·rw[if_pos hem]
     have:j=i:=P.same hj hi (by rw[hn];simp[Mf,hem])
     rw[← this]
     exact hfx
    ·rw[if_neg hem]
     have h1:p[j].name=e.m:=by rw[hn];simp[Mf,hem]
     rw[P.modAt hj h1]
     exact hfx
   ·by_cases hem:e.m=[]
    ·exact .inl hem
    ·exact .inr (hm hem).1
 fn:=fun a s f h=>by
  obtain⟨h1,h2,h3⟩:=gI h
  rw[List.getElem?_eq_getElem h2,Option.getD_some] at h3
  have A:=P.acc a.toNat h2
  have F:=(jQ A.right).fns f h3
  refine⟨F.pars,F.res,F.body,?_⟩
  obtain⟨t,n,q1,q2,q3⟩:=A.fns f h3
  have hc:BL p a=eA p[a.toNat] (cE [] ((p.take a.toNat).map ni)):=by
   unfold BL
   rw[if_neg h1,List.getElem?_eq_getElem h2]
  exact⟨t,n,by rw[hc];exact q1,q2,q3⟩
 var:=fun own s z h=>by
  rcases wC p own with hc | ⟨i,hi,rfl,hc⟩
  ·rw[hc] at h;cases h
  ·rw[hc] at h
   have M:=jQ (P.acc i hi).right
   obtain⟨h1,h2⟩:=jf h
   have h1:z∈p[i].vars:=h1
   have h2:z.1=s:=by simpa using h2
   have e:(p[(i:Int).toNat]?.getD default)=p[i]:=by
    rw[Int.toNat_natCast,List.getElem?_eq_getElem hi];rfl
   refine⟨by omega,by simpa using hi,?_⟩
   rw[e]
   have h3:=lH (fun z:bP=>z.1) M.vnames h1
   rw[h2] at h3
   unfold jc
   rcases lO (F:=fun z:bP=>z.1== s) p[i].vars 0 (by omega) with ⟨g1,_⟩ | ⟨k,hk,g1,g2⟩
   ·rw[g1] at h3;cases h3
   ·rw[g2] at h3
    exact⟨k,by rw[g1];omega,by rw[List.getElem?_eq_getElem hk];exact h3,M.vars z h1⟩
theorem C7{m:Ap.Mod}{fs:List Face}(A:Accd m fs):C1 m:=by
 have M:=jQ A.right
 refine⟨M.ilen,M.init,M.vars,fun x hx=>?_⟩
 have h:=A.moves
 unfold jR at h
 exact uR h x (List.mem_append_left _ hx)
theorem Cv{p:List Mod}(h:¬ kq p=true):(p.map (·.name)).Nodup:=by
 unfold kq at h
 simp only[List.any_eq_true,List.mem_range,not_exists,not_and] at h
 unfold List.Nodup
 rw[List.pairwise_iff_getElem]
 intro i j hi hj hij e
 have hi':i < p.length:=by simpa using hi
 have hj':j < p.length:=by simpa using hj
 refine h j hj' p[i] ?_ ?_
 ·refine List.mem_iff_getElem.2 ⟨i,by simp;omega,by simp⟩
 ·rw[List.getElem?_eq_getElem hj',Option.getD_some]
  simpa using e
structure OutT (p:List Mod) (f:Fun) (o:Out):Prop where
 err:o.err=0∨o.err=16∨o.err=6∨o.err=5
 val:o.err=0→eX f.result o.value
 deeds:∀ d∈o.deeds,Ku f.effects d
 state:∀ i (h:i < o.state.length),∃(hp:i < p.length),(o.state[i].values).length=p[i].vars.length∧∀(n:Nat)(z:bP)(v:Val),p[i].vars[n]? = some z→o.state[i].values[n]? = some v→eX z.2 v
theorem rN{p:List Mod}{f:Fun}{e:Int}(h:e=16∨e=6∨e=5):OutT p f (nr e) where
 err:=.inr h
 val:=fun h0=>by
  have h0:e=0:=h0
  omega
 deeds:=fun d hd=>by cases hd
 state:=fun i h=>by simp[nr] at h
theorem CM{p:List Mod}(hacc:∀ i (h:i < p.length),Accd p[i] ((p.take i).map ni))(hlen:p.length≤4){a k:Nat}(ha:a < p.length)(hk:k < p[a].funcs.length){args:List Val} (hl:args.length=p[a].funcs[k].params.length)
  (hR:∀ v∈args,bA 4 v=true) (hT:∀(i:Nat)(z:bP)(v:Val),p[a].funcs[k].params[i]? = some z→args[i]? = some v→eX z.2 v) (world:List Int) (fuel:Int) (h0:0≤fuel) (h1:fuel≤2000):OutT p p[a].funcs[k] (oY p p[a].name p[a].funcs[k].name args world fuel):=by
 by_cases ht:kq p=true
 ·have hn:dG p=5:=by unfold dG;rw[if_neg (by omega),if_pos ht]
  have:oY p p[a].name p[a].funcs[k].name args world fuel=nr 5:=by
   unfold oY fL
   rw[if_neg (by omega),hn]
  rw[this]
  exact rN (.inr (.inr rfl))
 ·have P:Prog p:=⟨Cv ht,hacc⟩
  have hn:dG p=0:=by unfold dG;rw[if_neg (by omega),if_neg ht]
  obtain⟨fe,fo⟩:=pF p fun m hm=>by
   obtain⟨i,hi,rfl⟩:=List.getElem_of_mem hm
   exact C7 (hacc i hi)
  unfold oY
  have hfx:fL p=eK p:=by unfold fL;rw[if_pos hn]
  cases hx:fL p with
  | error c=>
   rw[hfx] at hx
   rcases fe c hx with rfl | rfl
   ·exact rN (.inl rfl)
   ·exact rN (.inr (.inl rfl))
  | ok st=>
   have hb:=lM hx
   rw[hfx] at hx
   have hst:=fo st hx
   have M:=jQ (hacc a ha).right
   have hf:f9 p (Ap.modAt p p[a].name) p[a].funcs[k].name=some p[a].funcs[k]:=by
    rw[rc,P.findR ha rfl]
    exact lH (fun f:Fun=>f.name) M.fnames (List.getElem_mem hk)
   simp only
   unfold iH
   rw[if_neg (by omega),if_neg (by rw[hb];simp;omega),hf]
   simp only
   rw[if_pos ⟨hl,List.all_eq_true.2 hR⟩]
   have W:=P.wt
   have hst':Im p (aX world fuel (st.map (·.values))).state:=hst
   have S:=ya W (g:=100000) (fun own d=>sound W 100000 own d) hf hl hT _ hst'
   obtain⟨s1,⟨ds,s2,s3⟩,s4,s5⟩:=S
   have hds:(nW (st.map (·.module)) (cF p (bm p 100000) (Ap.modAt p p[a].name) p[a].funcs[k] args (aX world fuel (st.map (·.values))))).deeds=ds:=by
    rw[pN,s2]
    rfl
   have hss:=jK (st.map (·.module)) (cF p (bm p 100000) (Ap.modAt p p[a].name) p[a].funcs[k] args (aX world fuel (st.map (·.values))))
   generalize cF p (bm p 100000) (Ap.modAt p p[a].name) p[a].funcs[k] args (aX world fuel (st.map (·.values)))=r at *
   refine⟨?_,?_,fun d hd=>s3 d (by rw[hds] at hd;exact hd),fun i hi=>?_⟩
   ·cases r with
    | ok v m=>exact .inl rfl
    | er e m=>exact .inr ((s4 e m rfl).imp id .inl)
   ·cases r with
    | ok v m=>exact fun _=>s5 v m rfl
    | er e m=>
     intro h
     have h:e=0:=h
     have:=s4 e m rfl
     omega
   ·rw[hss] at hi
    have hi2:i < r.st.state.length:=by
     rw[List.length_zipWith] at hi
     omega
    have hip:i < p.length:=by rw[← s1.1];exact hi2
    have e1:(nW (st.map (·.module)) r).state[i].values=r.st.state[i]:=by
     simp only[hss,List.getElem_zipWith]
    rw[e1]
    exact⟨hip,s1.2 i p[i] r.st.state[i] (List.getElem?_eq_getElem hip) (List.getElem?_eq_getElem hi2)⟩
theorem EI(l:List aU)(i k:Nat)(hk:k=i + 1)(h:k < l.length):sA (l.drop i)=(aT (l[i]'(by omega)) l[k]&&sA (l.drop k)):=by
 subst hk
 have e1:l.drop i=l[i]:: l.drop (i + 1):=List.drop_eq_getElem_cons (by omega)
 have e2:l.drop (i + 1)=l[i + 1]:: l.drop (i + 2):=List.drop_eq_getElem_cons h
 rw[e1,e2]
 rfl
theorem AW(call)(l:List aU)(hb:l.length≤4611686018427387904):∀(n:Nat)(i:Int),l.length - i.toNat=n→1≤i→aj (L272_0 call aj) [strs l,.int .i64 i]=M.pure (.bool (sA (l.drop (i.toNat - 1)))):=by
 intro n
 induction n with
 | zero=>
  intro i hn hi
  rw[FL272_0]
  simp only[L272_0]
  have h1:¬ (i < (l.length:Int)):=by omega
  have h2:sA (l.drop (i.toNat - 1))=true:=by
   have:(l.drop (i.toNat - 1)).length≤1:=by simp;omega
   match hq:l.drop (i.toNat - 1),this with
   | [],_=>rfl
   | [x],_=>rfl
   | x:: y:: r,h=>simp at h
  simp[h1,h2]
 | succ n ih=>
  intro i hn hi
  have h1:i < (l.length:Int):=by omega
  rw[FL272_0]
  simp only[L272_0]
  simp (disch:=omega) [h1,aV,sD]
  rw[ih (i + 1) (by omega) (by omega),EI l (i.toNat - 1) i.toNat (by omega) (by omega),show (i + 1).toNat - 1=i.toNat by omega]
  cases aT l[i.toNat - 1] l[i.toNat] <;> simp
theorem t272(l:List aU)(hb:l.length≤4611686018427387904):ai pg 272 [strs l]=M.pure (.bool (sA l)):=by
 rw[C272]
 simp[S272,AW (ai pg) l hb (l.length - 1) 1 rfl (by omega)]
theorem HH(f:AV)(F:Val→Bool)(l:List Val)(hb:l.length≤4611686018427387904)(hf:∀ x∈l,bw (ai pg) f [Val.av x]=M.pure (.bool (F x))):∀(n:Nat)(i:Int),l.length - i.toNat=n→0≤i→i≤l.length→
  aj (L243_0 (ai pg) aj) [vals l,f,.int .i64 l.length,.int .i64 i]=M.pure (.int .i64 (aZ F (l.drop i.toNat) i)):=by
 intro n
 induction n with
 | zero=>
  intro i hn hi hl
  rw[FL243_0]
  simp only[L243_0]
  have h1:¬ (i < (l.length:Int)):=by omega
  have h2:l.drop i.toNat=[]:=List.drop_eq_nil_of_le (by omega)
  simp[h1,h2,aZ]
 | succ n ih=>
  intro i hn hi hl
  have h1:i < (l.length:Int):=by omega
  have hlt:i.toNat < l.length:=by omega
  have h2:aZ F (l.drop i.toNat) i=if F l[i.toNat]=true then i else aZ F (l.drop (i.toNat + 1)) (i + 1):=by rw[List.drop_eq_getElem_cons hlt];rfl
  have h3:=hf l[i.toNat] (List.getElem_mem hlt)
  have h4:=ih (i + 1) (by omega) (by omega) (by omega)
  rw[show (i + 1).toNat=i.toNat + 1 by omega] at h4
  rw[FL243_0]
  simp only[L243_0]
  simp (disch:=omega) [h1,aV,qq,h3,h2]
  cases F l[i.toNat]
  ·simpa using h4
  ·simp
theorem t243(f:AV)(F:Val→Bool)(l:List Val)(hb:l.length≤4611686018427387904)(hc:∀ g,cl g f=f)(hf:∀ x∈l,bw (ai pg) f [Val.av x]=M.pure (.bool (F x))):ai pg 243 [vals l,f]=M.pure (.int .i64 (aZ F l 0)):=by
 rw[C243]
 simp[S243,hc,HH f F l hb hf l.length 0 rfl (by omega) (by omega)]
theorem t164(f:AV)(F:Val→Bool)(l:List Val)(hb:l.length≤4611686018427387904)(hc:∀ g,cl g f=f)(hf:∀ x∈l,bw (ai pg) f [Val.av x]=M.pure (.bool (F x))):ai pg 164 [vals l,f]=M.pure (.bool (l.any F)):=by
 rw[C164]
 simp[S164,hc,t243 f F l hb hc hf,kf]
theorem t193:∀(d:Nat),d≤4→∀(v:Val),v.sz≤4611686018427387904→ai pg 193 [v.av,.int .i64 d]=M.pure (.bool (bA d v))
 | 0,_,v,_=>by
  rw[C193]
  simp[S193,bA]
 | d + 1,hd,v,hv=>by
  have ih:=t193 d (by omega)
  have h1:=t272 v.names (Nat.le_trans v.sz_names hv)
  have hf:∀ x∈v.values,bw (ai pg) (.fn (.func 273) [] [.ip [.int .i64 ((d:Int) + 1)]]) [x.av]=M.pure (.bool !(bA d x)):=by
   intro x hx
   have hsz:=Val.sz_mem hx
   have:=ih x (by omega)
   show ai pg 273 [x.av,.ip [.int .i64 ((d:Int) + 1)]]=_
   rw[C273]
   simp (disch:=omega) [S273,cl,dL,aV,this,show (d:Int) + 1 - 1=d by omega]
  have h2:=t164 (.fn (.func 273) [] [.ip [.int .i64 ((d:Int) + 1)]]) (fun x=>!(bA d x)) v.values (by have:=v.sz_len;omega) (fun g=>rfl) hf
  have h0:¬ ((d:Int) + 1=0):=by omega
  rw[C193]
  simp[S193,bA,h0,h1,h2]
  have hall:(!v.values.any fun x=>!bA d x)=v.values.all (bA d):=by simp[List.not_any_eq_all_not]
  rw[hall]
  split
  ·rfl
  ·congr 2
   rw[show (v.kind== 2)=decide (v.kind=2) from rfl,show (v.n== 0)=decide (v.n=0) from rfl,show (v.names.length== v.values.length)=decide (v.names.length=v.values.length) by rw[Bool.eq_iff_iff];simp,
    show (!decide ((8:Int) < (v.names.length:Int)))=decide (v.names.length≤8) by rw[Bool.eq_iff_iff];simp;omega]
mutual
def Gj:Val→Val→Bool
 | .mk k n ns vs,.mk k' n' ns' vs'=>k== k'&&n== n'&&ns== ns'&&vF vs vs'
def vF:List Val→List Val→Bool
 | [],[]=>true
 | v:: vs,w:: ws=>Gj v w&&vF vs ws
 | _,_=>false
end
theorem t97(v:Val)(hv:v.sz≤4611686018427387904):ai pg 97 [v.av]=M.pure (.bool (bA 4 v)):=by
 rw[C97]
 have:=t193 4 (by omega) v hv
 simp at this
 simp[S97,this]
theorem t196(l:List aU)(hb:l.length≤4611686018427387904):ai pg 196 [strs l]=M.pure (.bool (sA l)):=by
 have h:aj (L196_0 (ai pg) aj)=aj (L272_0 (ai pg) aj):=rfl
 rw[C196]
 simp[S196,h,AW (ai pg) l hb (l.length - 1) 1 rfl (by omega)]
def kY:Nat→Val→Bool
 | 0,_=>false
 | d + 1,v=>if (v.kind < 0∨3≤v.kind)∨¬v.names.length=v.values.length then false
  else if v.kind=0 then v.names.length== 0
  else if v.kind=1 then v.names.length== 0&&decide (0≤v.n)&&decide (v.n≤1)
  else if (¬v.n=0∨8 < v.names.length)∨sA v.names=false then false
  else v.values.all (kY d)
theorem t101:∀(d:Nat),d≤4→∀(v:Val),v.sz≤4611686018427387904→ai pg 101 [v.av,.int .i64 d]=M.pure (.bool (kY d v))
 | 0,_,v,_=>by
  rw[C101]
  simp[S101,kY]
 | d + 1,hd,v,hv=>by
  have ih:=t101 d (by omega)
  have h1:=t196 v.names (Nat.le_trans v.sz_names hv)
  have hlen:=v.sz_len
  have hloop:=uU (FL101_0 (ai pg)) (fun k=>[.int .i64 ((d:Int) + 1),.ip (ab v.av),.int .i64 (k:Int)]) v.values.length (fun k=>kY d v.values[k]!)
   (by simp[L101_0]) (fun k hk=>by
    have hx:=ih v.values[k] (by have:=Val.sz_mem (List.getElem_mem hk);omega)
    have hk':(k:Int) < (v.values.length:Int):=by omega
    simp only[L101_0]
    simp (disch:=omega) [hk,hk',aV,qq,hx,show (d:Int) + 1 - 1=d by omega]
    cases kY d v.values[k] <;> simp) 0 (Nat.zero_le _)
  simp only[Nat.sub_zero,mQ] at hloop
  have h0:¬ ((d:Int) + 1 < 1):=by omega
  have h8:((8:Int) < (v.names.length:Int))=(8 < v.names.length):=by rw[eq_iff_iff];omega
  simp at hloop
  rw[C101]
  simp[S101,kY,h0,h1,hloop,h8]
theorem t30(v:Val)(hv:v.sz≤4611686018427387904):ai pg 30 [v.av]=M.pure (.bool (kY 4 v)):=by
 rw[C30]
 have:=t101 4 (by omega) v hv
 simp at this
 simp[S30,this]
theorem t100:∀(d:Nat),d≤100→∀(v:Val),v.Lim→∀ most:Int,0≤most→most≤1000→ai pg 100 [v.av,.int .i64 most,.int .i64 d]=M.pure (.int .i64 (dj d v most))
 | 0,_,v,_,most,h0,h1=>by
  rw[C100]
  simp (disch:=omega) [S100,dj,aV]
 | d + 1,hd,v,hv,most,h0,h1=>by
  have hlen:=hv.len
  have hloop:=uV (FL100_0 (ai pg)) (fun n k=>[.int .i64 most,.int .i64 ((d:Int) + 1),.ip (ab v.av),.int .i64 n,.int .i64 (k:Int)]) most (dj d) v.values
   (fun x _ m h _=>hJ d x m h)
   (fun n=>by simp[L100_0])
   (fun n k hk hn=>by
    have hk':(k:Int) < (v.values.length:Int):=by omega
    have hn':¬ n≤most:=by omega
    simp[L100_0,hk',hn',ax,gv])
   (fun n k hk h2 h3=>by
    have hk':(k:Int) < (v.values.length:Int):=by omega
    have hx:=t100 d (by omega) v.values[k] (hv.kid (List.getElem_mem hk)) (most - n) (by omega) (by omega)
    have hb:=hJ d v.values[k] (most - n) (by omega)
    simp only[L100_0]
    simp (disch:=omega) [hk,hk',h3,aV,qq,hx,show (d:Int) + 1 - 1=d by omega])
   _ 1 0 rfl (by omega) (by omega) (by omega)
  have h1:¬ ((d:Int) + 1 < 1):=by omega
  simp at hloop
  rw[C100]
  simp[S100,dj,h1,hloop]
theorem t99:∀(d:Nat),d≤100→∀(v:Exp),v.Lim→∀ most:Int,0≤most→most≤1000→ai pg 99 [v.av,.int .i64 most,.int .i64 d]=M.pure (.int .i64 (fb d v most))
 | 0,_,v,_,most,h0,h1=>by
  rw[C99]
  simp (disch:=omega) [S99,fb,aV]
 | d + 1,hd,v,hv,most,h0,h1=>by
  have hlen:=hv.len
  have hloop:=uV (FL99_0 (ai pg)) (fun n k=>[.int .i64 most,.int .i64 ((d:Int) + 1),.ip (ab v.av),.int .i64 n,.int .i64 (k:Int)]) most (fb d) v.args
   (fun x _ m h _=>hG d x m h)
   (fun n=>by simp[L99_0])
   (fun n k hk hn=>by
    have hk':(k:Int) < (v.args.length:Int):=by omega
    have hn':¬ n≤most:=by omega
    simp[L99_0,hk',hn',ax,gv])
   (fun n k hk h2 h3=>by
    have hk':(k:Int) < (v.args.length:Int):=by omega
    have hx:=t99 d (by omega) v.args[k] (hv.kid (List.getElem_mem hk)) (most - n) (by omega) (by omega)
    have hb:=hG d v.args[k] (most - n) (by omega)
    simp only[L99_0]
    simp (disch:=omega) [hk,hk',h3,aV,lj,hx,show (d:Int) + 1 - 1=d by omega])
   _ 1 0 rfl (by omega) (by omega) (by omega)
  have h1:¬ ((d:Int) + 1 < 1):=by omega
  simp at hloop
  rw[C99]
  simp[S99,fb,h1,hloop]
theorem t195:∀(d:Nat),d≤100→∀(v:Ty),v.Lim→∀ most:Int,0≤most→most≤1000→ai pg 195 [v.av,.int .i64 most,.int .i64 d]=M.pure (.int .i64 (eL d v most))
 | 0,_,v,_,most,h0,h1=>by
  rw[C195]
  simp (disch:=omega) [S195,eL,aV]
 | d + 1,hd,v,hv,most,h0,h1=>by
  have hlen:=hv.len
  have hloop:=uV (FL195_0 (ai pg)) (fun n k=>[.int .i64 most,.int .i64 ((d:Int) + 1),.ip (ab v.av),.int .i64 n,.int .i64 (k:Int)]) most (fun f=>eL d f.2) v.fields
   (fun x _ m h _=>jO d x.2 m h)
   (fun n=>by simp[L195_0])
   (fun n k hk hn=>by
    have hk':(k:Int) < (v.fields.length:Int):=by omega
    have hn':¬ n≤most:=by omega
    simp[L195_0,hk',hn',ax,gv])
   (fun n k hk h2 h3=>by
    have hk':(k:Int) < (v.fields.length:Int):=by omega
    have hx:=t195 d (by omega) v.fields[k].2 (hv.kid (List.getElem_mem hk)) (most - n) (by omega) (by omega)
    have hb:=jO d v.fields[k].2 (most - n) (by omega)
    simp only[L195_0]
    simp (disch:=omega) [hk,hk',h3,aV,mD,hx,show (d:Int) + 1 - 1=d by omega])
   _ 1 0 rfl (by omega) (by omega) (by omega)
  have h1:¬ ((d:Int) + 1 < 1):=by omega
  simp at hloop
  rw[C195]
  simp[S195,eL,h1,hloop]
theorem yk{α:Type}[Inhabited α](P:α→Bool)(l:List α)(c k:Nat)(hk:k < l.length)(hc:k < c):((l.take c).drop k).all P=(P l[k]! && ((l.take c).drop (k + 1)).all P):=by
 have h:k < (l.take c).length:=by rw[List.length_take];omega
 rw[List.drop_eq_getElem_cons h,List.all_cons,List.getElem_take,getElem!_pos l k hk]
theorem HA(l:List bP)(hl:l.length≤140737488355328)(ht:∀ x∈l,x.2.Lim):∀ r k,9 - k=r→k≤l.length→k≤9→aj (L194_0 (ai pg) aj) [aK l,.int .i64 (k:Int)]=M.pure (.bool (((l.take 9).drop k).all (fun f=>decide (eL 8 f.2 20≤20))&&decide (l.length≤8))):=by
 intro r
 induction r with
 | zero=>
  intro k hr hk h9
  obtain rfl:k=9:=by omega
  have h8:((l.length:Int)≤8)=(l.length≤8):=by rw[eq_iff_iff];omega
  have hd:(l.take 9).drop 9=[]:=List.drop_eq_nil_of_le (List.length_take_le 9 l)
  rw[FL194_0,hd]
  simp only[L194_0]
  by_cases h:(9:Int) < (l.length:Int)
  ·simp[h,h8]
  ·simp[h,h8,ax,gv]
 | succ r ih=>
  intro k hr hk h9
  rw[FL194_0]
  simp only[L194_0]
  have h8:((l.length:Int)≤8)=(l.length≤8):=by rw[eq_iff_iff];omega
  by_cases h:k < l.length
  ·have hk':(k:Int) < (l.length:Int):=by omega
   have hk9:(k:Int) < 9:=by omega
   have hx:=t195 8 (by omega) l[k].2 (ht _ (List.getElem_mem h)) 20 (by omega) (by omega)
   have hi:=ih (k + 1) (by omega) (by omega) (by omega)
   rw[yk _ l 9 k h (by omega)]
   simp at hx hi
   simp (disch:=omega) [h,hk',hk9,aV,mD,hx,hi]
   by_cases hc:eL 8 l[k].2 20≤20
   ·have:¬ 20 < eL 8 l[k].2 20:=by omega
    simp[hc,this]
   ·have:20 < eL 8 l[k].2 20:=by omega
    simp[hc,this]
  ·have hk':¬ (k:Int) < (l.length:Int):=by omega
   have hd:(l.take 9).drop k=[]:=List.drop_eq_nil_of_le (by rw[List.length_take];omega)
   rw[hd]
   simp[hk',ax,gv,h8]
theorem t194(l:List bP)(hl:l.length≤140737488355328)(ht:∀ x∈l,x.2.Lim):ai pg 194 [aK l]=M.pure (.bool (dp l)):=by
 have:=HA l hl ht 9 0 rfl (by omega) (by omega)
 simp at this
 rw[C194]
 simp[S194,this,dp]
theorem rK(e:Exp)(he:e.Lim):ai pg 99 [e.av,.int .i64 40,.int .i64 16]=M.pure (.int .i64 (fb 16 e 40)):=t99 16 (by omega) e he 40 (by omega) (by omega)
theorem m5(e:Exp):decide (40 < fb 16 e 40)= !(c9 e):=by
 unfold c9
 by_cases h:fb 16 e 40≤40
 ·have:¬ 40 < fb 16 e 40:=by omega
  simp[h,this]
 ·have:40 < fb 16 e 40:=by omega
  simp[h,this]
theorem FK(m:Mod)(hm:m.Lim)(es:List Exp)(hlen:es.length≤14)(hes:∀ e∈es,e.Lim):aj (L98_0 (ai pg) aj) [.ip (ab m.av),cb es,.int .i64 0]=M.pure (.bool (es.all c9&&(decide (m.uses.length≤12)&&dp m.vars&&dp m.old&&decide (m.forward.length≤6)&&decide (m.back.length≤6)))):=by
 have key:∀ r k,es.length - k=r→k≤es.length→aj (L98_0 (ai pg) aj) [.ip (ab m.av),cb es,.int .i64 (k:Int)]=M.pure (.bool ((es.drop k).all c9&&(decide (m.uses.length≤12)&&dp m.vars&&dp m.old&&decide (m.forward.length≤6)&&decide (m.back.length≤6)))):=by
  intro r
  induction r with
  | zero=>
   intro k hr hk
   obtain rfl:k=es.length:=by omega
   rw[FL98_0]
   simp only[L98_0]
   have p1:=t194 m.vars hm.vars hm.vty
   have p2:=t194 m.old hm.old hm.oty
   have e1:((m.uses.length:Int)≤12)=(m.uses.length≤12):=by rw[eq_iff_iff];omega
   have e2:((m.forward.length:Int)≤6)=(m.forward.length≤6):=by rw[eq_iff_iff];omega
   have e3:((m.back.length:Int)≤6)=(m.back.length≤6):=by rw[eq_iff_iff];omega
   simp[p1,p2,e1,e2,e3]
  | succ r ih=>
   intro k hr hk
   have h:k < es.length:=by omega
   have hk':(k:Int) < (es.length:Int):=by omega
   have hx:=rK es[k] (hes _ (List.getElem_mem h))
   have hi:=ih (k + 1) (by omega) (by omega)
   have hg:=m5 es[k]
   rw[FL98_0]
   simp only[L98_0]
   rw[List.drop_eq_getElem_cons h,List.all_cons]
   simp at hx hi
   simp (disch:=omega) [h,hk',aV,lj,hx,hi,hg]
   cases c9 es[k] <;> simp
 simpa using key es.length 0 rfl (by omega)
theorem LJ(l:List Exp){n:Int}(h0:0≤n)(h1:n≤l.length):dx T 24 (cb l) none (some (.int .i64 n)) none=some (cb (l.take n.toNat)):=by
 rw[cb,eV,cb,eV,uc (T:=T) (t:=24) (e:=74) rfl rfl rfl _ h0 (by simpa using h1),List.map_take]
theorem FL(m:Mod)(hm:m.Lim):∀ r k,9 - k=r→k≤m.funcs.length→k≤9→aj (L98_1 (ai pg) aj) [.ip (ab m.av),.int .i64 (k:Int)]=M.pure (.bool (((m.funcs.take 9).drop k).all (fun f=>dp f.params&&decide (eL 8 f.result 20≤20))&&((m.forward.take 7++m.back.take 7).all c9&&(decide (m.uses.length≤12)&&dp m.vars&&dp m.old&&decide (m.forward.length≤6)&&decide (m.back.length≤6))))):=by
 have hfw:=hm.forward
 have hbk:=hm.back
 have h0:=FK m hm (m.forward.take 7++m.back.take 7) (by simp;omega) (fun e he=>by
  rcases List.mem_append.1 he with h | h
  ·exact hm.fes e (List.mem_of_mem_take h)
  ·exact hm.bes e (List.mem_of_mem_take h))
 have s1:=LJ m.forward (n:=min (m.forward.length:Int) 7) (by omega) (by omega)
 have s2:=LJ m.back (n:=min (m.back.length:Int) 7) (by omega) (by omega)
 have n1:m.forward.take (min (m.forward.length:Int) 7).toNat=m.forward.take 7:=by
  rw[show (min (m.forward.length:Int) 7).toNat=min 7 m.forward.length by omega,List.take_eq_take_iff]
  omega
 have n2:m.back.take (min (m.back.length:Int) 7).toNat=m.back.take 7:=by
  rw[show (min (m.back.length:Int) 7).toNat=min 7 m.back.length by omega,List.take_eq_take_iff]
  omega
 rw[n1] at s1
 rw[n2] at s2
 have hb:aI T 24 0 []=some (cb []):=rfl
 have a1:=KQ (a:=[]) (b:=m.forward.take 7) (by simp;omega)
 have a2:=KQ (a:=m.forward.take 7) (b:=m.back.take 7) (by simp;omega)
 rw[List.nil_append] at a1
 have hend:∀ k:Nat,9≤k∨m.funcs.length≤k→L98_1 (ai pg) aj (aj (L98_1 (ai pg) aj)) [.ip (ab m.av),.int .i64 (k:Int)]=M.pure (.bool ((m.forward.take 7++m.back.take 7).all c9&&(decide (m.uses.length≤12)&&dp m.vars&&dp m.old&&decide (m.forward.length≤6)&&decide (m.back.length≤6)))):=by
  intro k hk
  have hg:¬ (k < m.funcs.length∧(k:Int) < 9):=by omega
  simp only[L98_1]
  simp[hg,hb,a1,a2,s1,s2]
  simpa using h0
 intro r
 induction r with
 | zero=>
  intro k hr hk h9
  have hd:(m.funcs.take 9).drop k=[]:=List.drop_eq_nil_of_le (by rw[List.length_take];omega)
  rw[FL98_1,hend k (by omega),hd]
  rfl
 | succ r ih=>
  intro k hr hk h9
  rw[FL98_1]
  by_cases h:k < m.funcs.length
  ·have hk':(k:Int) < (m.funcs.length:Int):=by omega
   have hk9:(k:Int) < 9:=by omega
   have hf:=hm.fns _ (List.getElem_mem h)
   have hx:=t194 m.funcs[k].params hf.params hf.pty
   have hy:=t195 8 (by omega) m.funcs[k].result hf.result 20 (by omega) (by omega)
   have hi:=ih (k + 1) (by omega) (by omega) (by omega)
   rw[yk _ m.funcs 9 k h (by omega)]
   simp only[L98_1]
   simp at hx hy hi
   simp (disch:=omega) [h,hk',hk9,aV,sE,hx,hy,hi]
   by_cases hc:eL 8 m.funcs[k].result 20≤20
   ·have:¬ 20 < eL 8 m.funcs[k].result 20:=by omega
    cases dp m.funcs[k].params <;> simp[hc,this]
   ·have:20 < eL 8 m.funcs[k].result 20:=by omega
    cases dp m.funcs[k].params <;> simp[hc,this]
  ·have hd:(m.funcs.take 9).drop k=[]:=List.drop_eq_nil_of_le (by rw[List.length_take];omega)
   rw[hend k (by omega),hd]
   rfl
theorem t98(m:Mod)(hm:m.Lim):ai pg 98 [m.av]=M.pure (.bool (qk m)):=by
 have:=FL m hm 9 0 rfl (by omega) (by omega)
 simp at this
 rw[C98]
 simp[S98,this,qk]
theorem FH(args:List Val)(hl:args.length≤140737488355328)(ha:∀ v∈args,v.Lim):aj (L28_2 (ai pg) aj) [vals args,.int .i64 0]=M.pure (.bool (args.all fun v=>decide (dj 8 v 40≤40))):=by
 have hloop:=uU (FL28_2 (ai pg)) (fun k=>[vals args,.int .i64 (k:Int)]) args.length (fun k=>decide (dj 8 args[k]! 40≤40))
  (by simp[L28_2]) (fun k hk=>by
   have hx:=t100 8 (by omega) args[k] (ha _ (List.getElem_mem hk)) 40 (by omega) (by omega)
   have hk':(k:Int) < (args.length:Int):=by omega
   simp only[L28_2]
   simp at hx
   simp (disch:=omega) [hk,hk',aV,qq,hx]
   by_cases hc:dj 8 args[k] 40≤40
   ·have:¬ 40 < dj 8 args[k] 40:=by omega
    simp[hc,this]
   ·have:40 < dj 8 args[k] 40:=by omega
    simp[hc,this]) 0 (Nat.zero_le _)
 simp only[Nat.sub_zero] at hloop
 rw[mQ (fun v=>decide (dj 8 v 40≤40))] at hloop
 simpa using hloop
theorem FF(p:List Mod)(hp:p.length≤140737488355328)(hm:∀ m∈p,m.Lim)(a:AV)(i:Nat)(hi:i < p.length)(next:List AV→M AV):∀ r k,p[i].funcs.length - k=r→k≤p[i].funcs.length→
  aj (L28_0 (ai pg) aj next) [cw p,a,.int .i64 (i:Int),.int .i64 (k:Int)]=if (p[i].funcs.drop k).all (fun f=>c9 f.body&&decide (f.params.length≤8))=true then next [cw p,a,.int .i64 ((i:Int) + 1)] else M.pure (.bool false):=by
 have hM:=hm _ (List.getElem_mem hi)
 have hfl:=hM.funcs
 have hi':(i:Int) < (p.length:Int):=by omega
 intro r
 induction r with
 | zero=>
  intro k hr hk
  obtain rfl:k=p[i].funcs.length:=by omega
  rw[FL28_0]
  simp only[L28_0]
  simp (disch:=omega) [hi,hi',aV,lr]
 | succ r ih=>
  intro k hr hk
  have h:k < p[i].funcs.length:=by omega
  have hk':(k:Int) < (p[i].funcs.length:Int):=by omega
  have hf:=hM.fns _ (List.getElem_mem h)
  have hx:=rK p[i].funcs[k].body hf.body
  have hg:=m5 p[i].funcs[k].body
  have hn:=ih (k + 1) (by omega) (by omega)
  have e8:((8:Int) < (p[i].funcs[k].params.length:Int))= ¬ (p[i].funcs[k].params.length≤8):=by rw[eq_iff_iff];omega
  rw[FL28_0,List.drop_eq_getElem_cons h,List.all_cons]
  simp only[L28_0]
  simp at hx hn e8
  simp (disch:=omega) [hi,hi',h,hk',aV,lr,sE,hx,hn,hg,e8]
  by_cases hq:p[i].funcs[k].params.length≤8
  ·have hq':¬ 8 < p[i].funcs[k].params.length:=by omega
   cases c9 p[i].funcs[k].body <;> simp[hq,hq']
  ·have hq':8 < p[i].funcs[k].params.length:=by omega
   cases c9 p[i].funcs[k].body <;> simp[hq,hq']
theorem FG(p:List Mod)(hp:p.length≤140737488355328)(hm:∀ m∈p,m.Lim)(a:AV)(i:Nat)(hi:i < p.length)(next:List AV→M AV):∀ r k,p[i].init.length - k=r→k≤p[i].init.length→
  aj (L28_1 (ai pg) aj next) [cw p,a,.int .i64 (i:Int),.int .i64 (k:Int)]=if ((p[i].init.drop k).all c9&&p[i].funcs.all (fun f=>c9 f.body&&decide (f.params.length≤8)))=true then next [cw p,a,.int .i64 ((i:Int) + 1)] else M.pure (.bool false):=by
 have hM:=hm _ (List.getElem_mem hi)
 have hfl:=hM.init
 have hi':(i:Int) < (p.length:Int):=by omega
 intro r
 induction r with
 | zero=>
  intro k hr hk
  obtain rfl:k=p[i].init.length:=by omega
  have h0:=FF p hp hm a i hi next _ 0 rfl (by omega)
  rw[FL28_1]
  simp only[L28_1]
  simp at h0
  simp (disch:=omega) [hi,hi',aV,lr,h0]
 | succ r ih=>
  intro k hr hk
  have h:k < p[i].init.length:=by omega
  have hk':(k:Int) < (p[i].init.length:Int):=by omega
  have hx:=rK p[i].init[k] (hM.ies _ (List.getElem_mem h))
  have hg:=m5 p[i].init[k]
  have hn:=ih (k + 1) (by omega) (by omega)
  rw[FL28_1,List.drop_eq_getElem_cons h,List.all_cons]
  simp only[L28_1]
  simp at hx hn
  simp (disch:=omega) [hi,hi',h,hk',aV,lr,lj,hx,hn,hg]
  cases c9 p[i].init[k] <;> simp
theorem FI(p:List Mod)(hp:p.length≤140737488355328)(hm:∀ m∈p,m.Lim)(args:List Val)(hl:args.length≤140737488355328)(ha:∀ v∈args,v.Lim):
  aj (L28_3 (ai pg) aj) [cw p,vals args,.int .i64 0]=M.pure (.bool (p.all BX&&args.all (fun v=>decide (dj 8 v 40≤40)))):=by
 have h2:=FH args hl ha
 have key:∀ r k,p.length - k=r→k≤p.length→aj (L28_3 (ai pg) aj) [cw p,vals args,.int .i64 (k:Int)]=M.pure (.bool ((p.drop k).all BX&&args.all (fun v=>decide (dj 8 v 40≤40)))):=by
  intro r
  induction r with
  | zero=>
   intro k hr hk
   obtain rfl:k=p.length:=by omega
   rw[FL28_3]
   simp only[L28_3]
   simp[h2]
  | succ r ih=>
   intro k hr hk
   have h:k < p.length:=by omega
   have hk':(k:Int) < (p.length:Int):=by omega
   have hM:=hm _ (List.getElem_mem h)
   have hx:=t98 p[k] hM
   have hn:=ih (k + 1) (by omega) (by omega)
   have h1:=FG p hp hm (vals args) k h (aj (L28_3 (ai pg) aj)) _ 0 rfl (by omega)
   have e1:((4:Int) < (p[k].vars.length:Int))= ¬ (p[k].vars.length≤4):=by rw[eq_iff_iff];omega
   have e2:((6:Int) < (p[k].init.length:Int))= ¬ (p[k].init.length≤6):=by rw[eq_iff_iff];omega
   have e3:((4:Int) < (p[k].funcs.length:Int))= ¬ (p[k].funcs.length≤4):=by rw[eq_iff_iff];omega
   rw[FL28_3,List.drop_eq_getElem_cons h,List.all_cons]
   simp only[L28_3]
   generalize hrest:(List.drop (k + 1) p).all BX=rest at hn ⊢
   generalize hres2:(args.all fun v=>decide (dj 8 v 40≤40))=res2 at hn ⊢
   generalize hin:((List.drop 0 p[k].init).all c9&&p[k].funcs.all (fun f=>c9 f.body&&decide (f.params.length≤8)))=b at h1
   have hin':(p[k].init.all c9&&p[k].funcs.all (fun f=>c9 f.body&&decide (f.params.length≤8)))=b:=hin
   simp only[BX,hin']
   have hz:((0:Nat):Int)=0:=rfl
   rw[hz] at h1
   have hk1:((k + 1:Nat):Int)=(k:Int) + 1:=by omega
   rw[hk1] at hn
   simp (disch:=omega) [h,hk',aV,lr,hx,e1,e2,e3]
   rw[h1,hn]
   by_cases c1:p[k].vars.length≤4
   ·by_cases c2:p[k].init.length≤6
    ·by_cases c3:p[k].funcs.length≤4
     ·have d1:¬ 4 < p[k].vars.length:=by omega
      have d2:¬ 6 < p[k].init.length:=by omega
      have d3:¬ 4 < p[k].funcs.length:=by omega
      cases qk p[k] <;> cases b <;> simp[c1,c2,c3,d1,d2,d3]
     ·have d3:4 < p[k].funcs.length:=by omega
      simp[c3,d3]
    ·have d2:6 < p[k].init.length:=by omega
     simp[c2,d2]
   ·have d1:4 < p[k].vars.length:=by omega
    simp[c1,d1]
 simpa using key p.length 0 rfl (by omega)
theorem t28(p:List Mod)(hp:p.length≤140737488355328)(hm:∀ m∈p,m.Lim)(args:List Val)(hl:args.length≤140737488355328)(ha:∀ v∈args,v.Lim)(world:List Int)(fuel:Int):
  ai pg 28 [cw p,vals args,ints world,.int .i64 fuel]=M.pure (.bool (zl p args world fuel)):=by
 have h3:=FI p hp hm args hl ha
 rw[C28]
 simp[S28,h3,zl]
 by_cases c1:p.length≤4
 ·by_cases c2:args.length≤8
  ·by_cases c3:world.length≤30
   ·by_cases c4:fuel≤2000
    ·have d1:¬ (4:Int) < (p.length:Int):=by omega
     have d2:¬ (8:Int) < (args.length:Int):=by omega
     have d3:¬ (30:Int) < (world.length:Int):=by omega
     have d4:¬ 2000 < fuel:=by omega
     simp[c1,c2,c3,c4,d1,d2,d3,d4]
    ·have d4:2000 < fuel:=by omega
     simp[c4,d4]
   ·have d3:(30:Int) < (world.length:Int):=by omega
    simp[c3,d3]
  ·have d2:(8:Int) < (args.length:Int):=by omega
   simp[c2,d2]
 ·have d1:(4:Int) < (p.length:Int):=by omega
  simp[c1,d1]
def K8(l:List Vars):Prop:=l.length≤140737488355328∧∀ x∈l,bT x.values≤4611686018427387904
structure OutLim (o:Out):Prop where
 deeds:o.deeds.length≤140737488355328
 calls:o.calls.length≤140737488355328
 args:∀ c∈o.calls,bT c.args≤4611686018427387904
 state:K8 o.state
 value:o.value.sz≤4611686018427387904
theorem HB(f:AV)(F:Mod→Bool)(l:List Mod)(hb:l.length≤4611686018427387904)(hf:∀ x∈l,bw (ai pg) f [Mod.av x]=M.pure (.bool (F x))):∀(n:Nat)(i:Int),l.length - i.toNat=n→0≤i→i≤l.length→
  aj (L200_0 (ai pg) aj) [cw l,f,.int .i64 l.length,.int .i64 i]=M.pure (.int .i64 (aZ F (l.drop i.toNat) i)):=by
 intro n
 induction n with
 | zero=>
  intro i hn hi hl
  rw[FL200_0]
  simp only[L200_0]
  have h1:¬ (i < (l.length:Int)):=by omega
  have h2:l.drop i.toNat=[]:=List.drop_eq_nil_of_le (by omega)
  simp[h1,h2,aZ]
 | succ n ih=>
  intro i hn hi hl
  have h1:i < (l.length:Int):=by omega
  have hlt:i.toNat < l.length:=by omega
  have h2:aZ F (l.drop i.toNat) i=if F l[i.toNat]=true then i else aZ F (l.drop (i.toNat + 1)) (i + 1):=by rw[List.drop_eq_getElem_cons hlt];rfl
  have h3:=hf l[i.toNat] (List.getElem_mem hlt)
  have h4:=ih (i + 1) (by omega) (by omega) (by omega)
  rw[show (i + 1).toNat=i.toNat + 1 by omega] at h4
  rw[FL200_0]
  simp only[L200_0]
  simp (disch:=omega) [h1,aV,lr,h3,h2]
  cases F l[i.toNat]
  ·simpa using h4
  ·simp
theorem t200(f:AV)(F:Mod→Bool)(l:List Mod)(hb:l.length≤4611686018427387904)(hc:∀ g,cl g f=f)(hf:∀ x∈l,bw (ai pg) f [Mod.av x]=M.pure (.bool (F x))):ai pg 200 [cw l,f]=M.pure (.int .i64 (aZ F l 0)):=by
 rw[C200]
 simp[S200,hc,HB f F l hb hf l.length 0 rfl (by omega) (by omega)]
theorem t236(f:AV)(F:Mod→Bool)(l:List Mod)(hb:l.length≤4611686018427387904)(hc:∀ g,cl g f=f)(hf:∀ x∈l,bw (ai pg) f [Mod.av x]=M.pure (.bool (F x))):ai pg 236 [cw l,f]=M.pure (.bool (l.any F)):=by
 rw[C236]
 simp[S236,hc,t200 f F l hb hc hf,kf]
theorem HC(f:AV)(F:Fun→Bool)(l:List Fun)(hb:l.length≤4611686018427387904)(hf:∀ x∈l,bw (ai pg) f [Fun.av x]=M.pure (.bool (F x))):∀(n:Nat)(i:Int),l.length - i.toNat=n→0≤i→i≤l.length→
  aj (L203_0 (ai pg) aj) [eW l,f,.int .i64 l.length,.int .i64 i]=M.pure (.int .i64 (aZ F (l.drop i.toNat) i)):=by
 intro n
 induction n with
 | zero=>
  intro i hn hi hl
  rw[FL203_0]
  simp only[L203_0]
  have h1:¬ (i < (l.length:Int)):=by omega
  have h2:l.drop i.toNat=[]:=List.drop_eq_nil_of_le (by omega)
  simp[h1,h2,aZ]
 | succ n ih=>
  intro i hn hi hl
  have h1:i < (l.length:Int):=by omega
  have hlt:i.toNat < l.length:=by omega
  have h2:aZ F (l.drop i.toNat) i=if F l[i.toNat]=true then i else aZ F (l.drop (i.toNat + 1)) (i + 1):=by rw[List.drop_eq_getElem_cons hlt];rfl
  have h3:=hf l[i.toNat] (List.getElem_mem hlt)
  have h4:=ih (i + 1) (by omega) (by omega) (by omega)
  rw[show (i + 1).toNat=i.toNat + 1 by omega] at h4
  rw[FL203_0]
  simp only[L203_0]
  simp (disch:=omega) [h1,aV,sE,h3,h2]
  cases F l[i.toNat]
  ·simpa using h4
  ·simp
theorem t203(f:AV)(F:Fun→Bool)(l:List Fun)(hb:l.length≤4611686018427387904)(hc:∀ g,cl g f=f)(hf:∀ x∈l,bw (ai pg) f [Fun.av x]=M.pure (.bool (F x))):ai pg 203 [eW l,f]=M.pure (.int .i64 (aZ F l 0)):=by
 rw[C203]
 simp[S203,hc,HC f F l hb hf l.length 0 rfl (by omega) (by omega)]
theorem t241(m:Mod)(s:aU):ai pg 241 [m.av,.ip [.str s]]=M.pure (.bool (m.name== s)):=by
 rw[C241];simp[S241,cl,dL]
theorem t242(f:Fun)(s:aU):ai pg 242 [f.av,.ip [.str s]]=M.pure (.bool (f.name== s)):=by
 rw[C242];simp[S242,cl,dL]
theorem t237(m w:Mod):ai pg 237 [m.av,.ip (ab w.av)]=M.pure (.bool (m.name== w.name)):=by
 rw[C237];simp[S237,cl,dL]
theorem Mc(p:List Mod)(hp:p.length≤4611686018427387904)(s:aU):ai pg 200 [cw p,.fn (.func 241) [] [.ip [.str s]]]=M.pure (.int .i64 (modAt p s)):=
 t200 _ _ p hp (fun g=>rfl) (fun m _=>t241 m s)
theorem Md(p:List Fun)(hp:p.length≤4611686018427387904)(s:aU):ai pg 203 [eW p,.fn (.func 242) [] [.ip [.str s]]]=M.pure (.int .i64 (kb p s)):=
 t203 _ _ p hp (fun g=>rfl) (fun m _=>t242 m s)
theorem t264(n:Int):ai pg 264 [.int .i64 n]=M.pure (Val.mk 0 n [] []).av:=by
 rw[C264]
 rfl
theorem t265(b:Bool):ai pg 265 [.bool b]=M.pure (fP b).av:=by
 rw[C265]
 cases b <;> rfl
theorem t245(b:Bool)(n:Int):ai pg 245 [.bool b,.int .i64 n]=if b=true then M.pure (.tup []) else iE (.iface 33 (.int .i64 n)):=by
 rw[C245]
 cases b <;> rfl
theorem JM(l:List aU):dx T 22 (strs l) none (some (.int .i64 l.length)) (some (.int .i64 l.length))=some (strs l):=by
 have:=pT (T:=T) (t:=22) (e:=9) rfl rfl rfl (l.map AV.str)
 simpa [strs] using this
theorem JL(l:List Val):dx T 47 (vals l) none (some (.int .i64 l.length)) (some (.int .i64 l.length))=some (vals l):=by
 have:=pT (T:=T) (t:=47) (e:=51) rfl rfl rfl (eF l)
 simpa [vals,cI] using this
theorem t293(l:List aU):ai pg 293 [strs l]=M.pure (strs l):=by
 rw[C293]
 simp[S293,JM,bM (a:=strs l) fun g=>mg g l]
theorem t294(l:List Val):ai pg 294 [vals l]=M.pure (vals l):=by
 rw[C294]
 simp[S294,JL]
end Go.Proofs.YtkkabinknmldeaaGreat
