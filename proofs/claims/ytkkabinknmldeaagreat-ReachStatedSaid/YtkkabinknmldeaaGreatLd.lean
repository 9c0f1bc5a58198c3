/- The abstract evaluator of the model and plain laws, part 4: its soundness holds for every program whose table of types is the evaluator's. No further condition. -/
import Derived.Test.YtkkabinknmldeaaGreatLc
import Derived.Below
import Derived.Shelf.SlSortCmp.WholeK
import Derived.Test.YtkkabinknmldeaaGreatLb
import Derived.Lib.Bytealg
import Derived.IntWalk
import Derived.ChangeSame
import Derived.OpenShut
import Derived.ChangeReads
import Derived.ReadAgain
import Derived.Deep.Slices
import Derived.WideShapes
import Derived.SizedLaws
import Derived.Sort.AssemblyPlain
set_option linter.unusedSimpArgs false
set_option linter.unusedVariables false
namespace Go.Av
open Go.RowKit Go.Sort Go.Proofs
section
variable [Dr]
theorem Left.grew(hd:Dr.on){S S':au}{β β':List bn}{w w':World}{h':Hp}(L:Left (bX [] []) S β w S' β' w' h'):∃ q os,w'=grow (w.drewN q) os:=by
 have hg:=L.gro
 have hd:=hg.cnt hd
 have hk:∀ b,b < w.heap.size→w'.heap[b]? = w.heap[b]?:=fun b hb=>(L.keep b hb (by rintro⟨l,_,_,h1,_⟩;simp at h1)).1
 refine⟨w'.drawn - w.drawn,w'.heap.extract w.heap.size w'.heap.size,?_⟩
 have e1:w.heap++w'.heap.extract w.heap.size w'.heap.size=w'.heap:=by
  apply Array.ext_getElem?
  intro i
  by_cases hi:i < w.heap.size
  ·rw[Array.getElem?_append_left hi,hk i hi]
  ·rw[Array.getElem?_append_right (by omega),Array.getElem?_extract]
   split
   ·rw[show w.heap.size + (i - w.heap.size)=i by omega]
   ·rw[Array.getElem?_eq_none (by omega)]
 have e2:w.drawn + (w'.drawn - w.drawn)=w'.drawn:=by omega
 obtain⟨h1,h2,h3,h4,h5⟩:=w'
 obtain⟨g1,g2,g3,g4,g5⟩:=w
 have a1:=hg.os;have a2:=hg.out;have a3:=hg.tape
 simp only at a1 a2 a3 e1 e2
 unfold grow World.drewN
 simp only[e1,e2,a1,a2,a3]
end
theorem ku{α β:Type}(f:α→List β)(k:Nat)(hk:∀ x,(f x).length=k)(hp:0 < k):∀(l:List α)(t:Nat),(l.map f).flatten[t]? = (l[t / k]?).bind fun x=>(f x)[t % k]?
 | [],t=>by simp
 | x:: l,t=>by
  simp only[List.map_cons,List.flatten_cons]
  by_cases h:t < k
  ·rw[List.getElem?_append_left (by rw[hk];exact h),Nat.div_eq_of_lt h,Nat.mod_eq_of_lt h];simp
  ·rw[List.getElem?_append_right (by rw[hk];omega),hk,ku f k hk hp l (t - k)]
   rw[Nat.div_eq_sub_div hp (by omega:k≤t),Nat.mod_eq_sub_mod (by omega:k≤t)]
   simp
theorem kv{α β:Type}(f:α→List β)(k:Nat)(hk:∀ x,(f x).length=k):∀(l:List α),(l.map f).flatten.length=l.length * k
 | []=>by simp
 | x:: l=>by simp only[List.map_cons,List.flatten_cons,List.length_append,hk,kv f k hk l,List.length_cons,Nat.succ_mul];omega
section
variable {α:Type} [Inhabited α]
theorem fT(enc:α→List Value)(k:Nat)(hk:∀ x,(enc x).length=k)(hp:0 < k)(d:Array α):(flatK enc k d).toList=(d.toList.map enc).flatten:=by
 apply List.ext_getElem?
 intro t
 rw[ku enc k hk hp]
 by_cases ht:t < d.size * k
 ·have hd:t / k < d.size:=by rw[Nat.div_lt_iff_lt_mul hp];exact ht
  have hm:t % k < k:=Nat.mod_lt _ hp
  have h1:=get_flatK enc k d t ht
  rw[getElem!_pos (flatK enc k d) t (by rw[size_flatK];exact ht),getElem!_pos d _ hd,getElem!_pos (enc _) _ (by rw[hk];exact hm)] at h1
  rw[List.getElem?_eq_getElem (by simpa using ht),Array.getElem_toList,h1,Array.getElem?_toList,Array.getElem?_eq_getElem hd]
  simp only[Option.bind_some]
  rw[List.getElem?_eq_getElem (by rw[hk];exact hm)]
 ·rw[List.getElem?_eq_none (by simp only[Array.length_toList,size_flatK];omega),List.getElem?_eq_none (by simp only[Array.length_toList];rw[Nat.le_div_iff_mul_le hp];omega)]
  rfl
theorem sF(F x:Array Value)(off:Nat)(hf:off + F.size≤x.size):putCells id off F x=(x.toList.take off++F.toList++x.toList.drop (off + F.size)).toArray:=by
 apply Array.ext_getElem?
 intro t
 unfold putCells
 simp only[Array.getElem?_mapIdx,List.getElem?_toArray]
 by_cases h1:t < off
 ·rw[List.getElem?_append_left (by simp;omega),List.getElem?_append_left (by simp;omega),List.getElem?_take,if_pos h1,Array.getElem?_toList,Array.getElem?_eq_getElem (by omega)]
  simp only[Option.map_some]
  rw[if_neg (by omega)]
 ·by_cases h2:t < off + F.size
  ·rw[List.getElem?_append_left (by simp;omega),List.getElem?_append_right (by simp;omega)]
   have e:(x.toList.take off).length=off:=by simp;omega
   rw[e,Array.getElem?_eq_getElem (by omega:t < x.size),Array.getElem?_toList,Array.getElem?_eq_getElem (by omega:t - off < F.size)]
   simp only[Option.map_some,id]
   rw[if_pos ⟨by omega,h2⟩,getElem!_pos F _ (by omega)]
  ·have e:(x.toList.take off++F.toList).length=off + F.size:=by simp;omega
   rw[List.getElem?_append_right (by rw[e];omega),e,List.getElem?_drop,Array.getElem?_toList,show off + F.size + (t - (off + F.size))=t by omega]
   cases x[t]? with
   | none=>rfl
   | some y=>simp only[Option.map_some];rw[if_neg (by omega)]
theorem rS{w:World}{b:Nat}{x:Array Value}(hr:Row w b x)(enc:α→List Value)(k off n:Nat)(d:Array α)(os:Array Obj)(hf:off + d.size * k≤x.size):
  Row (sortWorldK enc k w b off n d os) b (x.toList.take off++(flatK enc k d).toList++x.toList.drop (off + (flatK enc k d).size)).toArray:=by
 have hlt:=hr.lt
 obtain⟨e,he⟩:=hr
 refine⟨e,?_⟩
 rw[← sF (flatK enc k d) x off (by rw[size_flatK];exact hf)]
 show ((w.heap.modify b (onCells (putCells id off (flatK enc k d))))++os)[b]? = _
 rw[Array.getElem?_append_left (by simpa using hlt),Array.getElem?_modify,if_pos rfl,he]
 rfl
theorem iO{w:World}{b b':Nat}(enc:α→List Value)(k off n:Nat)(d:Array α)(os:Array Obj)(hlt:b' < w.heap.size)(hb:b'≠b):(sortWorldK enc k w b off n d os).heap[b']? = w.heap[b']?:=by
 show ((w.heap.modify b (onCells (putCells id off (flatK enc k d))))++os)[b']? = _
 rw[Array.getElem?_append_left (by simpa using hlt),Array.getElem?_modify,if_neg (fun h=>hb h.symm)]
theorem rR[Dr]{w:World}{b:Nat}(enc:α→List Value)(k off n:Nat)(d:Array α)(os:Array Obj):Gro w (sortWorldK enc k w b off n d os):=by
 refine⟨?_,rfl,rfl,rfl,fun _=>?_⟩
 ·show _≤((w.heap.modify b (onCells (putCells id off (flatK enc k d))))++os).size
  simp
 ·show w.drawn≤w.drawn + n
  omega
end
section
variable [Dr] {S:au} {β:List bn} {h:Hp} {w w':World}
theorem wY(hw:Wf S w)(hh:ca S β w h){l b nb off:Nat}{cs acs:List AV}{vs:List Value}(hcs:h[l]? = some cs)(hne:cs≠[])(hb:β[l]? = some (b,nb))(hb0:nb≠0)(hvs:aM S β acs vs)(hle:off + acs.length≤cs.length)(hoc:cs.all aO=true)(hoa:acs.all aO=true) (hg:Gro w w')
  (hr:∀ x,Row w b x→cs.length≤x.size→Row w' b (x.toList.take off++vs++x.toList.drop (off + vs.length)).toArray) (ho:∀ b',b' < w.heap.size→b'≠b→w'.heap[b']? = w.heap[b']?):
  Left (bX β h) S β w S β w' (h.set l (setCells cs off acs)):=by
 obtain⟨hlen,ω,hH⟩:=hh
 obtain⟨z,j1,j2,j3,j4,j5⟩:=dY.cells hH hcs hne hb hb0
 rw[hb] at j1;cases j1
 have hvl:=hvs.length
 have hzs:cs.length≤z.size:=by
  have:=j4.length
  simp at this
  omega
 have hrow:=hr z j2 hzs
 have hll:l < h.length:=by
  rcases Nat.lt_or_ge l h.length with k | k
  ·exact k
  ·rw[List.getElem?_eq_none k] at hcs;cases hcs
 have hown:∀ b',bX β (h.set l (setCells cs off acs)) b'→bX β h b':=by
  rintro b' ⟨l',cs',n,k1,k2,k3⟩
  by_cases hl:l'=l
  ·subst hl
   exact⟨l',cs,n,hcs,hne,k3⟩
  ·rw[List.getElem?_set_ne (fun e=>hl e.symm)] at k1
   exact⟨l',cs',n,k1,k2,k3⟩
 refine⟨au.le_refl S,eZ.refl β,fun b' o v hv=>?_,hg,fun b' hb' hE=>?_,⟨by simpa using hlen,ω,dY.rows hH (au.le_refl S) (eZ.refl β) hlen fun l' cs' hl' hne'=>?_⟩,fun b' hb'=>.inl (hown b' hb')⟩
 ·have hne2:b'≠b:=by rintro rfl;rw[j5] at hv;cases hv
  rw[cell_of_heap (ho b' (hw.lt hv) hne2)]
  exact hw b' o v hv
 ·have hne2:b'≠b:=by rintro rfl;exact hE ⟨l,cs,_,hcs,hne,hb⟩
  exact⟨ho b' hb' hne2,fun _=>rfl⟩
 ·by_cases hl:l'=l
  ·subst hl
   rw[List.getElem?_set_self hll] at hl'
   cases hl'
   refine .inr ⟨b,_,?_,hrow,j3,?_,j5,fun t ht=>?_⟩
   ·rw[hb];simp;omega
   ·rw[eY _ _ _ (by omega)]
    have hsp:aM S β (setCells cs off acs) (((z.toList.take cs.length).take off++vs++(z.toList.take cs.length).drop (off + vs.length))):=by
     unfold setCells
     rw[hvl]
     exact ((j4.take off).append hvs).append (j4.drop _)
    have heq:(z.toList.take off++vs++z.toList.drop (off + vs.length)).take cs.length=
      (z.toList.take cs.length).take off++vs++(z.toList.take cs.length).drop (off + vs.length):=by
     rw[List.take_append,List.take_append]
     have e1:(z.toList.take off).length=off:=by simp;omega
     rw[List.take_take,List.take_take]
     have e2:min cs.length off=off:=by omega
     have e3:min off cs.length=off:=by omega
     rw[e2,e3,e1]
     have e4:vs.take (cs.length - off)=vs:=List.take_of_length_le (by omega)
     rw[e4]
     congr 1
     rw[List.take_drop,List.length_append,e1]
     congr 2
     omega
    show aM S β _ (List.take _ _)
    rw[show (z.toList.take off++vs++z.toList.drop (off + vs.length)).toArray.toList=(z.toList.take off++vs++z.toList.drop (off + vs.length)) from rfl,heq]
    exact hsp
   ·rcases ht.setCells with g | g
    ·exact absurd g (ij hoc t)
    ·exact absurd g (ij hoa t)
  ·rw[List.getElem?_set_ne (fun e=>hl e.symm)] at hl'
   refine .inl ⟨hl',fun b2 hlt hω=>⟨hω,ho b2 hlt ?_,fun o=>id⟩⟩
   rintro rfl
   rw[j3] at hω
   cases hω
   exact hl rfl
end
structure Els (α:Type) where
 k:Nat
 ea:α→List AV
 ev:α→List Value
 dec:List AV→Option (List α)
structure ElsOK {α:Type} (X:Els α):Prop where
 pos:0 < X.k
 la:∀ x,(X.ea x).length=X.k
 lv:∀ x,(X.ev x).length=X.k
 one:∀ x,∀ v∈X.ev x,v.oneCell'=true
 vr:∀(S:au)(β:List bn)(x:α),aM S β (X.ea x) (X.ev x)
 rv:∀(S:au)(β:List bn)(x:α)(vs:List Value),aM S β (X.ea x) vs→vs=X.ev x
 dec:∀ cs l,X.dec cs=some l→cs=(l.map X.ea).flatten
theorem ElsOK.flat{α:Type}{X:Els α}(hX:ElsOK X)(S:au)(β:List bn):∀ l:List α,aM S β (l.map X.ea).flatten (l.map X.ev).flatten
 | []=>by simp[aM]
 | x:: l=>by simp only[List.map_cons,List.flatten_cons];exact (hX.vr S β x).append (hX.flat S β l)
theorem aM.split{S:au}{β:List bn}:{ps qs:List AV} →{vs:List Value} →aM S β (ps++qs) vs→∃ u v,vs=u++v∧aM S β ps u∧aM S β qs v
 | [],_,vs,h=>⟨[],vs,rfl,by simp[aM],h⟩
 | _:: ps,qs,vs,h=>by
  simp only[List.cons_append,aM] at h
  obtain⟨x,xs,rfl,h1,h2⟩:=h
  obtain⟨u,v,rfl,h3,h4⟩:=aM.split h2
  exact⟨x:: u,v,rfl,by simp only[aM];exact⟨x,u,rfl,h1,h3⟩,h4⟩
theorem ElsOK.unflat{α:Type}{X:Els α}(hX:ElsOK X){S:au}{β:List bn}:∀(l:List α)(vs:List Value),aM S β (l.map X.ea).flatten vs→vs=(l.map X.ev).flatten
 | [],vs,h=>by simpa [aM] using h
 | x:: l,vs,h=>by
  simp only[List.map_cons,List.flatten_cons] at h ⊢
  obtain⟨u,v,rfl,h1,h2⟩:=aM.split h
  rw[hX.rv S β x u h1,hX.unflat l v h2]
def lG{α:Type}(X:Els α)(g:Nat)(srt:List α→List α):(FuncId→List AV→M AV)→List AV→M AV:=fun _ args h=>match args with
 | [.sl [],.fn (.func g') [] []]=>bif Nat.beq g' g then .ok (.tup []) h else .fail
 | [.hs l off len sz _,.fn (.func g') [] []]=>match h[l]? with
  | none=>.fail
  | some cs=>match X.dec ((cs.drop off).take (len * X.k)) with
   | none=>.fail
   | some xs=>bif Nat.beq g' g&&Nat.beq sz X.k&&decide (0 < len)&&decide (off + len * X.k≤cs.length)&&decide (xs.length=len)&&decide (len < 4611686018427387904)&&decide ((srt xs).length=len)&&cs.all aO&&((srt xs).map X.ea).flatten.all aO
     then .ok (.tup []) (h.set l (setCells cs off ((srt xs).map X.ea).flatten)) else .fail
 | _=>.fail
section
variable [Dr] {α:Type} [Inhabited α] {P:Program}
theorem Hu{X:Els α}(hX:ElsOK X){f g:Nat}{srt:List α→List α} (call:FuncId→List AV→M AV)
  (hcal:∀(w:World)(blk off cap:Nat)(d:Array α),GOKw w→gN≤blk→HoldsK X.ev X.k w blk off d→blk < w.heap.size→d.size < 4611686018427387904→
   Calls P f #[.slice (some ⟨blk,off,none⟩) d.size cap,.func (.func g) #[] #[]] w fun e w'=>e= .returned (.tuple #[])∧∃ n os,w'=sortWorldK X.ev X.k w blk off n (srt d.toList).toArray os)
  {l off len sz g':Nat} {ag:Bool} {h:Hp} {S:au} {β:List bn} {w:World} {vs:List Value} (hr:lG X g srt call [.hs l off len sz ag,.fn (.func g') [] []] h≠.fail) (hg:sa β h w) (hw:Wf S w) (hh:ca S β w h)
  (hv:aM S β [.hs l off len sz ag,.fn (.func g') [] []] vs):Calls P f vs.toArray w (dl none S β h w (lG X g srt call [.hs l off len sz ag,.fn (.func g') [] []] h)):=by
 unfold lG at hr ⊢
 simp only at hr ⊢
 cases hl:h[l]? with
 | none=>rw[hl] at hr;exact absurd rfl hr
 | some cs=>
  rw[hl] at hr
  simp only at hr ⊢
  cases hd:X.dec ((cs.drop off).take (len * X.k)) with
  | none=>rw[hd] at hr;exact absurd rfl hr
  | some xs=>
   rw[hd] at hr
   simp only at hr ⊢
   cases hc:(Nat.beq g' g&&Nat.beq sz X.k&&decide (0 < len)&&decide (off + len * X.k≤cs.length)&&decide (xs.length=len)&&decide (len < 4611686018427387904)&&decide ((srt xs).length=len)&&cs.all aO&&((srt xs).map X.ea).flatten.all aO) with
   | false=>rw[hc] at hr;exact absurd rfl hr
   | true=>
    simp only[Bool.and_eq_true,decide_eq_true_eq] at hc
    obtain⟨⟨⟨⟨⟨⟨⟨⟨c1,c2⟩,c3⟩,c4⟩,c5⟩,c6⟩,c7⟩,c8⟩,c9⟩:=hc
    obtain rfl:=Nat.eq_of_beq_eq_true c1
    obtain rfl:=Nat.eq_of_beq_eq_true c2
    simp only[cond_true]
    have hpos:=hX.pos
    have hlk:0 < len * X.k:=Nat.mul_pos c3 hpos
    have hne:cs≠[]:=by rintro rfl;simp at c4;omega
    simp only[aM] at hv
    obtain⟨v1,r1,rfl,hv1,v2,r2,rfl,hv2,rfl⟩:=hv
    obtain⟨⟨b,nb⟩,cap,hb,hb0,rfl,k1,k2⟩:=hv1.hs_pos c3
    simp only[VR,aM] at hv2
    obtain⟨y1,y2,rfl,rfl,rfl⟩:=hv2
    have hh':=hh
    obtain⟨hlen,ω,hH⟩:=hh
    obtain⟨z,j1,j2,j3,j4,j5⟩:=dY.cells hH hl hne hb hb0
    rw[hb] at j1;cases j1
    have hzs:cs.length≤z.size:=by
     have:=j4.length
     simp at this
     omega
    have hown:bX β h b:=⟨l,cs,_,hl,hne,hb⟩
    have hgb:gN≤b:=by
     rcases Nat.lt_or_ge b gN with k | k
     ·exact absurd hown (hg.2 b k)
     ·exact k
    have hxs:=hX.dec _ _ hd
    have hvx:=hX.unflat (S:=S) (β:=β) xs _ (by rw[← hxs];exact (j4.drop off).take (len * X.k))
    have hflat:=fT X.ev X.k hX.lv hpos xs.toArray
    have hsz:(flatK X.ev X.k xs.toArray).size=len * X.k:=by rw[size_flatK];simp[c5]
    have hholds:HoldsK X.ev X.k w b off xs.toArray:=by
     intro j hj
     rw[hsz] at hj
     have e1:(flatK X.ev X.k xs.toArray)[j]! = z[off + j]'(by omega):=by
      have h1:(flatK X.ev X.k xs.toArray).toList[j]? = z.toList[off + j]?:=by
       rw[hflat,show xs.toArray.toList=xs from rfl,← hvx,List.getElem?_take,if_pos hj,List.getElem?_drop,List.getElem?_take,if_pos (by omega)]
      rw[Array.getElem?_toList,Array.getElem?_toList,Array.getElem?_eq_getElem (by omega),Array.getElem?_eq_getElem (by omega)] at h1
      rw[getElem!_pos _ j (by omega)]
      exact Option.some.inj h1
     rw[e1]
     refine⟨by rw[j2.cell,Array.getElem?_eq_getElem (by omega)];rfl,?_⟩
     obtain⟨e,he⟩:=j2
     simp[World.frozen?,he]
    have hcall:=hcal w b off cap xs.toArray hg.1 hgb hholds j2.lt (by simpa [c5] using c6)
    rw[show xs.toArray.size=len by simp[c5]] at hcall
    refine hcall.mono ?_
    rintro e w' ⟨rfl,n,os,rfl⟩
    have hfl2:=fT X.ev X.k hX.lv hpos (srt xs).toArray
    have hs2:(flatK X.ev X.k (srt xs).toArray).size=len * X.k:=by rw[size_flatK];simp[c7]
    have hal:((srt xs).map X.ea).flatten.length=len * X.k:=by rw[kv X.ea X.k hX.la,c7]
    refine⟨S,β,_,rfl,by simp only[VR,aM];exact⟨[],rfl,rfl⟩,wY (vs:=(flatK X.ev X.k (srt xs).toArray).toList) hw hh' hl hne hb hb0 (by rw[hfl2];exact hX.flat S β (srt xs)) (by rw[hal];exact c4) c8 c9 (rR X.ev X.k off n _ os) (fun x hx hle=>?_) (fun b' hlt hne2=>iO X.ev X.k off n _ os hlt hne2),fun _ hsz=>by cases hsz⟩
    have:=rS hx X.ev X.k off n (srt xs).toArray os (by simp only[List.size_toArray,c7];omega)
    exact this
end
end Go.Av
namespace Go.Av.Ap
open Go Go.Av
abbrev aD:=aW×aW
def aP(r:aD):AV:=.agg [.str r.1,.str r.2]
def aU(l:List aD):AV:=.sl (l.map aP)
def zD(l:List (List aD)):AV:=.sl (l.map aU)
@[simp] theorem eF(r:aD):ab (aP r)=[.str r.1,.str r.2]:=rfl
@[simp] theorem iD(r:aD):AV.agg [.str r.1,.str r.2]=aP r:=rfl
@[simp] theorem gz(r:aD):ct 2 (aP r)=true:=rfl
@[simp] theorem Ck(l:List aD):cQ 2 (l.map aP)=true:=cW gz l
@[simp] theorem km(g:Nat→Nat→Nat→Nat→Bool→AV)(r:aD):cl g (aP r)=aP r:=rfl
@[simp] theorem Ai(g:Nat→Nat→Nat→Nat→Bool→AV)(l:List aD):cl g (aU l)=aU l:=by simp[aU,cl,dF g aP (km g)]
@[simp] theorem ME(g:Nat→Nat→Nat→Nat→Bool→AV)(l:List (List aD)):cl g (zD l)=zD l:=by simp[zD,cl,dF g aU (Ai g)]
section
variable {V:Type}
def gB:List (aD×V)→aD→V→List (aD×V)
 | [],k,v=>[(k,v)]
 | x:: r,k,v=>if x.1=k then (k,v):: r else x:: gB r k v
def eu:List (aD×V)→aD→Option V
 | [],_=>none
 | x:: r,k=>if x.1=k then some x.2 else eu r k
def bV(f:V→AV)(x:aD×V):AV:=.tup [aP x.1,f x.2]
def ma(m:aW)(l:List (aW×V))(out:List (aD×V)):List (aD×V):=l.foldr (fun f o=>gB o (m,f.1) f.2) out
def jc:List (aW×List (aW×V))→List aW→List (aD×V)→List (aD×V)
 | [],_,out=>out
 | m:: ms,seen,out=>if m.1∈seen then jc ms seen out else jc ms (seen++[m.1]) (ma m.1 m.2 out)
end
def wD:AV→Option (aW×AV)
 | .agg [.str s,.bool p,.sl l,.int .i64 k,.sl fs,.int .i64 e,.int .i64 o,.int .i64 n,.str a,.str b,.sl ns,.sl es]=>some (s,.agg [.str s,.bool p,.sl l,.int .i64 k,.sl fs,.int .i64 e,.int .i64 o,.int .i64 n,.str a,.str b,.sl ns,.sl es])
 | _=>none
def zt:AV→Option (aW×List (aW×AV))
 | .agg [.str s,.sl _,.sl _,.sl _,.sl fs,.bool _,.sl _,.sl _,.sl _]=>(fs.mapM wD).map fun l=>(s,l)
 | _=>none
def qS:(FuncId→List AV→M AV)→List AV→M AV:=fun _ args h=>match args with
 | [.sl ms]=>(match ms.mapM zt with
  | some l=>if l.length≤1000000∧∀ m∈l,m.2.length≤1000000 then .ok (.mp h.length) (h++[[.tup ((jc l [] []).map (bV id))]]) else .fail
  | none=>.fail)
 | _=>.fail
def ri(a b:aD):Bool:=aG a.1 b.1||(a.1== b.1&&aG a.2 b.2)
def sC(a b:aD):Bool:=!(ri b a)
def qT(x:aD):List aD→List aD
 | []=>[x]
 | y:: l=>if sC x y=true then x:: y:: l else y:: qT x l
def cY:List aD→List aD
 | []=>[]
 | x:: l=>qT x (cY l)
def wP:AV→Option aD
 | .tup [.agg [.str a,.str b],_]=>some (a,b)
 | _=>none
def lx (gs:List Nat) (o:Nat):(FuncId→List AV→M AV)→List AV→M AV:=fun _ args h=>match args with
 | [.fn (.func g) [] [.ip [x]],.fn (.func o') [] []]=>bif eD gs g&&Nat.beq o o' then
   (match gq h x with
   | some es=>(match es.mapM wP with
    | some ks=>if ks.length≤1000000 then .ok (aU (cY ks)) h else .fail
    | none=>.fail)
   | none=>.fail) else .fail
 | _=>.fail
def qv(x y:aD):Int:=if ri x y=true then -1 else if ri y x=true then 1 else 0
def lT:List AV→Option (List aD)
 | []=>some []
 | .str a:: .str b:: r=>match lT r with
  | some l=>some ((a,b):: l)
  | none=>none
 | _=>none
def FB(s:aW):Value:=.string ⟨s.toArray⟩
def oS(r:aD):List AV:=[.str r.1,.str r.2]
def dj(r:aD):List Value:=[FB r.1,FB r.2]
def dB:Els aD:=⟨2,oS,dj,lT⟩
theorem str_eq{x:ByteArray}{s:aW}(h:x.data.toList=s):Value.string x=FB s:=by
 unfold FB
 congr 1
 exact ByteArray.ext (Array.ext' (by rw[h]))
theorem BE:∀(cs:List AV)(l:List aD),lT cs=some l→cs=(l.map oS).flatten:=by
 intro cs
 fun_induction lT cs with
 | case1=>intro l h;cases h;rfl
 | case2 a b r l' h ih=>
  intro l hl
  simp only[Option.some.injEq] at hl
  subst hl
  rw[ih l' h]
  rfl
 | case3 a b r h ih=>intro l hl;cases hl
 | case4=>intro l hl;cases hl
theorem yO(l:List aD):lT (l.map oS).flatten=some l:=by
 induction l with
 | nil=>rfl
 | cons x l ih=>
  simp only[List.map_cons,List.flatten_cons,oS,List.cons_append,List.nil_append,lT]
  rw[show (l.map oS).flatten=(l.map fun r:aD=>_).flatten from rfl] at ih
  rw[ih]
theorem nL:ElsOK dB where
 pos:=by decide
 la:=fun _=>rfl
 lv:=fun _=>rfl
 one:=fun x v hv=>by
  simp only[dB,dj,List.mem_cons,List.not_mem_nil,or_false] at hv
  rcases hv with rfl | rfl <;> rfl
 vr:=fun S β x=>by
  simp only[dB,oS,dj,aM,VR,FB]
  exact⟨_,_,rfl,⟨_,rfl,by simp⟩,_,_,rfl,⟨_,rfl,by simp⟩,rfl⟩
 rv:=fun S β x vs h=>by
  simp only[dB,oS,aM,VR] at h
  obtain⟨_,_,rfl,⟨a,rfl,ha⟩,_,_,rfl,⟨b,rfl,hb⟩,rfl⟩:=h
  simp only[dB,dj,str_eq ha,str_eq hb]
 dec:=BE
open Go.RowKit Go.Sort Go.Proofs in
def ge(l:List aD):List aD:=(pdq (ltOf qv) l.toArray 0 l.toArray.size (Lib.bitLen l.toArray.size) true true).toList
def gD(o:Nat):(FuncId→List AV→M AV)→List AV→M AV:=fun call args h=>match args with
 | [.hn,.fn (.func o') [] []]=>bif Nat.beq o' o then .ok (.tup []) h else .fail
 | args=>lG dB o ge call args h
theorem fy:∀ s:aW,aG s s=false
 | []=>rfl
 | a:: x=>by simp[aG,fy x]
theorem mm:∀ a b c:aW,aG a b=true→aG b c=true→aG a c=true
 | _,[],_,h,_=>by simp[aG] at h
 | _,_:: _,[],_,h=>by simp[aG] at h
 | [],_:: _,_:: _,_,_=>rfl
 | a:: x,b:: y,c:: z,h1,h2=>by
  simp only[aG,Bool.or_eq_true,decide_eq_true_eq,Bool.and_eq_true,beq_iff_eq] at h1 h2 ⊢
  rcases h1 with h1 | ⟨rfl,h1⟩
  ·rcases h2 with h2 | ⟨rfl,h2⟩
   ·exact .inl (UInt8.lt_trans h1 h2)
   ·exact .inl h1
  ·rcases h2 with h2 | ⟨rfl,h2⟩
   ·exact .inl h2
   ·exact .inr ⟨rfl,mm x y z h1 h2⟩
theorem gF:∀ a b:aW,aG a b=false→a≠b→aG b a=true
 | [],[],_,h=>absurd rfl h
 | [],_:: _,h,_=>by simp[aG] at h
 | _:: _,[],_,_=>rfl
 | a:: x,b:: y,h,hn=>by
  simp only[aG,Bool.or_eq_false_iff,decide_eq_false_iff_not,Bool.and_eq_false_iff,beq_eq_false_iff_ne,Bool.or_eq_true,decide_eq_true_eq,Bool.and_eq_true,beq_iff_eq] at h ⊢
  by_cases hab:a=b
  ·subst hab
   rcases h.2 with h2 | h2
   ·exact absurd rfl h2
   ·exact .inr ⟨rfl,gF x y h2 (fun e=>hn (by rw[e]))⟩
  ·left
   have h1:=h.1
   rw[UInt8.not_lt] at h1
   exact UInt8.lt_of_le_of_ne h1 (fun e=>hab e.symm)
theorem uA(a:aD):ri a a=false:=by simp[ri,fy]
theorem uC{a b c:aD}(h1:ri a b=true)(h2:ri b c=true):ri a c=true:=by
 simp only[ri,Bool.or_eq_true,Bool.and_eq_true,beq_iff_eq] at *
 rcases h1 with h1 | ⟨e1,h1⟩ <;> rcases h2 with h2 | ⟨e2,h2⟩
 ·exact .inl (mm _ _ _ h1 h2)
 ·exact .inl (by rw[← e2];exact h1)
 ·exact .inl (by rw[e1];exact h2)
 ·exact .inr ⟨by rw[e1,e2],mm _ _ _ h1 h2⟩
theorem uB{a b:aD}(h:ri a b=false)(hn:a≠b):ri b a=true:=by
 simp only[ri,Bool.or_eq_false_iff,Bool.and_eq_false_iff,beq_eq_false_iff_ne,Bool.or_eq_true,Bool.and_eq_true,beq_iff_eq] at *
 by_cases e:a.1=b.1
 ·rcases h.2 with h2 | h2
  ·exact absurd e h2
  ·exact .inr ⟨e.symm,gF _ _ h2 (fun e2=>hn (Prod.ext e e2))⟩
 ·exact .inl (gF _ _ h.1 e)
theorem EQ{a b:aD}(h:ri a b=true):ri b a=false:=by
 cases hb:ri b a with
 | false=>rfl
 | true=>have:=uC h hb;rw[uA] at this;cases this
theorem EH{a b c:aD}(h1:sC a b=true)(h2:sC b c=true):sC a c=true:=by
 simp only[sC,Bool.not_eq_true'] at *
 cases h3:ri c a with
 | false=>rfl
 | true=>
  by_cases e:b=c
  ·subst e;rw[h3] at h1;cases h1
  ·have:=uB h2 (fun e'=>e e'.symm)
   have:=uC this h3
   rw[this] at h1;cases h1
theorem GV(a b:aD):(sC a b||sC b a)=true:=by
 simp only[sC,Bool.or_eq_true,Bool.not_eq_true']
 cases h:ri b a with
 | false=>exact .inl rfl
 | true=>exact .inr (EQ h)
theorem EG{a b:aD}(h1:sC a b=true)(h2:sC b a=true):a=b:=by
 simp only[sC,Bool.not_eq_true'] at *
 by_cases e:a=b
 ·exact e
 ·have:=uB h2 e
  rw[this] at h1;cases h1
theorem mc(x:aD):∀ l:List aD,(qT x l).Perm (x:: l)
 | []=>.refl _
 | y:: l=>by
  simp only[qT]
  split
  ·exact .refl _
  ·exact ((mc x l).cons y).trans (.swap x y l)
theorem dW:∀ l:List aD,(cY l).Perm l
 | []=>.refl _
 | x:: l=>(mc x (cY l)).trans ((dW l).cons x)
theorem mT(x:aD):∀ l:List aD,l.Pairwise (fun a b=>sC a b=true)→(qT x l).Pairwise fun a b=>sC a b=true
 | [],_=>by simp[qT]
 | y:: l,h=>by
  obtain⟨h1,h2⟩:=List.pairwise_cons.1 h
  simp only[qT]
  split
  ·rename_i hxy
   refine List.pairwise_cons.2 ⟨fun z hz=>?_,h⟩
   rcases List.mem_cons.1 hz with rfl | hz
   ·exact hxy
   ·exact EH hxy (h1 z hz)
  ·rename_i hxy
   refine List.pairwise_cons.2 ⟨fun z hz=>?_,mT x l h2⟩
   rcases List.mem_cons.1 ((mc x l).mem_iff.1 hz) with rfl | hz
   ·have:=GV y z
    rw[Bool.or_eq_true] at this
    exact this.resolve_right hxy
   ·exact h1 z hz
theorem ia:∀ l:List aD,(cY l).Pairwise fun a b=>sC a b=true
 | []=>.nil
 | x:: l=>mT x _ (ia l)
theorem rT{l l':List aD}(hp:l.Perm l')(h:l.Pairwise fun a b=>sC a b=true)(h':l'.Pairwise fun a b=>sC a b=true):l=l':=
 hp.eq_of_pairwise (fun _ _ _ _ h1 h2=>EG h1 h2) h h'
theorem lH{l l':List aD}(hp:l.Perm l'):cY l=cY l':=
 rT ((dW l).trans (hp.trans (dW l').symm)) (ia l) (ia l')
open Go.RowKit Go.Sort Go.Proofs in
theorem li(x y:aD):ltOf qv x y=ri x y:=by
 unfold ltOf qv
 cases h:ri x y with
 | true=>simp
 | false=>cases h2:ri y x <;> simp
open Go.RowKit Go.Sort Go.Proofs in
theorem NM:SWO (ltOf qv) where
 irrefl:=fun x=>by rw[li];exact uA x
 trans:=fun x y z h1 h2=>by rw[li] at *;exact uC h1 h2
 ntrans:=fun x y z h1 h2=>by
  rw[li] at *
  have:=EH (a:=z) (b:=y) (c:=x) (by simp[sC,h2]) (by simp[sC,h1])
  simpa [sC] using this
open Go.RowKit Go.Sort Go.Proofs in
theorem tR(l:List aD):(ge l).Perm l∧(ge l).Pairwise (fun a b=>sC a b=true):=by
 have h:=pdq_sorts (ltOf qv) NM l.toArray 0 l.toArray.size (Lib.bitLen l.toArray.size) true true (Nat.zero_le _) (Nat.le_refl _) (Or.inl rfl)
 obtain⟨⟨hs,_,hp⟩,ho⟩:=h
 unfold ge
 generalize pdq (ltOf qv) l.toArray 0 l.toArray.size (Lib.bitLen l.toArray.size) true true=d at hs hp ho
 refine⟨?_,?_⟩
 ·rw[← hs,Array.extract_size,hs,Array.extract_size] at hp
  exact hp
 ·rw[List.pairwise_iff_getElem]
  intro i j hi hj hij
  simp only[Array.length_toList] at hi hj
  have:=ho i j (Nat.zero_le _) hij (by omega)
  rw[getElem!_pos d i hi,getElem!_pos d j hj,li] at this
  simp only[Array.getElem_toList,sC,this]
  rfl
theorem oB(l:List aD):ge l=cY l:=rT ((tR l).1.trans (dW l).symm) (tR l).2 (ia l)
theorem io(l:List aD):(cY l).length=l.length:=(dW l).length_eq
end Go.Av.Ap
namespace Go.Av
open Go.RowKit Go.Sort Go.Proofs
def dN{α:Type}(k:Nat)(l:List α)(i:Nat):List α:=(l.drop (i * k)).take k
theorem sV{α:Type}{k n:Nat}{l:List α}(h:l.length=n * k){i:Nat}(hi:i < n):(dN k l i).length=k:=by
 have:i * k + k≤n * k:=by rw[← Nat.succ_mul];exact Nat.mul_le_mul_right _ hi
 simp only[dN,List.length_take,List.length_drop,h]
 omega
theorem ql{α:Type}{k:Nat}:(n:Nat)→{l:List α} →l.length=n * k→((List.range n).map fun i=>dN k l i).flatten=l
 | 0,l,h=>by simp at h;simp[h]
 | n + 1,l,h=>by
  rw[List.range_succ_eq_map,List.map_cons,List.map_map,List.flatten_cons]
  have e:((fun i=>dN k l i) ∘ Nat.succ)=fun i=>dN k (l.drop k) i:=by
   funext i
   simp only[Function.comp,dN,List.drop_drop,Nat.succ_mul]
   congr 2
   omega
  rw[e,ql n (l:=l.drop k) (by rw[List.length_drop,h,Nat.succ_mul];omega)]
  simp[dN,List.take_append_drop]
theorem aM.chunk{S:au}{β:List bn}{cs:List AV}{vs:List Value}(h:aM S β cs vs)(k i:Nat):aM S β (dN k cs i) (dN k vs i):=(h.drop (i * k)).take k
def nW:List AV→Option (List UInt8)
 | .str s:: _=>some s
 | _=>none
def nK(x y:List UInt8):Int:=if aG x y=true then -1 else if aG y x=true then 1 else 0
def FV(keys:List (List UInt8))(n:Nat)(i j:Nat):Int:=nK keys[i % n]! keys[j % n]!
def fr(keys:List (List UInt8)):List Nat:=(pdq (ltOf (FV keys keys.length)) (Array.range keys.length) 0 (Array.range keys.length).size (Lib.bitLen (Array.range keys.length).size) true true).toList
def qX:List (List AV)→Option (List (List UInt8))
 | []=>some []
 | c:: r=>match nW c with
  | none=>none
  | some s=>match qX r with
   | none=>none
   | some l=>some (s:: l)
theorem tr:{cs:List (List AV)} →{ks:List (List UInt8)} →qX cs=some ks→ks.length=cs.length∧∀(i:Nat)(c:List AV),cs[i]? = some c→nW c=some ks[i]!
 | [],ks,h=>by
  cases h
  exact⟨rfl,fun i c hc=>by simp at hc⟩
 | c:: r,ks,h=>by
  unfold qX at h
  cases hc:nW c with
  | none=>rw[hc] at h;cases h
  | some s=>
   rw[hc] at h
   simp only at h
   cases hr:qX r with
   | none=>rw[hr] at h;cases h
   | some l=>
    rw[hr] at h
    cases h
    obtain⟨h1,h2⟩:=tr hr
    refine⟨by simp[h1],fun i d hd=>?_⟩
    cases i with
    | zero=>simp at hd;subst hd;simpa using hc
    | succ i=>simpa using h2 i d (by simpa using hd)
theorem wQ{nm:List AV→List UInt8}:{cs:List (List AV)} →(∀ c∈cs,nW c=some (nm c))→qX cs=some (cs.map nm)
 | [],_=>rfl
 | c:: r,h=>by simp[qX,h c (by simp),wQ (cs:=r) fun d hd=>h d (by simp[hd])]
def keysOf(k n:Nat)(row:List AV):Option (List (List UInt8)):=qX ((List.range n).map fun i=>dN k row i)
def fV(k g:Nat):(FuncId→List AV→M AV)→List AV→M AV:=fun _ args h=>match args with
 | [.sl [],.fn (.func g') [] []]=>bif Nat.beq g' g then .ok (.tup []) h else .fail
 | [.hn,.fn (.func g') [] []]=>bif Nat.beq g' g then .ok (.tup []) h else .fail
 | [.hs l off len sz _,.fn (.func g') [] []]=>match h[l]? with
  | none=>.fail
  | some cs=>match keysOf k len ((cs.drop off).take (len * k)) with
   | none=>.fail
   | some keys=>bif Nat.beq g' g&&Nat.beq sz k&&decide (0 < len)&&decide (0 < k)&&decide (off + len * k≤cs.length)&&decide (keys.length=len)&&decide (len < 4611686018427387904)&&decide ((fr keys).length=len)&&cs.all aO
     then .ok (.tup []) (h.set l (setCells cs off ((fr keys).map fun i=>dN k ((cs.drop off).take (len * k)) (i % len)).flatten)) else .fail
 | _=>.fail
section
variable [Dr] {P:Program}
omit [Dr] in
theorem B6{S:au}{β:List bn}{c:List AV}{s:List UInt8}{vs:List Value}(h:nW c=some s)(hv:aM S β c vs):∃(x:ByteArray)(r:List Value),vs= .string x:: r∧x.data.toList=s:=by
 unfold nW at h
 split at h
 ·cases h
  simp only[aM,VR] at hv
  obtain⟨v,r,rfl,⟨x,rfl,hx⟩,_⟩:=hv
  exact⟨x,r,rfl,hx⟩
 ·cases h
omit [Dr] in
theorem sM{k i:Nat}{l:List AV}{p:AV→Bool}(h:l.all p=true):(dN k l i).all p=true:=by
 rw[List.all_eq_true] at h ⊢
 exact fun x hx=>h x (List.mem_of_mem_drop (List.mem_of_mem_take hx))
theorem Ex{f k g:Nat} (call:FuncId→List AV→M AV)
  (hcal:∀(w:World)(blk off cap:Nat)(keys:List (List UInt8))(ev:Nat→List Value),0 < keys.length→(∀ i,(ev i).length=k)→(∀ i,∀ v∈ev i,v.oneCell'=true)→(∀ i,∃(x:ByteArray)(r:List Value),ev i= .string x:: r∧x.data.toList=keys[i % keys.length]!)→
   GOKw w→gN≤blk→HoldsK ev k w blk off (Array.range keys.length)→blk < w.heap.size→keys.length < 4611686018427387904→
   Calls P f #[.slice (some ⟨blk,off,none⟩) keys.length cap,.func (.func g) #[] #[]] w fun e w'=>e= .returned (.tuple #[])∧∃ n os,w'=sortWorldK ev k w blk off n (fr keys).toArray os)
  {l off len sz g':Nat} {ag:Bool} {h:Hp} {S:au} {β:List bn} {w:World} {vs:List Value} (hr:fV k g call [.hs l off len sz ag,.fn (.func g') [] []] h≠.fail) (hg:sa β h w) (hw:Wf S w) (hh:ca S β w h)
  (hv:aM S β [.hs l off len sz ag,.fn (.func g') [] []] vs):Calls P f vs.toArray w (dl none S β h w (fV k g call [.hs l off len sz ag,.fn (.func g') [] []] h)):=by
 unfold fV at hr ⊢
 simp only at hr ⊢
 cases hl:h[l]? with
 | none=>rw[hl] at hr;exact absurd rfl hr
 | some cs=>
  rw[hl] at hr
  simp only at hr ⊢
  generalize hrow:(cs.drop off).take (len * k)=row at hr ⊢
  cases hd:keysOf k len row with
  | none=>rw[hd] at hr;exact absurd rfl hr
  | some keys=>
   rw[hd] at hr
   simp only at hr ⊢
   cases hc:(Nat.beq g' g&&Nat.beq sz k&&decide (0 < len)&&decide (0 < k)&&decide (off + len * k≤cs.length)&&decide (keys.length=len)&&decide (len < 4611686018427387904)&&decide ((fr keys).length=len)&&cs.all aO) with
   | false=>rw[hc] at hr;exact absurd rfl hr
   | true=>
    simp only[Bool.and_eq_true,decide_eq_true_eq] at hc
    obtain⟨⟨⟨⟨⟨⟨⟨⟨c1,c2⟩,c3⟩,hpos⟩,c4⟩,c5⟩,c6⟩,c7⟩,c8⟩:=hc
    obtain rfl:=Nat.eq_of_beq_eq_true c1
    obtain rfl:=Nat.eq_of_beq_eq_true c2
    simp only[cond_true]
    have hlk:0 < len * sz:=Nat.mul_pos c3 hpos
    have hne:cs≠[]:=by rintro rfl;simp at c4;omega
    simp only[aM] at hv
    obtain⟨v1,r1,rfl,hv1,v2,r2,rfl,hv2,rfl⟩:=hv
    obtain⟨⟨b,nb⟩,cap,hb,hb0,rfl,k1,k2⟩:=hv1.hs_pos c3
    simp only[VR,aM] at hv2
    obtain⟨y1,y2,rfl,rfl,rfl⟩:=hv2
    have hh':=hh
    obtain⟨hlen,ω,hH⟩:=hh
    obtain⟨z,j1,j2,j3,j4,j5⟩:=dY.cells hH hl hne hb hb0
    rw[hb] at j1;cases j1
    have hzs:cs.length≤z.size:=by
     have:=j4.length
     simp at this
     omega
    have hown:bX β h b:=⟨l,cs,_,hl,hne,hb⟩
    have hgb:gN≤b:=by
     rcases Nat.lt_or_ge b gN with k | k
     ·exact absurd hown (hg.2 b k)
     ·exact k
    have hrl:row.length=len * sz:=by rw[← hrow,List.length_take,List.length_drop];omega
    have hvx:=(j4.drop off).take (len * sz)
    rw[hrow] at hvx
    generalize hvr:(((z.toList.take cs.length).drop off).take (len * sz))=vr at hvx
    have hvl:vr.length=len * sz:=by rw[hvx.length,hrl]
    have hro:row.all aO=true:=by
     rw[List.all_eq_true] at c8 ⊢
     rw[← hrow]
     exact fun x hx=>c8 x (List.mem_of_mem_drop (List.mem_of_mem_take hx))
    have hmod:∀ i,i % len < len:=fun i=>Nat.mod_lt _ c3
    obtain⟨hk1,hk2⟩:=tr hd
    let ev:Nat→List Value:=fun i=>dN sz vr (i % len)
    have hev:∀ i,(ev i).length=sz:=fun i=>sV hvl (hmod i)
    have hea:∀ i,(dN sz row (i % len)).length=sz:=fun i=>sV hrl (hmod i)
    have hre:∀ i,aM S β (dN sz row (i % len)) (ev i):=fun i=>hvx.chunk sz (i % len)
    have hrange:(List.range len).map ev=(List.range len).map fun i=>dN sz vr i:=List.map_congr_left fun i hi=>by
     show dN sz vr (i % len)=_
     rw[Nat.mod_eq_of_lt (List.mem_range.1 hi)]
    have hflat:(flatK ev sz (Array.range keys.length)).toList=vr:=by
     rw[fT ev sz hev hpos,Array.toList_range,c5,hrange,ql len hvl]
    have hsz:(flatK ev sz (Array.range keys.length)).size=len * sz:=by rw[size_flatK];simp[c5]
    have hholds:HoldsK ev sz w b off (Array.range keys.length):=by
     intro j hj
     rw[hsz] at hj
     have e1:(flatK ev sz (Array.range keys.length))[j]! = z[off + j]'(by omega):=by
      have h1:(flatK ev sz (Array.range keys.length)).toList[j]? = z.toList[off + j]?:=by
       rw[hflat,← hvr,List.getElem?_take,if_pos hj,List.getElem?_drop,List.getElem?_take,if_pos (by omega)]
      rw[Array.getElem?_toList,Array.getElem?_toList,Array.getElem?_eq_getElem (by omega),Array.getElem?_eq_getElem (by omega)] at h1
      rw[getElem!_pos _ j (by omega)]
      exact Option.some.inj h1
     rw[e1]
     refine⟨by rw[j2.cell,Array.getElem?_eq_getElem (by omega)];rfl,?_⟩
     obtain⟨e,he⟩:=j2
     simp[World.frozen?,he]
    have hkey:∀ i,∃(x:ByteArray)(r:List Value),ev i= .string x:: r∧x.data.toList=keys[i % keys.length]!:=fun i=>by
     refine B6 ?_ (hre i)
     rw[c5]
     exact hk2 (i % len) _ (by rw[List.getElem?_map,List.getElem?_range (hmod i)];rfl)
    have hone:∀ i,∀ v∈ev i,v.oneCell'=true:=fun i=>xt (hre i) (sM hro)
    have hcall:=hcal w b off cap keys ev (by omega) hev hone hkey hg.1 hgb hholds j2.lt (by omega)
    rw[c5] at hcall
    refine hcall.mono ?_
    rintro e w' ⟨rfl,n,os,rfl⟩
    have hfl2:=fT ev sz hev hpos (fr keys).toArray
    have hs2:(flatK ev sz (fr keys).toArray).size=len * sz:=by rw[size_flatK];simp[c7]
    have hal:((fr keys).map fun i=>dN sz row (i % len)).flatten.length=len * sz:=by rw[kv (fun i=>dN sz row (i % len)) sz hea,c7]
    have hvv:∀ p:List Nat,aM S β (p.map fun i=>dN sz row (i % len)).flatten (p.map ev).flatten:=by
     intro p
     induction p with
     | nil=>simp[aM]
     | cons i p ih=>simp only[List.map_cons,List.flatten_cons];exact (hre i).append ih
    have hok:((fr keys).map fun i=>dN sz row (i % len)).flatten.all aO=true:=by
     rw[List.all_flatten,List.all_map]
     exact List.all_eq_true.2 fun i _=>sM hro
    refine⟨S,β,_,rfl,by simp only[VR,aM];exact⟨[],rfl,rfl⟩,wY (vs:=(flatK ev sz (fr keys).toArray).toList) hw hh' hl hne hb hb0 (by rw[hfl2];exact hvv _) (by rw[hal];exact c4) c8 hok (rR ev sz off n _ os) (fun x hx hle=>?_) (fun b' hlt hne2=>iO ev sz off n _ os hlt hne2),fun _ hsz=>by cases hsz⟩
    have:=rS hx ev sz off n (fr keys).toArray os (by simp only[List.size_toArray,c7];omega)
    exact this
end
end Go.Av
namespace Go.Av.Ap
def gn(l:List Ty):AV:=.sl (l.map Ty.av)
structure Sig where
 name:aW
 params:List Ty
 result:Ty
 effects:Int
 deriving Inhabited
structure Face where
 module:aW
 funcs:List Sig
 deriving Inhabited
structure Vsn where
 major:Int
 minor:Int
 patch:Int
 deriving Inhabited,DecidableEq
def Sig.cells(s:Sig):List AV:=[.str s.name,gn s.params,.int .i64 s.result.kind,aH s.result.fields,.int .i64 s.effects]
def Sig.av(s:Sig):AV:=.agg s.cells
def sigs(l:List Sig):AV:=.sl (l.map Sig.av)
def Face.cells(f:Face):List AV:=[.str f.module,sigs f.funcs]
def Face.av(f:Face):AV:=.agg f.cells
def faces(l:List Face):AV:=.sl (l.map Face.av)
def Vsn.av(v:Vsn):AV:=.agg [.int .i64 v.major,.int .i64 v.minor,.int .i64 v.patch]
@[simp] theorem fa(s:Sig):ab s.av=[.str s.name,gn s.params,.int .i64 s.result.kind,aH s.result.fields,.int .i64 s.effects]:=rfl
@[simp] theorem kd(f:Face):ab f.av=[.str f.module,sigs f.funcs]:=rfl
@[simp] theorem IJ(v:Vsn):ab v.av=[.int .i64 v.major,.int .i64 v.minor,.int .i64 v.patch]:=rfl
@[simp] theorem qH(s:Sig):AV.agg [.str s.name,gn s.params,.int .i64 s.result.kind,aH s.result.fields,.int .i64 s.effects]=s.av:=rfl
@[simp] theorem td(f:Face):AV.agg [.str f.module,sigs f.funcs]=f.av:=rfl
@[simp] theorem MZ(v:Vsn):AV.agg [.int .i64 v.major,.int .i64 v.minor,.int .i64 v.patch]=v.av:=rfl
@[simp] theorem nd(t:Ty):ct 2 t.av=true:=by simp[ct,aO,aH]
@[simp] theorem Nn(l:List Ty):cQ 2 (l.map Ty.av)=true:=cW nd l
@[simp] theorem NG(s:Sig):cH s.av=some 5:=rfl
@[simp] theorem LF(s:Face):cH s.av=some 2:=rfl
@[simp] theorem NJ(s:Vsn):cH s.av=some 3:=rfl
@[simp] theorem kH(s:Sig):ct 5 s.av=true:=by simp[ct,aO,aH,gn]
@[simp] theorem ol(s:Face):ct 2 s.av=true:=by simp[ct,aO,sigs]
@[simp] theorem Nm(s:Vsn):ct 3 s.av=true:=rfl
@[simp] theorem Lx(l:List Sig):cQ 5 (l.map Sig.av)=true:=cW kH l
@[simp] theorem KS(l:List Face):cQ 2 (l.map Face.av)=true:=cW ol l
@[simp] theorem DW(g:Nat→Nat→Nat→Nat→Bool→AV)(l:List Ty):cl g (gn l)=gn l:=by simp[gn,cl,dF g Ty.av (vX g)]
@[simp] theorem yK(g:Nat→Nat→Nat→Nat→Bool→AV)(s:Sig):cl g s.av=s.av:=by unfold Sig.av Sig.cells;simp only[cl,ee,DW,Ah]
@[simp] theorem Gy(g:Nat→Nat→Nat→Nat→Bool→AV)(l:List Sig):cl g (sigs l)=sigs l:=by simp[sigs,cl,dF g Sig.av (yK g)]
@[simp] theorem Ag(g:Nat→Nat→Nat→Nat→Bool→AV)(s:Face):cl g s.av=s.av:=by unfold Face.av Face.cells;simp only[cl,ee,Gy]
@[simp] theorem DR(g:Nat→Nat→Nat→Nat→Bool→AV)(l:List Face):cl g (faces l)=faces l:=by simp[faces,cl,dF g Face.av (Ag g)]
@[simp] theorem O9(g:Nat→Nat→Nat→Nat→Bool→AV)(s:Vsn):cl g s.av=s.av:=by unfold Vsn.av;simp only[cl,ee]
@[simp] theorem N7(v:Ty):aF (M.pure v.av)=M.pure v.av:=bP fun g=>vX g v
@[simp] theorem Nb(v:Sig):aF (M.pure v.av)=M.pure v.av:=bP fun g=>yK g v
@[simp] theorem Ll(v:Face):aF (M.pure v.av)=M.pure v.av:=bP fun g=>Ag g v
end Go.Av.Ap
namespace Go.Av
open Go.Av.Ap
def Hw:Nat→AV→Bool
 | 0,_=>false
 | d + 1,.agg [.int .i64 _,.sl fs]=>decide (fs.length≤100)&&fs.all fun f=>match f with
  | .agg [.str _,.int .i64 k,.sl gs]=>Hw d (.agg [.int .i64 k,.sl gs])
  | _=>false
 | _,_=>false
def kW:(FuncId→List AV→M AV)→List AV→M AV:=fun _ args=>match args with
 | [v]=>ah (bif Hw 5 v then some v else none)
 | _=>M.fail
def xb:Nat→Ty→Prop
 | 0,_=>False
 | d + 1,t=>t.fields.length≤100∧∀ f∈t.fields,xb d f.2
theorem EP:∀(d:Nat)(t:Ty),xb d t→xb (d + 1) t
 | 0,_,h=>h.elim
 | d + 1,_t,h=>⟨h.1,fun f hf=>EP d f.2 (h.2 f hf)⟩
theorem FI:∀(d:Nat)(t:Ty),xb d t→Hw d t.av=true
 | 0,_,h=>h.elim
 | d + 1,t,h=>by
  cases t with
  | mk k fs=>
   show Hw (d + 1) (.agg [.int .i64 k,.sl (eq fs)])=true
   simp only[Hw,Bool.and_eq_true,decide_eq_true_eq,List.all_eq_true]
   refine⟨by rw[dn,List.length_map];exact h.1,fun v hv=>?_⟩
   rw[dn] at hv
   obtain⟨f,hf,rfl⟩:=List.mem_map.1 hv
   rw[iB]
   show Hw d (.agg [.int .i64 f.2.kind,.sl (eq f.2.fields)])=true
   have:=FI d f.2 (h.2 f hf)
   cases hf2:f.2 with
   | mk k2 gs=>rw[hf2] at this;exact this
theorem qA{α β:Type}{f:β→α}{P:β→Prop}:(l:List α)→(∀ a∈l,∃ b,a=f b∧P b)→∃ m:List β,l=m.map f∧∀ b∈m,P b
 | [],_=>⟨[],rfl,by simp⟩
 | a:: l,h=>by
  obtain⟨b,rfl,hb⟩:=h a List.mem_cons_self
  obtain⟨m,rfl,hm⟩:=qA l fun a ha=>h a (List.mem_cons_of_mem _ ha)
  exact⟨b:: m,rfl,fun c hc=>by rcases List.mem_cons.1 hc with rfl | hc;exact hb;exact hm c hc⟩
theorem yc:∀(d:Nat)(v:AV),Hw d v=true→∃ t:Ty,v=t.av∧xb d t
 | 0,_,h=>by cases h
 | d + 1,v,h=>by
  unfold Hw at h
  split at h
  ·cases h
  ·rename_i k fs e
   obtain rfl:=Nat.succ.inj e
   simp only[Bool.and_eq_true,decide_eq_true_eq,List.all_eq_true] at h
   have key:∀ a∈fs,∃ f:cr,a=bj f∧xb d f.2:=by
    intro a ha
    have h2:=h.2 a ha
    split at h2
    ·rename_i n k' gs
     obtain⟨t,h3,h4⟩:=yc d _ h2
     refine⟨(n,t),?_,h4⟩
     rw[iB]
     have h5:t.av= .agg [.int .i64 t.kind,aH t.fields]:=by cases t;rfl
     rw[h5] at h3
     simp only[AV.agg.injEq,List.cons.injEq,and_true] at h3
     rw[← h3.1,← h3.2]
    ·cases h2
   obtain⟨m,rfl,hm⟩:=qA fs key
   refine⟨.mk k m,?_,?_,hm⟩
   ·show _=AV.agg [.int .i64 k,.sl (eq m)]
    rw[dn]
   ·have:=h.1
    rw[List.length_map] at this
    exact this
  ·cases h
end Go.Av
namespace Go.Av
attribute [simp] bi aT DK Bl
@[simp] theorem bz{α:Type}(b:Bool)(x y:M α):ap (.bool b) x y=if b=true then x else y:=by cases b <;> rfl
def gv(b w:Bool)(y:AV):AV:=bif b== w then y else .tup []
@[simp] theorem PM(y:AV):gv false false y=y:=rfl
@[simp] theorem PP(y:AV):gv true true y=y:=rfl
@[simp] theorem PN(y:AV):gv false true y= .tup []:=rfl
@[simp] theorem PO(y:AV):gv true false y= .tup []:=rfl
@[simp high] theorem GM(b w:Bool)(y:AV):aA (.bool b) w 1 (M.pure [y])=M.pure [gv b w y]:=by cases b <;> cases w <;> rfl
@[simp high] theorem Li(b w c w2:Bool)(y:AV):aA (gv b w (.bool c)) w2 1 (M.pure [y])=M.pure [gv b w (gv c w2 y)]:=by cases b <;> cases w <;> cases c <;> cases w2 <;> rfl
@[simp high] theorem Lj(b w c e:Bool):aA (.bool b) w 1 (ae (ah (aK (gv b w (.bool c)) (.bool true) (gv b w (gv c false (.bool e))))) fun v=>M.pure [v])=M.pure [gv b w (.bool (c||e))]:=by
 cases b <;> cases w <;> cases c <;> rfl
@[simp high] theorem Kr(b w c e:Bool):aA (.bool b) w 1 (ae (ah (aK (gv b w (.bool c)) (gv b w (gv c true (.bool e))) (.bool false))) fun v=>M.pure [v])=M.pure [gv b w (.bool (c&&e))]:=by
 cases b <;> cases w <;> cases c <;> rfl
@[simp high] theorem LB(b c:Bool):aK (.bool b) (gv b true (.bool c)) (.bool false)=some (.bool (b&&c)):=by cases b <;> rfl
@[simp high] theorem Nw(b c:Bool):aK (.bool b) (.bool true) (gv b false (.bool c))=some (.bool (b||c)):=by cases b <;> rfl
@[simp] theorem GN(w:Bool)(n:Nat)(m:M (List AV)):aA (.bool !w) w n m=M.pure (List.replicate n (.tup [])):=by cases w <;> rfl
@[simp] theorem jH(w:Bool)(n:Nat)(m:M (List AV)):aA (.bool w) w n m=m:=by cases w <;> rfl
@[simp] theorem Lh(n:Nat)(m:M (List AV)):aA (.bool false) true n m=M.pure (List.replicate n (.tup [])):=rfl
@[simp] theorem Lk(n:Nat)(m:M (List AV)):aA (.bool true) false n m=M.pure (List.replicate n (.tup [])):=rfl
@[simp] theorem Ks(w:Bool)(n:Nat)(m:M (List AV)):aA (.tup []) w n m=M.pure (List.replicate n (.tup [])):=rfl
@[simp] theorem rF(x y:AV):aK (.bool true) x y=some x:=rfl
@[simp] theorem xw(x y:AV):aK (.bool false) x y=some y:=rfl
@[simp] theorem bu(x:AV)(l:List AV):nth (x:: l) 0=x:=rfl
@[simp] theorem bD(x:AV)(l:List AV)(n:Nat):nth (x:: l) (n + 1)=nth l n:=rfl
@[simp] theorem Kx{α:Type}(k:List AV→M α)(m:(List AV→M α)→M α):jn k m=m k:=rfl
@[simp] theorem ff{α:Type}(a:α):bY (M.pure a)=M.pure a:=rfl
@[simp] theorem jT(b:Bool):fO .not (.bool b)=some (.bool !b):=rfl
@[simp] theorem mI(l:List AV)(i:Nat):az (.tup l) i=l[i]?:=rfl
@[simp] theorem Iq:True:=trivial
@[simp] theorem KQ(l k:Nat):cP (.hp l k)=some (.hp l k):=rfl
@[simp] theorem KR(cs:List AV):cP (.ip cs)=some (.ip cs):=rfl
@[simp] theorem jx(s:List UInt8):ab (.str s)=[.str s]:=rfl
@[simp] theorem II(k:IntKind)(n:Int):ab (.int k n)=[.int k n]:=rfl
@[simp] theorem pW(cs:List AV):ab (.agg cs)=cs:=rfl
@[simp] theorem fA(T:TT)(t:Nat)(a b:Int):am T .add t (.int .i64 a) (.int .i64 b)=some (.int .i64 (IntKind.i64.wrap (a + b))):=rfl
@[simp] theorem Gd(T:TT)(t:Nat)(a b:Int):am T .sub t (.int .i64 a) (.int .i64 b)=some (.int .i64 (IntKind.i64.wrap (a - b))):=rfl
@[simp] theorem N4(T:TT)(t:Nat)(a b:Int):am T .mul t (.int .i64 a) (.int .i64 b)=some (.int .i64 (IntKind.i64.wrap (a * b))):=rfl
@[simp] theorem cN(T:TT)(t:Nat)(a b:Int):am T .lss t (.int .i64 a) (.int .i64 b)=some (.bool (decide (a < b))):=rfl
@[simp] theorem ug(T:TT)(t:Nat)(a b:Int):am T .leq t (.int .i64 a) (.int .i64 b)=some (.bool (decide (a≤b))):=rfl
@[simp] theorem N3(T:TT)(t:Nat)(a b:Int):am T .gtr t (.int .i64 a) (.int .i64 b)=some (.bool (decide (b < a))):=rfl
@[simp] theorem uf(T:TT)(t:Nat)(a b:Int):am T .geq t (.int .i64 a) (.int .i64 b)=some (.bool (decide (b≤a))):=rfl
@[simp] theorem N0(T:TT)(t:Nat)(a b:Int):am T .eql t (.int .i64 a) (.int .i64 b)=some (.bool (a== b)):=rfl
@[simp] theorem uh(T:TT)(t:Nat)(a b:Int):am T .neq t (.int .i64 a) (.int .i64 b)=some (.bool (a != b)):=rfl
@[simp] theorem A0(T:TT)(t:Nat)(a b:List UInt8):am T .eql t (.str a) (.str b)=some (.bool (a== b)):=rfl
@[simp] theorem Oc(T:TT)(t:Nat)(a b:List UInt8):am T .neq t (.str a) (.str b)=some (.bool !(a== b)):=rfl
@[simp] theorem Ob(T:TT)(t:Nat)(a b:List UInt8):am T .lss t (.str a) (.str b)=some (.bool (aG a b)):=rfl
@[simp] theorem Oa(T:TT)(t:Nat)(a b:List UInt8):am T .geq t (.str a) (.str b)=some (.bool !(aG a b)):=rfl
@[simp] theorem bd{n:Nat}{x:AV}(h:ct n x=true):aC n x=M.pure (.agg (ab x)):=by
 unfold aC jF
 rw[h]
 rfl
@[simp] theorem aR{n:Nat}{x:AV}(h:ct n x=true):ar n [] x=M.pure (.agg (ab x)):=by
 unfold ar jF
 rw[h]
 rfl
@[simp] theorem Lp(b:Bool)(x:AV):jZ b [x]=some x:=by simp[jZ]
@[simp] theorem Lq(b:Bool)(a c:Int):jZ b [.int .i64 a,.int .i64 c]=some (.int .i64 (if b=true then max a c else min a c)):=by
 cases b
 ·simp only[jZ,ER,cond_false]
  congr 2
  simp only[Int.min_def]
  split <;> split <;> simp_all <;> omega
 ·simp only[jZ,ER,cond_true]
  congr 2
  simp only[Int.max_def]
  split <;> split <;> simp_all <;> omega
theorem br{x:Int}(h1:-9223372036854775808≤x)(h2:x≤9223372036854775807):IntKind.i64.wrap x=x:=IntWalk.i64_in _ ⟨h1,h2⟩
theorem FM{n:Nat}(h:n≤4611686018427387904):IntKind.i64.wrap (n:Int)=(n:Int):=IntWalk.i64_in _ (by omega)
theorem bG{n:Nat}(h:n≤4611686018427387904):IntKind.i64.wrap ((n:Int) + 1)=((n + 1:Nat):Int):=by
 rw[IntWalk.i64_in _ (by omega)];omega
theorem tV{n:Nat}(h:n≤4611686018427387904):IntKind.i64.wrap (((n + 1:Nat):Int) - 1)=(n:Int):=by
 rw[IntWalk.i64_in _ (by omega)];omega
namespace Ap
mutual
def Val.sz:Val→Nat
 | .mk _ _ ns vs=>1 + ns.length + FL vs
def FL:List Val→Nat
 | []=>0
 | v:: vs=>v.sz + FL vs
end
end Ap
end Go.Av
namespace Go.Av
def cB{α:Type}(F:α→Bool):List α→Int→Int
 | [],_=>-1
 | x:: l,i=>if F x=true then i else cB F l (i + 1)
theorem wI{α:Type}(F:α→Bool):(l:List α)→(i:Int)→0≤i→(0≤cB F l i↔l.any F=true)
 | [],i,_=>by simp[cB]
 | x:: l,i,h=>by
  simp only[cB]
  split
  ·rename_i hx;simp[hx,h]
  ·rename_i hx;rw[wI F l (i + 1) (by omega)];simp[hx]
theorem nV{α:Type}(F:α→Bool)(l:List α):decide (0≤cB F l 0)=l.any F:=by
 have:=wI F l 0 (by omega)
 cases h:l.any F with
 | true=>simp[this.2 h]
 | false=>simp only[decide_eq_false_iff_not];intro hh;rw[this.1 hh] at h;cases h
@[simp] theorem Is(a b:Nat):((a:Int)== (b:Int))=(a== b):=by rw[Bool.eq_iff_iff];simp;omega
@[simp] theorem Hc(a:Nat):((a:Int)== 0)=(a== 0):=by rw[Bool.eq_iff_iff];simp
@[simp] theorem It(a b:Nat):((a:Int) != (b:Int))=(a != b):=by rw[Bool.eq_iff_iff];simp;omega
def pD{α β:Type}(F:α→β→Bool):List α→List β→Bool
 | x:: l,y:: r=>F x y&&pD F l r
 | [],[]=>true
 | _,_=>false
end Go.Av
namespace Go.Av
open Ap
@[simp high] theorem Ke(x:Val):aC 4 (Val.av x)=M.pure (Val.av x):=by rw[bd (rB x),pZ,wy]
@[simp high] theorem Gp(x:Val):ar 4 [] (Val.av x)=M.pure (Val.av x):=by rw[aR (rB x),pZ,wy]
@[simp high] theorem J9(x:Exp):aC 6 (Exp.av x)=M.pure (Exp.av x):=by rw[bd (kG x),cw,fD]
@[simp high] theorem Gi(x:Exp):ar 6 [] (Exp.av x)=M.pure (Exp.av x):=by rw[aR (kG x),cw,fD]
@[simp high] theorem qh(x:cr):aC 3 (bj x)=M.pure (bj x):=by rw[bd (iG x),dm,gu]
@[simp high] theorem Gj(x:cr):ar 3 [] (bj x)=M.pure (bj x):=by rw[aR (iG x),dm,gu]
@[simp high] theorem Ka(x:Fun):aC 12 (Fun.av x)=M.pure (Fun.av x):=by rw[bd (iH x),eE,iC]
@[simp high] theorem Gk(x:Fun):ar 12 [] (Fun.av x)=M.pure (Fun.av x):=by rw[aR (iH x),eE,iC]
@[simp high] theorem Kb(x:Mod):aC 9 (Mod.av x)=M.pure (Mod.av x):=by rw[bd (ry x),bC,wv]
@[simp high] theorem Gl(x:Mod):ar 9 [] (Mod.av x)=M.pure (Mod.av x):=by rw[aR (ry x),bC,wv]
@[simp high] theorem Ic(x:Vars):aC 2 (Vars.av x)=M.pure (Vars.av x):=by rw[bd (tE x),oO,tg]
@[simp high] theorem FU(x:Vars):ar 2 [] (Vars.av x)=M.pure (Vars.av x):=by rw[aR (tE x),oO,tg]
@[simp high] theorem Ia(x:Deed):aC 3 (Deed.av x)=M.pure (Deed.av x):=by rw[bd (tD x),oM,tc]
@[simp high] theorem FS(x:Deed):ar 3 [] (Deed.av x)=M.pure (Deed.av x):=by rw[aR (tD x),oM,tc]
@[simp high] theorem H9(x:Ap.Call):aC 3 (Ap.Call.av x)=M.pure (Ap.Call.av x):=by rw[bd (tC x),oL,tb]
@[simp high] theorem FQ(x:Ap.Call):ar 3 [] (Ap.Call.av x)=M.pure (Ap.Call.av x):=by rw[aR (tC x),oL,tb]
@[simp high] theorem Kc(x:Ap.Out):aC 8 (Ap.Out.av x)=M.pure (Ap.Out.av x):=by rw[bd (xp x),pX,ww]
@[simp high] theorem Gm(x:Ap.Out):ar 8 [] (Ap.Out.av x)=M.pure (Ap.Out.av x):=by rw[aR (xp x),pX,ww]
@[simp] theorem nd(t:Ty):ct 2 t.av=true:=by simp[ct,aO,aH]
@[simp high] theorem fS(x:Ty):aC 2 (Ty.av x)=M.pure (Ty.av x):=by rw[bd (nd x),dI,eA]
@[simp high] theorem vU(x:Ty):ar 2 [] (Ty.av x)=M.pure (Ty.av x):=by rw[aR (nd x),dI,eA]
end Go.Av
namespace Go.Av
@[simp] theorem FW(c:Prop)[Decidable c](a b:Bool):(if c then (M.pure (.bool a):M AV) else M.pure (.bool b))=M.pure (.bool (if c then a else b)):=by split <;> rfl
@[simp] theorem GQ(c:Prop)[Decidable c](a b:Int):(if c then (M.pure (.int .i64 a):M AV) else M.pure (.int .i64 b))=M.pure (.int .i64 (if c then a else b)):=by split <;> rfl
theorem GI{F:(List AV→M AV)→List AV→M AV}(hF:∀ vs,af F vs=F (af F) vs)(st:Nat→List AV)(n:Nat) (G:Nat→Bool)
  (hend:F (af F) (st n)=M.pure (.bool true)) (hstep:∀ k,k < n→F (af F) (st k)=if G k=true then af F (st (k + 1)) else M.pure (.bool false)):
  ∀ k,k≤n→af F (st k)=M.pure (.bool ((List.range' k (n - k)).all G)):=by
 have key:∀ r k,n - k=r→k≤n→af F (st k)=M.pure (.bool ((List.range' k r).all G)):=by
  intro r
  induction r with
  | zero=>
   intro k hr hk
   obtain rfl:k=n:=by omega
   rw[hF,hend]
   rfl
  | succ r ih=>
   intro k hr hk
   rw[hF,hstep k (by omega),ih (k + 1) (by omega) (by omega)]
   simp only[List.range'_succ,List.all_cons]
   cases G k <;> rfl
 exact fun k hk=>key (n - k) k rfl hk
theorem yq{α:Type}[Inhabited α](P:α→Bool)(l:List α):(List.range' 0 l.length).all (fun k=>P l[k]!)=l.all P:=by
 rw[Bool.eq_iff_iff]
 simp only[List.all_eq_true,List.mem_range'_1]
 constructor
 ·intro h x hx
  obtain⟨i,hi,rfl⟩:=List.getElem_of_mem hx
  have:=h i ⟨Nat.zero_le _,by omega⟩
  rwa [getElem!_pos l i hi] at this
 ·intro h k hk
  have hk':k < l.length:=by omega
  rw[getElem!_pos l k hk']
  exact h _ (List.getElem_mem hk')
theorem Ct{T:TT}{t e:Nat}{ti ei:TI}(ht:T t=some ti)(hk:ti.kind= .slice e)(he:T e=some ei)(es:List AV)(hok:cQ ei.size es=true){n:Int}(h0:0≤n)(h1:n≤es.length):iN T t (.sl es) (some (.int .i64 n)) none none=some (.sl (es.drop n.toNat)):=by
 unfold iN
 rw[ht]
 simp[hk,he,cR,h0,h1,hok]
end Go.Av
namespace Go.Av.Ap
open Go Go.Av
def Val.limN:Nat→Val→Prop
 | 0,_=>True
 | n + 1,v=>v.names.length≤140737488355328∧v.values.length≤140737488355328∧∀ x∈v.values,x.limN n
def Val.Lim(v:Val):Prop:=∀ n,v.limN n
def Exp.limN:Nat→Exp→Prop
 | 0,_=>True
 | n + 1,v=>v.names.length≤8796093022208∧v.args.length≤140737488355328∧∀ x∈v.args,x.limN n
def Exp.Lim(v:Exp):Prop:=∀ n,v.limN n
def Ty.limN:Nat→Ty→Prop
 | 0,_=>True
 | n + 1,v=>v.fields.length≤140737488355328∧∀ x∈v.fields,x.2.limN n
def Ty.Lim(v:Ty):Prop:=∀ n,v.limN n
theorem Val.Lim.names{v:Val}(h:v.Lim):v.names.length≤140737488355328:=(h 1).1
theorem Val.Lim.len{v:Val}(h:v.Lim):v.values.length≤140737488355328:=(h 1).2.1
theorem Val.Lim.kid{v:Val}(h:v.Lim){x:Val}(hx:x∈v.values):x.Lim:=fun n=>(h (n + 1)).2.2 x hx
theorem Exp.Lim.names{v:Exp}(h:v.Lim):v.names.length≤8796093022208:=(h 1).1
theorem Exp.Lim.len{v:Exp}(h:v.Lim):v.args.length≤140737488355328:=(h 1).2.1
theorem Exp.Lim.kid{v:Exp}(h:v.Lim){x:Exp}(hx:x∈v.args):x.Lim:=fun n=>(h (n + 1)).2.2 x hx
theorem Ty.Lim.len{v:Ty}(h:v.Lim):v.fields.length≤140737488355328:=(h 1).1
theorem Ty.Lim.kid{v:Ty}(h:v.Lim){x:cr}(hx:x∈v.fields):x.2.Lim:=fun n=>(h (n + 1)).2 x hx
structure Fun.Lim (f:Fun):Prop where
 params:f.params.length≤140737488355328
 pty:∀ x∈f.params,x.2.Lim
 result:f.result.Lim
 body:f.body.Lim
structure Mod.Lim (m:Mod):Prop where
 uses:m.uses.length≤140737488355328
 vars:m.vars.length≤140737488355328
 vty:∀ x∈m.vars,x.2.Lim
 init:m.init.length≤140737488355328
 ies:∀ e∈m.init,e.Lim
 funcs:m.funcs.length≤140737488355328
 fns:∀ f∈m.funcs,f.Lim
 old:m.old.length≤140737488355328
 oty:∀ x∈m.old,x.2.Lim
 forward:m.forward.length≤140737488355328
 fes:∀ e∈m.forward,e.Lim
 back:m.back.length≤140737488355328
 bes:∀ e∈m.back,e.Lim
end Go.Av.Ap
namespace Go.Av.Ap
structure Ver where
 a:Int
 b:Int
 c:Int
 deriving DecidableEq,Inhabited
structure Rng where
 lo:Ver
 hi:Ver
 deriving DecidableEq,Inhabited
def Ver.av(v:Ver):AV:=.agg [.int .i64 v.a,.int .i64 v.b,.int .i64 v.c]
def Rng.av(r:Rng):AV:=.agg [.int .i64 r.lo.a,.int .i64 r.lo.b,.int .i64 r.lo.c,.int .i64 r.hi.a,.int .i64 r.hi.b,.int .i64 r.hi.c]
def vt(l:List Ver):AV:=.sl (l.map Ver.av)
def uT(l:List Rng):AV:=.sl (l.map Rng.av)
@[simp] theorem p9(v:Ver):ab v.av=[.int .i64 v.a,.int .i64 v.b,.int .i64 v.c]:=rfl
@[simp] theorem pY(r:Rng):ab r.av=[.int .i64 r.lo.a,.int .i64 r.lo.b,.int .i64 r.lo.c,.int .i64 r.hi.a,.int .i64 r.hi.b,.int .i64 r.hi.c]:=rfl
@[simp] theorem wz(v:Ver):AV.agg [.int .i64 v.a,.int .i64 v.b,.int .i64 v.c]=v.av:=rfl
@[simp] theorem wx(r:Rng):AV.agg [.int .i64 r.lo.a,.int .i64 r.lo.b,.int .i64 r.lo.c,.int .i64 r.hi.a,.int .i64 r.hi.b,.int .i64 r.hi.c]=r.av:=rfl
@[simp] theorem DX(g:Nat→Nat→Nat→Nat→Bool→AV)(v:Ver):cl g v.av=v.av:=rfl
@[simp] theorem DV(g:Nat→Nat→Nat→Nat→Bool→AV)(v:Rng):cl g v.av=v.av:=rfl
@[simp] theorem Ak(g:Nat→Nat→Nat→Nat→Bool→AV)(l:List Ver):cl g (vt l)=vt l:=by simp[vt,cl,dF g Ver.av (DX g)]
@[simp] theorem Aj(g:Nat→Nat→Nat→Nat→Bool→AV)(l:List Rng):cl g (uT l)=uT l:=by simp[uT,cl,dF g Rng.av (DV g)]
@[simp] theorem NI(v:Ver):cH v.av=some 3:=rfl
@[simp] theorem NF(v:Rng):cH v.av=some 6:=rfl
@[simp] theorem rC(v:Ver):ct 3 v.av=true:=rfl
@[simp] theorem rA(v:Rng):ct 6 v.av=true:=rfl
@[simp] theorem LA(l:List Ver):cQ 3 (l.map Ver.av)=true:=cW rC l
@[simp] theorem Lw(l:List Rng):cQ 6 (l.map Rng.av)=true:=cW rA l
@[simp] theorem Ng(v:Ver):aF (M.pure v.av)=M.pure v.av:=bP fun g=>DX g v
@[simp] theorem Na(v:Rng):aF (M.pure v.av)=M.pure v.av:=bP fun g=>DV g v
@[simp] theorem Lo(v:List Ver):aF (M.pure (vt v))=M.pure (vt v):=bP fun g=>Ak g v
@[simp] theorem Lm(v:List Rng):aF (M.pure (uT v))=M.pure (uT v):=bP fun g=>Aj g v
@[simp high] theorem Kf(x:Ver):aC 3 x.av=M.pure x.av:=by rw[bd (rC x),p9,wz]
@[simp high] theorem Gq(x:Ver):ar 3 [] x.av=M.pure x.av:=by rw[aR (rC x),p9,wz]
@[simp high] theorem Kd(x:Rng):aC 6 x.av=M.pure x.av:=by rw[bd (rA x),pY,wx]
@[simp high] theorem Gn(x:Rng):ar 6 [] x.av=M.pure x.av:=by rw[aR (rA x),pY,wx]
structure Seen where
 prog:List Mod
 vsns:List Ver
 calls:List Call
 whole:Bool
 deriving Inhabited
structure Adv where
 id:Int
 name:aW
 ranges:List Rng
 func:aW
 cond:Exp
 deriving Inhabited
def Seen.av(s:Seen):AV:=.agg [mods s.prog,vt s.vsns,Ap.calls s.calls,.bool s.whole]
def Adv.av(a:Adv):AV:=.agg ([.int .i64 a.id,.str a.name,uT a.ranges,.str a.func]++a.cond.cells)
structure CallLim (c:Call):Prop where
 len:c.args.length≤140737488355328
 args:∀ v∈c.args,v.Lim
structure Seen.Lim (s:Seen):Prop where
 len:s.prog.length≤140737488355328
 mods:∀ m∈s.prog,m.Lim
 vsns:s.vsns.length≤140737488355328
 lenc:s.calls.length≤140737488355328
 calls:∀ c∈s.calls,CallLim c
structure Adv.Lim (a:Adv):Prop where
 ranges:a.ranges.length≤140737488355328
 cond:a.cond.Lim
def AX(l:List Seen):AV:=.sl (l.map Seen.av)
@[simp] theorem oN(s:Seen):ab s.av=[mods s.prog,vt s.vsns,Ap.calls s.calls,.bool s.whole]:=rfl
@[simp] theorem tf(s:Seen):AV.agg [mods s.prog,vt s.vsns,Ap.calls s.calls,.bool s.whole]=s.av:=rfl
@[simp] theorem pU(a:Adv):ab a.av=[.int .i64 a.id,.str a.name,uT a.ranges,.str a.func,.int .i64 a.cond.op,.int .i64 a.cond.n,.str a.cond.s,.str a.cond.m,strs a.cond.names,cG a.cond.args]:=by
 obtain⟨i,n,r,f,c⟩:=a
 cases c
 rfl
@[simp] theorem mO(a:Adv):AV.agg [.int .i64 a.id,.str a.name,uT a.ranges,.str a.func,.int .i64 a.cond.op,.int .i64 a.cond.n,.str a.cond.s,.str a.cond.m,strs a.cond.names,cG a.cond.args]=a.av:=by
 obtain⟨i,n,r,f,c⟩:=a
 cases c
 rfl
@[simp] theorem Gx(g:Nat→Nat→Nat→Nat→Bool→AV)(s:Seen):cl g s.av=s.av:=by
 unfold Seen.av
 simp only[cl,ee,gU,Ak,DO]
@[simp] theorem O7(g:Nat→Nat→Nat→Nat→Bool→AV)(a:Adv):cl g a.av=a.av:=by
 rw[← mO]
 simp only[cl,ee,Aj,ul,Gv]
@[simp] theorem MF(g:Nat→Nat→Nat→Nat→Bool→AV)(l:List Seen):cl g (AX l)=AX l:=by simp[AX,cl,dF g Seen.av (Gx g)]
@[simp] theorem LG(v:Seen):cH v.av=some 4:=rfl
@[simp] theorem oo(v:Seen):ct 4 v.av=true:=rfl
@[simp] theorem KT(l:List Seen):cQ 4 (l.map Seen.av)=true:=cW oo l
@[simp high] theorem Ib(x:Seen):aC 4 x.av=M.pure x.av:=by rw[bd (oo x),oN,tf]
@[simp high] theorem FT(x:Seen):ar 4 [] x.av=M.pure x.av:=by rw[aR (oo x),oN,tf]
@[simp] theorem xo(v:Adv):ct 10 v.av=true:=by
 rw[← mO]
 rfl
@[simp high] theorem J8(x:Adv):aC 10 x.av=M.pure x.av:=by rw[bd (xo x),pU,mO]
@[simp high] theorem Gh(x:Adv):ar 10 [] x.av=M.pure x.av:=by rw[aR (xo x),pU,mO]
end Go.Av.Ap
namespace Go.Av
variable [Dr]
open Go.RowKit Go.WideShapes Go.ChangeShapes
theorem Left.below{S S':au}{β β':List bn}{w w':World}{h':Hp}(L:Left (bX [] []) S β w S' β' w' h'):Below w.heap.size w w':=
 ⟨L.gro.os,L.gro.tape,L.gro.out,L.gro.size,fun k hk=>(L.keep k hk (by rintro⟨l,_,_,h1,_⟩;simp at h1)).1⟩
def jh(W:World):au:=fun b o=>W.cell? ⟨b,o,none⟩
omit [Dr] in
theorem F5(W:World):Wf (jh W) W:=fun _ _ _ h=>h
omit [Dr] in
theorem BU{W:World}(h:GOKw W):sa [] [] W:=⟨h,fun b _ ho=>by obtain⟨l,_,_,h1,_⟩:=ho;simp at h1⟩
theorem B7{P:Program}{p:Pg}(G:GoodPg P p)(hO:dx p){f:FuncId}{args:List AV}{vs:List Value}{W:World}(hg:GOKw W) (hv:aM (jh W) [] args vs)
  (ht:ai p f args []= .ok (.bool true) []):Calls P f vs.toArray W fun e W'=>e= .returned (.bool true)∧Below W.heap.size W W':=by
 have h:=(iS G hO f args [] (jh W) [] W vs (by rw[ht];simp) (BU hg) (F5 W) ⟨rfl,fun _=>.no,fun l cs hl=>by simp at hl⟩ hv).1
 rw[ht] at h
 refine h.mono fun e W' hp=>?_
 obtain⟨S',β',v,rfl,hv,L,_⟩:=hp
 simp only[VR] at hv
 subst hv
 exact⟨rfl,L.below⟩
section
variable {H:Type} {enc:TypeId×Value→H} {P:Program}
omit [Dr] in
theorem sE{f:Func}{s:ChangeSpec}{apart fresh handsOn again:Bool}{W W':World}{args:Array Value}{v:Value}{ds gs:List (DataW H)} {before pa pv:List MemPlace}
  (hW:DataW.Whole enc P f.params.toList s.vars apart W args.toList ds gs before)
  (hres:∀(b:Nat)(sp:Nat→Bool)(hd:Bool),DataW.TrodAll enc P W' b sp hd f.resultTypes.toList (v.resultList f.resultTypes.size) (s.fn H (ds++gs)).results [])
  (hargs:∀ sp:Nat→Bool,(∀ p∈before,sp p.block=true)→DataW.TrodAll enc P W' 0 sp true f.params.toList args.toList (s.fn H (ds++gs)).args pa)
  (hvars:∀ sp:Nat→Bool,(∀ p∈before,sp p.block=true)→DataW.TrodVars enc P W' sp s.vars (s.fn H (ds++gs)).vars pv)
  (hps:before=pa++pv) (hb:Below W.heap.size W W')
  (hok:∀(j:Nat)(t:TypeId)(r:Value),f.resultTypes[j]? = some t→(v.resultList f.resultTypes.size)[j]? = some r→Value.okWide P W' .any 0 t r):
  s.post enc P f apart fresh handsOn again W args v W':=by
 have hlt:∀ p∈before,p.block < W.heap.size:=fun p hp=>hW.lt p hp
 have hold:∀ p∈before,(fun b=>decide (b < W.heap.size)) p.block=true:=fun p hp=>by simpa using hlt p hp
 refine⟨ds,gs,before,[],pa,pv,hW,hres _ _ _,hargs _ hold,hvars _ hold,World.keptBut_mono (fun p hp=>⟨hp,?_⟩) (hb.frame (· ∈before)),fun _=>?_⟩
 ·rw[hps,List.mem_append] at hp
  exact Or.inr hp
 ·obtain⟨_,_,_,_,_,hz,hn⟩:=hW
  refine⟨hok,_,_,([]++pa)++pv,⟨[]++pa,pv,trodAll_append (hargs _ (fun _ _=>rfl)) (hres _ _ _),hvars _ (fun _ _=>rfl),rfl,?_,?_⟩,?_⟩
  ·intro b off hp
   have hin:MemPlace.cell b off∈before:=by rw[hps];simpa using hp
   rw[hb.frozen (hlt _ hin)]
   exact hz b off hin
  ·intro ha
   have:=hn ha
   rw[hps] at this
   simpa using this
  ·intro p hp _
   rw[hps]
   simpa using hp
end
end Go.Av
namespace Go.Av
variable [Dr]
theorem iV{P:Program}{cx:Cx}{own:Option Nat}(hT:TOK P cx.T)(hC:cM P cx.own cx.call)(hI:IsoCall cx){f:FuncId}{fn:Func}(hf:P.funcs[f]? = some fn)(hnt:cx.nt=fn.ntmps) {E:List AV→Hp→R AV}
  (h0:∀ h,E [] h= .ok (.sl []) h) (h1:∀ e es h,bM cx (cO 0) fn own [.sl (e:: es)] h=E (e:: es) h) (h2:∀ h,bM cx (cO 0) fn own [.hn] h= .ok (.sl []) h)
  (h3:∀ l off h,bM cx (cO 0) fn own [.hs l off 0 1 false] h= .ok (.sl []) h) {es:List AV} {h:Hp} {S:au} {β:List bn} {w:World} {vs:List Value}
  (hr:E es h≠.fail) (hg:sa β h w) (hw:Wf S w) (hh:ca S β w h) (hv:aM S β [.sl es] vs):Calls P f vs.toArray w (dl own S β h w (E es h))∧fn.body.isSome=true:=by
 cases es with
 | cons e es=>
  rw[← h1] at hr ⊢
  exact ix hT hC hI 0 hf hnt hr hg hw hh hv
 | nil=>
  rw[h0]
  simp only[aM] at hv
  obtain⟨v,_,rfl,hv,rfl⟩:=hv
  have hv0:=hv
  simp only[VR] at hv
  obtain⟨a,cap,rfl,hc,hn,hq⟩:=hv
  cases a with
  | none=>
   have hcap:=hn rfl
   subst hcap
   have hv2:aM S β [.hn] [.slice none ([]:List AV).length 0]:=by simp[aM,VR]
   have:=ix (own:=own) hT hC hI 0 hf hnt (args:=[.hn]) (h:=h) (by rw[h2];simp) hg hw hh hv2
   rw[h2] at this
   exact this
  | some q=>
   obtain⟨hs,_⟩:=hq q rfl
   have hX:ca S [(q.block,q.off + cap)] w [[]]:=⟨rfl,fun _=>.no,fun l cs hl hne=>by
    cases l with
    | zero=>simp at hl;exact absurd hl hne
    | succ l=>simp at hl⟩
   have hE:∀ b,¬ bX [(q.block,q.off + cap)] [[]] b:=by
    rintro b ⟨l,cs,n,k1,k2,_⟩
    cases l with
    | zero=>simp at k1;exact k2 k1
    | succ l=>simp at k1
   have hv2:aM S [(q.block,q.off + cap)] [.hs 0 q.off 0 1 false] [.slice (some q) ([]:List AV).length cap]:=by
    simp only[aM,VR]
    rcases Nat.eq_zero_or_pos cap with h0 | h0
    ·subst h0
     exact⟨_,_,rfl,.inr ⟨trivial,q,rfl⟩,rfl⟩
    ·have hq':q=⟨q.block,q.off,none⟩:=by
      have:=hs h0
      cases q;simp_all
     exact⟨_,_,rfl,.inl ⟨(q.block,q.off + cap),cap,rfl,(by show q.off + cap≠0;omega),by rw[← hq'];rfl,Nat.zero_le _,by simp⟩,rfl⟩
   have:=ix (own:=own) hT hC hI 0 hf hnt (args:=[.hs 0 q.off 0 1 false]) (h:=[[]]) (by rw[h3];simp) ⟨hg.1,fun b _=>hE b⟩ hw hX hv2
   rw[h3] at this
   refine⟨this.1.mono fun en w' hp=>?_,this.2⟩
   obtain⟨S',β',v,k1,k2,k3,k4⟩:=hp
   obtain⟨S2,j1,j2,j3⟩:=Ax hw hh hE k3
   exact⟨S2,β,v,k1,j2 (.sl []) v k2,j1,fun sz hsz=>j3 sz v (k4 sz hsz)⟩
end Go.Av
namespace Go.Av
variable [Dr]
omit [Dr] in
theorem ca.grow{S:au}{β:List bn}{w w':World}{h:Hp}(hh:ca S β w h)(hb:∀ b,b < w.heap.size→w'.heap[b]? = w.heap[b]?):ca S β w' h:=by
 obtain⟨hlen,ω,hr⟩:=hh
 exact⟨hlen,ω,hr.rows (au.le_refl S) (eZ.refl β) hlen fun l cs hl _=>.inl ⟨hl,fun b hb' ho=>⟨ho,hb b hb',fun o h=>h⟩⟩⟩
omit [Dr] in
theorem ca.low{S:au}{β:List bn}{w:World}{h:Hp}(hh:ca S β w h){b:Nat}(hb:bX β h b):b < w.heap.size:=by
 obtain⟨_,ω,hr⟩:=hh
 obtain⟨l,cs,n,h1,h2,h3⟩:=hb
 obtain⟨b',x,k1,k2,_⟩:=hr.own h1 h2
 rw[h3] at k1
 cases k1
 exact k2
omit [Dr] in
theorem Wf.grow{S:au}{w w':World}(hw:Wf S w)(hb:∀ b,b < w.heap.size→w'.heap[b]? = w.heap[b]?):Wf S w':=
 fun b o v hv=>by rw[cell_of_heap (hb b (hw.lt hv))];exact hw b o v hv
theorem tx{S S':au}{β β':List bn}{w w2 w' w'':World}{h h':Hp}(hg:Gro w w2)(hold:∀ b,b < w.heap.size→w2.heap[b]? = w.heap[b]?)(L:Left (bX β h) S β w2 S' β' w' h') (hg':Gro w' w'')
  (hsame:∀ b,¬ (w.heap.size≤b∧b < w2.heap.size)→w''.heap[b]? = w'.heap[b]?) (hw:Wf S w) (hh:ca S β w h):Left (bX β h) S β w S' β' w'' h':=by
 have hs:=hg.size
 refine⟨L.le,L.ext,fun b o v hv=>?_,(hg.trans L.gro).trans hg',fun b hb hE=>?_,?_,fun b hb=>?_⟩
 ·by_cases hb:w.heap.size≤b∧b < w2.heap.size
  ·have hE:¬ bX β h b:=fun ho=>by have:=hh.low ho;omega
   have:=(L.keep b hb.2 hE).2 o
   rw[this,hw.none hb.1] at hv
   cases hv
  ·rw[cell_of_heap (hsame b hb)]
   exact L.wf b o v hv
 ·have h1:=L.keep b (by omega) hE
  exact⟨by rw[hsame b (by omega),h1.1,hold b hb],h1.2⟩
 ·obtain⟨hlen,ω,hr⟩:=L.heap
  refine⟨hlen,ω,hr.rowsA (au.le_refl S') (eZ.refl β') hlen fun l cs hl hne=>.inl ⟨hl,fun b _ ⟨n,h1⟩ h3=>⟨h3,hsame b fun hb=>?_,fun o h=>h⟩⟩⟩
  rcases L.owned b ⟨l,cs,_,hl,hne,h1⟩ with ho | ho
  ·have:=hh.low ho;omega
  ·omega
 ·rcases L.owned b hb with ho | ho
  ·exact .inl ho
  ·exact .inr (by omega)
theorem Gro.setCell(w:World)(a:Addr)(v:Value):Gro w (w.setCell a v):=⟨by simp,rfl,rfl,rfl,fun _=>Nat.le_refl _⟩
omit [Dr] in
theorem fL{w:World}{a:Addr}{v:Value}{b:Nat}(h:b≠a.block):(w.setCell a v).heap[b]? = w.heap[b]?:=by
 simp only[World.setCell,Array.getElem?_modify]
 rw[if_neg (fun e=>h e.symm)]
end Go.Av
namespace Go.Av.Ap
open Go Go.Av
def pM(b:UInt8):Bool:=decide (97≤b.toNat)&&decide (b.toNat≤122)
def yP(b:UInt8):Bool:=decide (48≤b.toNat)&&decide (b.toNat≤57)
def qc(b:UInt8):Bool:=pM b||yP b
def py(s:aW):Bool:=!(s== [])&&pM (s.headD 0)&&decide (s.length≤20)&&((s.takeWhile qc).length== s.length)
def lp:aW:=[32,97,110,100,32,98,97,99,107,32,98,111,111,108,32,99,108,111,99,107,32,101,108,115,101,32,102,97,108,115,101,32,102,105,108,101,115,32,102,110,32,102,111,114,119,97,114,100,32,103,101,116,32,105,102,32,105,110,32,105,110,116,32,108,101,116,32,109,111,100,117,108,101,32,109,111,118,101,32,110,101,116,32,110,111,116,32,111,114,32,112,117,98,32,115,101,99,114,101,116,115,32,115,101,116,32,116,104,101,110,32,116,114,117,101,32,117,115,101,32,118,97,114,32]
def cX(s:aW):Bool:=py s && !(Lib.contains lp ([32]++s++[32]))
theorem Cw{s:aW}(h:py s=true):s.length≤20:=by
 unfold py at h
 simp only[Bool.and_eq_true,decide_eq_true_eq] at h
 exact h.1.2
def fb(p f:aW):Bool:=!(aG f p||f== p)
def nF{α:Type}(Q:α→α→Bool):List α→Bool
 | x:: y:: r=>Q x y&&nF Q (y:: r)
 | _=>true
theorem vK{α:Type}[Inhabited α](Q:α→α→Bool):(l:List α)→(nF Q l=true↔∀ k,k + 1 < l.length→Q l[k]! l[k + 1]! = true)
 | []=>by simp[nF]
 | [x]=>by simp[nF]
 | x:: y:: r=>by
  simp only[nF,Bool.and_eq_true,vK Q (y:: r)]
  constructor
  ·rintro⟨h1,h2⟩ k hk
   cases k with
   | zero=>simpa using h1
   | succ k=>simpa using h2 k (by simpa using hk)
  ·intro h
   refine⟨by simpa using h 0 (by simp),fun k hk=>?_⟩
   simpa using h (k + 1) (by simpa using hk)
theorem zY{α:Type}[Inhabited α](P:α→Bool)(Q:α→α→Bool)(l:List α):(List.range' 0 l.length).all (fun k=>P l[k]! && (decide (k=0)||Q l[k - 1]! l[k]!))=(l.all P&&nF Q l):=by
 rw[Bool.eq_iff_iff,Bool.and_eq_true,← yq P l,vK]
 simp only[List.all_eq_true,List.mem_range'_1,Bool.and_eq_true,Bool.or_eq_true,decide_eq_true_eq]
 constructor
 ·intro h
  refine⟨fun k hk=>(h k hk).1,fun k hk=>?_⟩
  have:=(h (k + 1) ⟨Nat.zero_le _,by omega⟩).2
  rcases this with h0 | h1
  ·omega
  ·simpa using h1
 ·rintro⟨h1,h2⟩ k hk
  refine⟨h1 k hk,?_⟩
  cases k with
  | zero=>exact .inl rfl
  | succ k=>exact .inr (by simpa using h2 k (by omega))
def dC:Nat→Ty→Bool
 | 0,_=>false
 | d + 1,t=>decide (0≤t.kind)&&decide (t.kind < 3)&&decide (t.fields.length≤8)&&(t.kind== 2||t.fields.length== 0)&&(t.fields.all (fun f=>cX f.1&&dC d f.2)&&nF (fun a b=>fb a.1 b.1) t.fields)
theorem i7(d:Nat)(t:Ty):dC (d + 1) t=(decide (0≤t.kind)&&decide (t.kind < 3)&&decide (t.fields.length≤8)&&(t.kind== 2||t.fields.length== 0)&&(t.fields.all (fun f=>cX f.1&&dC d f.2)&&nF (fun a b=>fb a.1 b.1) t.fields)):=rfl
abbrev bO(t:Ty):Bool:=dC 4 t
mutual
def ue:Ty→Ty→Bool
 | .mk k fs,a=>a.kind== k&&pH fs a.fields
def pH:List (aW×Ty)→List cr→Bool
 | [],_=>true
 | f:: fs,l=>yz f l&&pH fs l
def yz:aW×Ty→List cr→Bool
 | (n,t),l=>match cm (fun z=>z.1== n) l with
  | some z=>ue t z.2
  | none=>false
end
def bW(a b:Ty):Bool:=ue b a
theorem oR:(fs:List cr)→(l:List cr)→pH fs l=fs.all fun f=>yz f l
 | [],_=>rfl
 | f:: fs,l=>by simp[pH,oR fs l]
theorem Bh(a b:Ty):bW a b=(a.kind== b.kind&&b.fields.all fun f=>match cm (fun z=>z.1== f.1) a.fields with | some z=>bW z.2 f.2 | none=>false):=by
 cases b with
 | mk k fs=>
  show ue (.mk k fs) a=_
  simp only[ue,oR,Ty.kind,Ty.fields]
  congr 2
  funext f
  obtain⟨n,t⟩:=f
  simp only[yz,bW]
def dG(a b:Int):Int:=IntKind.i64.wrap (BitVec.ofInt 64 a &&& ~~~ BitVec.ofInt 64 b).toNat
structure Sig.Lim (s:Sig):Prop where
 plen:s.params.length≤140737488355328
 ptys:∀ t∈s.params,t.Lim
 result:s.result.Lim
structure Face.Lim (f:Face):Prop where
 len:f.funcs.length≤140737488355328
 sigs:∀ s∈f.funcs,s.Lim
@[simp] theorem qi(x:Sig):aC 5 x.av=M.pure x.av:=by rw[bd (kH x),fa,qH]
@[simp] theorem uj(x:Sig):ar 5 [] x.av=M.pure x.av:=by rw[aR (kH x),fa,qH]
theorem fN:(a:aW)→aG a a=false
 | []=>rfl
 | x:: a=>by simp[aG,fN a]
theorem eX:(a b c:aW)→aG a b=true→aG b c=true→aG a c=true
 | _,[],c,h,_=>by cases ‹aW› <;> simp[aG] at h
 | _,_:: _,[],_,h=>by simp[aG] at h
 | [],_:: _,_:: _,_,_=>by simp[aG]
 | x:: a,y:: b,z:: c,h1,h2=>by
  simp only[aG,Bool.or_eq_true,Bool.and_eq_true,decide_eq_true_eq,beq_iff_eq,UInt8.lt_iff_toNat_lt] at h1 h2 ⊢
  rcases h1 with h1 | ⟨rfl,h1⟩
  ·rcases h2 with h2 | ⟨rfl,h2⟩
   ·exact .inl (by omega)
   ·exact .inl h1
  ·rcases h2 with h2 | ⟨rfl,h2⟩
   ·exact .inl h2
   ·exact .inr ⟨rfl,eX a b c h1 h2⟩
theorem gl:(a b:aW)→aG a b=false→a≠b→aG b a=true
 | [],[],_,h=>absurd rfl h
 | [],_:: _,h,_=>by simp[aG] at h
 | _:: _,[],_,_=>by simp[aG]
 | x:: a,y:: b,h1,h2=>by
  simp only[aG,Bool.or_eq_false_iff,decide_eq_false_iff_not,Bool.or_eq_true,Bool.and_eq_true,decide_eq_true_eq,beq_iff_eq,UInt8.lt_iff_toNat_lt] at h1 ⊢
  by_cases e:x=y
  ·subst e
   refine .inr ⟨rfl,gl a b ?_ fun e=>h2 (by rw[e])⟩
   simpa using h1.2
  ·refine .inl ?_
   have:x.toNat≠y.toNat:=fun e'=>e (UInt8.toNat_inj.1 e')
   omega
end Go.Av.Ap
namespace Go.Av.Ap
open Go Go.Av
section
variable {α:Type} {f:α→AV} {sz:Nat}
def rowOf(f:α→AV)(l:List α):List AV:=(l.map f).flatMap ab
theorem iM(x:α)(l:List α):rowOf f (x:: l)=ab (f x)++rowOf f l:=by simp[rowOf]
theorem fu(hs:∀ x,(ab (f x)).length=sz):(l:List α)→(rowOf f l).length=l.length * sz
 | []=>by simp[rowOf]
 | x:: l=>by rw[iM,List.length_append,hs,fu hs l,List.length_cons,Nat.succ_mul];omega
theorem gC(hs:∀ x,(ab (f x)).length=sz):(l:List α)→(i:Nat)→(h:i < l.length)→((rowOf f l).drop (i * sz)).take sz=ab (f l[i])
 | x:: l,0,_=>by
  rw[iM,Nat.zero_mul,List.drop_zero,List.take_left' (hs x)]
  rfl
 | x:: l,i + 1,h=>by
  rw[iM,show (i + 1) * sz=(ab (f x)).length + i * sz by rw[hs,Nat.succ_mul];omega,List.drop_append,List.drop_eq_nil_of_le (by omega),Nat.add_sub_cancel_left,List.nil_append]
  simpa using gC hs l i (by simpa using h)
theorem sH{cs xs:List AV}{off:Nat}(h:(cs.drop off).take xs.length=xs):setCells cs off xs=cs:=by
 unfold setCells
 conv=>lhs;rw[← h]
 rw[List.append_assoc]
 have:cs.take off++((cs.drop off).take xs.length++cs.drop (off + ((cs.drop off).take xs.length).length))=cs:=by
  rw[h,← List.drop_drop]
  conv=>lhs;rw[show xs++List.drop xs.length (List.drop off cs)=(cs.drop off).take xs.length++List.drop xs.length (List.drop off cs) by rw[h]]
  rw[List.take_append_drop,List.take_append_drop]
 exact this
theorem nS(hs:∀ x,(ab (f x)).length=sz)(hag:∀ x,f x= .agg (ab (f x)))(hcl:∀ x g,cl g (f x)=f x)(hz:0 < sz){h:Hp}{q:Nat}{l:List α}(hq:h[q]? = some (rowOf f l))(d:Nat):
  iE (d + 1) h (.hs q 0 l.length sz true)= .sl (l.map f):=by
 have hlen:=fu (f:=f) hs l
 simp only[iE,cl,hq]
 have h1:(decide (0 + l.length * sz≤(rowOf f l).length)&&decide (0 < sz)&&(true||(Nat.beq sz 1&&(rowOf f l).all aO)))=true:=by
  simp[hlen,hz]
 rw[h1,cond_true]
 congr 1
 apply List.ext_getElem
 ·simp
 ·intro i h2 h3
  have hi:i < l.length:=by simpa using h2
  simp only[List.getElem_map,List.getElem_range,Nat.zero_add,cond_true]
  rw[gC hs l i hi,← hag]
  cases d with
  | zero=>exact hcl _ _
  | succ d=>exact hcl _ _
theorem yM{T:TT}{t e:Nat}{ti ei:TI}(ht:T t=some ti)(hk:ti.kind= .slice e)(he:T e=some ei)(h4:ei.size=sz)(hag:ei.agg=true)(hb:0 < ei.bytes)(hz:0 < sz)(hok:∀ x,ct sz (f x)=true)(call:FuncId→List AV→M AV)(l:List α)(hc:l.length * ei.bytes≤140737488355328)(h:Hp):
  dJ T t call [.sl (l.map f)] h=if l=[] then .ok (.sl []) h else .ok (.hs h.length 0 l.length sz true) (h++[rowOf f l]):=by
 have h1:cQ sz (l.map f)=true:=cW hok l
 cases l with
 | nil=>simp[dJ,appH,ht,hk,he,gM,hb,h4,kS,cQ,hz]
 | cons v l=>
  have hne:((v:: l).map f).isEmpty=false:=rfl
  unfold dJ appH
  simp only[ht,hk,he,gM,h4,h1,hb,hz,kS,decide_true,Bool.and_self,cond_true,hne,cond_false,List.length_map,hag]
  rw[decide_eq_true hc]
  simp[rowOf]
end
theorem B9{T:TT}{t:Nat}{ti:TI}{q off:Nat}{cs:List AV}{h:Hp}(ht:T t=some ti)(hag:ti.agg=true)(hq:h[q]? = some cs)(hle:off + ti.size≤cs.length):bA T t (.hp q off) h= .ok (.agg ((cs.drop off).take ti.size)) h:=by
 simp only[bA,ht,hq,hag,cond_true]
 rw[if_pos hle]
theorem xU{T:TT}{t:Nat}{ti:TI}{q off:Nat}{cs:List AV}{v:AV}{h:Hp}(ht:T t=some ti)(hq:h[q]? = some cs)(hok:ct ti.size v=true)(hle:off + ti.size≤cs.length)(h0:0 < ti.size)(hsame:(cs.drop off).take (ab v).length=ab v):
  bK T t (.hp q off) v h= .ok (.tup []) h:=by
 simp only[bK,ht,hq,hok,decide_eq_true hle,decide_eq_true h0,Bool.and_self,cond_true]
 rw[sH hsame]
 congr 1
 obtain⟨hlt,hk⟩:=List.getElem?_eq_some_iff.1 hq
 rw[← hk]
 exact List.set_getElem_self hlt
end Go.Av.Ap
namespace Go.Av
open Go.RowKit
section
variable {H:Type} {enc:TypeId×Value→H} {P:Program} {w w':World}
theorem lI{base:Nat}{spare:Nat→Bool}{held:Bool}:∀ {ts:List TypeId} {vs:List Value} {ds:List (DataW H)} {ps:List MemPlace},DataW.TrodAll enc P w base spare held ts vs ds ps→(∀ p∈ps,w.sameAt w' p)→DataW.TrodAll enc P w' base spare held ts vs ds ps
 | [],[],[],_,h,_=>h
 | _:: _,_:: _,_:: _,_,⟨p,q,⟨n,h1⟩,h2,e⟩,hs=>⟨p,q,⟨n,DataW.trod_carry n _ _ _ h1 (fun x hx=>hs x (by rw[e];exact List.mem_append_left _ hx))⟩,lI h2 (fun x hx=>hs x (by rw[e];exact List.mem_append_right _ hx)),e⟩
theorem uV(hb:Below w.heap.size w w'){p:MemPlace}(hp:p.block < w.heap.size):w.sameAt w' p:=by
 cases p with
 | cell b off=>
  have:=hb.block b hp
  show w'.cell? ⟨b,off,none⟩=w.cell? ⟨b,off,none⟩
  simp only[World.cell?,this]
 | map b=>exact hb.block b hp
theorem yw{T:TypeId→Prop}(K:Kids P T)(hz:∀ t e,T t→P.underlying t=some (.slice e)→0 < P.cellsOf e){ts:List TypeId}{vs:List Value}{ds:List (DataW H)}{ps:List MemPlace} (hT:∀ t∈ts,T t)
  (h:DataW.TrodAll enc P w 0 (fun _=>true) true ts vs ds ps) (hlt:∀ p∈ps,p.block < w.heap.size) (hb:Below w.heap.size w w') (sp:Nat→Bool) (hsp:∀ p∈ps,sp p.block=true):DataW.TrodAll enc P w' 0 sp true ts vs ds ps:=
 (lI h fun p hp=>uV hb (hlt p hp)).respare K hz hT hsp
end
theorem AA{α:Type}(Q:Nat→α→Prop):∀ n,(∀ i,i < n→∃ x,Q i x)→∃ l:List α,l.length=n∧∀ i x,l[i]? = some x→Q i x
 | 0,_=>⟨[],rfl,fun i x h=>by simp at h⟩
 | n + 1,h=>by
  obtain⟨l,h1,h2⟩:=AA Q n fun i hi=>h i (by omega)
  obtain⟨y,hy⟩:=h n (by omega)
  refine⟨l++[y],by simp[h1],fun i x hx=>?_⟩
  by_cases hi:i < n
  ·rw[List.getElem?_append_left (by omega)] at hx
   exact h2 i x hx
  ·rw[List.getElem?_append_right (by omega)] at hx
   have hin:i - l.length=0:=by
    rcases Nat.eq_zero_or_pos (i - l.length) with h | h
    ·exact h
    ·rw[List.getElem?_eq_none (by simp;omega)] at hx;cases hx
   rw[hin] at hx
   simp only[List.getElem?_cons_zero,Option.some.injEq] at hx
   subst hx
   obtain rfl:i=n:=by omega
   exact hy
end Go.Av
namespace Go.Av
open Go.RowKit Go.WideShapes Go.ChangeShapes
section
variable {H:Type} (enc:TypeId×Value→H) (P:Program) (W:World)
def Rd{α:Type}(N:Nat)(t:TypeId)(cells:α→List AV)(Ok:α→Prop):Prop:=∀(base:Nat)(held:Bool)(n:Nat),n < N→∀(cs:List Value)(x:DataW H×List MemPlace),DataW.trod enc P W base (fun _=>true) held n t cs=some x→(∀ k∈x.1.weights P t,k≤reachBytes)→∃ a:α,aM (jh W) [] (cells a) cs∧Ok a
def F0{α:Type}(N:Nat)(tot:Nat)(o:Nat)(fs:List Field)(cells:α→List AV)(Ok:α→Prop):Prop:=∀(base:Nat)(held:Bool)(n:Nat),n < N→∀(cs:List Value)(xs:List (DataW H×List MemPlace)),cs.length=tot→
 xs.length=fs.length→(∀(i:Nat)(f:Field),fs[i]? = some f→DataW.trod enc P W base (fun _=>true) held n f.type ((cs.drop f.offset).take (P.cellsOf f.type))=xs[i]?)→(∀ k∈DataW.weightsEach P (fs.map (·.type)) (xs.map (·.1)),k≤reachBytes)→∃ a:α,aM (jh W) [] (cells a) (cs.drop o)∧Ok a
variable {enc P W} {α β:Type} {N:Nat} {t:TypeId}
theorem Rd.zero{cells:α→List AV}{Ok:α→Prop}:Rd enc P W 0 t cells Ok:=fun _ _ n hn=>absurd hn (by omega)
theorem Rd.le{cells:α→List AV}{Ok:α→Prop}(h:Rd enc P W N t cells Ok){M:Nat}(hm:M≤N):Rd enc P W M t cells Ok:=fun b hd n hn=>h b hd n (by omega)
theorem Rd.map{cells:α→List AV}{Ok:α→Prop}(h:Rd enc P W N t cells Ok)(g:α→β){cells':β→List AV}{Ok':β→Prop}(hc:∀ a,cells' (g a)=cells a)(ho:∀ a,Ok a→Ok' (g a)):Rd enc P W N t cells' Ok':=by
 intro b hd n hn cs x hx hw
 obtain⟨a,h1,h2⟩:=h b hd n hn cs x hx hw
 exact⟨g a,by rw[hc];exact h1,ho a h2⟩
theorem AP(ht:P.underlying t=some .bool):Rd enc P W N t (fun b:Bool=>[.bool b]) (fun _=>True):=by
 intro b hd n hn cs x hx hw
 obtain⟨b,rfl,_⟩:=DataW.trod_bool ht hx
 exact⟨b,by simp[aM,VR],trivial⟩
theorem uS{k:IntKind}(ht:P.underlying t=some (.int k)):Rd enc P W N t (fun n:Int=>[.int k n]) (fun n=>(Lit.int k n).wf=true):=by
 intro b hd n hn cs x hx hw
 obtain⟨b,rfl,_,hwf⟩:=DataW.trod_int ht hx
 exact⟨b,by simp[aM,VR],hwf⟩
theorem kO(ht:P.underlying t=some .string):Rd enc P W N t (fun s:List UInt8=>[.str s]) (fun s=>s.length≤reachBytes):=by
 intro b hd n hn cs x hx hw
 obtain⟨s,rfl,rfl,_⟩:=DataW.trod_string ht hx
 exact⟨s.data.toList,by simp[aM,VR],hw _ (by simp[DataW.weights])⟩
def Ix(cells:α→List AV)(ev:α→AV)(sz:Nat):Prop:=∀(a:α)(S:au)(β:List bn)(vs:List Value),aM S β (cells a) vs→vs.length=sz→∃ v,VR S β (ev a) v∧v.cells.toList=vs
theorem kZ{cells:α→List AV}{ev:α→AV}{sz:Nat}(he:∀ a,ev a= .agg (cells a)):Ix cells ev sz:=fun a S β vs h hl=>⟨.agg vs.toArray,by rw[he];simp only[VR];exact⟨vs,rfl,h⟩,by simp[Value.cells]⟩
theorem D8{ev:α→AV}(ho:∀ a,aO (ev a)=true):Ix (fun a=>[ev a]) ev 1:=fun a S β vs h hl=>by
 simp only[aM] at h
 obtain⟨v,_,rfl,h,rfl⟩:=h
 exact⟨v,h,by rw[(il (ho a) h).1]⟩
theorem kT{e:TypeId}:∀ {l:List (DataW H)} {d:DataW H},d∈l→∀ k∈d.weights P e,k∈DataW.weightsAll P e l
 | x:: l,d,hd,k,hk=>by
  simp only[DataW.weightsAll,List.mem_append]
  rcases List.mem_cons.1 hd with rfl | hd
  ·exact .inl hk
  ·exact .inr (kT hd k hk)
theorem kN{e:TypeId}{cells:α→List AV}{Ok:α→Prop}(h:Rd enc P W N e cells Ok)(ht:P.underlying t=some (.slice e)){sz by_:Nat}(hsz:P.cellsOf e=sz)(h0:0 < sz)(hby:P.bytesOf e=by_){ev:α→AV}(hev:Ix cells ev sz):
  Rd enc P W N t (fun l:List α=>[.sl (l.map ev)]) (fun l=>l.length * by_≤reachBytes∧∀ a∈l,Ok a):=by
 intro base hd n hn cs x hx hw
 rcases DataW.trod_slice ht hx with ⟨rfl,rfl⟩ | ⟨a,len,cap,elems,rest,m,rfl,rfl,rfl,hb,hle,hm,hlen,hel,hsp,_⟩
 ·exact⟨[],by simp only[aM,List.map_nil,VR];exact⟨_,_,rfl,⟨none,0,rfl,Nat.le_refl _,fun _=>rfl,fun q hq=>by cases hq⟩,rfl⟩,by simp,fun a ha=>by cases ha⟩
 obtain⟨hrl,hre⟩:=hsp rfl
 rw[hsz] at hel hre
 simp only[DataW.weights,ht,List.mem_cons,List.mem_append,hby] at hw
 have hspot:0 < cap→a.spot=none:=by
  intro hc
  have:∃ y,(W.cells? base (a.add 0) sz).bind (DataW.trod enc P W base (fun _=>true) hd m e)=some y:=by
   by_cases h1:0 < len
   ·have:=hel 0 h1
    rw[List.getElem?_eq_getElem (by omega)] at this
    exact⟨_,by simpa using this⟩
   ·have:=hre 0 (by omega)
    rw[List.getElem?_eq_getElem (by omega)] at this
    obtain rfl:len=0:=by omega
    exact⟨_,by simpa using this⟩
  obtain⟨y,hy⟩:=this
  obtain⟨cs,hcs,_⟩:=Option.bind_eq_some_iff.1 hy
  obtain⟨_,hl,hc⟩:=World.cells?_some hcs
  have h2:=hc 0 h0
  rw[List.getElem?_eq_getElem (by omega)] at h2
  have h3:=World.cell?_spot h2
  have e:(a.add 0).add 0=a:=by unfold Addr.add;simp
  rwa [e] at h3
 have hx:∀ i,i < len→∃ y:α,(∃ v,VR (jh W) [] (ev y) v∧v.cells.size=sz∧fB (jh W) a.block (a.off + i * sz) v.cells.toList)∧Ok y:=by
  intro i hi
  have h1:=hel i hi
  rw[List.getElem?_eq_getElem (by omega)] at h1
  obtain⟨cs,hcs,htr⟩:=Option.bind_eq_some_iff.1 h1
  obtain⟨y,hy,hok⟩:=h base hd m (by omega) cs _ htr (fun k hk=>hw k (.inr (.inl (kT (List.mem_map.2 ⟨_,List.getElem_mem _,rfl⟩) k hk))))
  obtain⟨_,hl,hc⟩:=World.cells?_some hcs
  obtain⟨v,hv,hvc⟩:=hev y _ _ cs hy hl
  refine⟨y,⟨v,hv,by rw[← Array.length_toList,hvc,hl],fun j u hj=>?_⟩,hok⟩
  rw[hvc] at hj
  have hjl:j < sz:=by
   rcases Nat.lt_or_ge j cs.length with h | h
   ·omega
   ·rw[List.getElem?_eq_none h] at hj;cases hj
  have h2:=hc j hjl
  rw[hj] at h2
  unfold jh
  have hs:=hspot (by omega)
  have e:(a.add (i * sz)).add j=⟨a.block,a.off + i * sz + j,none⟩:=by
   obtain⟨b,o,s⟩:=a
   simp only at hs
   subst hs
   rw[add_plain,add_plain]
  rw[← e]
  exact h2
 obtain⟨l,hl1,hl2⟩:=AA (fun i y=>(∃ v,VR (jh W) [] (ev y) v∧v.cells.size=sz∧fB (jh W) a.block (a.off + i * sz) v.cells.toList)∧Ok y) len hx
 refine⟨l,?_,?_,fun y hy=>?_⟩
 ·simp only[aM,VR,List.length_map]
  refine⟨_,_,rfl,⟨some a,cap,by rw[hl1],by omega,(fun e=>by cases e),fun q hq=>?_⟩,rfl⟩
  cases hq
  refine⟨hspot,sz,.of_get fun i e he=>?_⟩
  rw[List.getElem?_map,Option.map_eq_some_iff] at he
  obtain⟨y,hy,rfl⟩:=he
  exact (hl2 i y hy).1
 ·have:=hw _ (.inl rfl)
  simp only[List.length_map] at this
  have h3:=Nat.mul_le_mul_right by_ (show l.length≤elems.length + rest.length by omega)
  omega
 ·obtain⟨i,hi,e⟩:=List.getElem_of_mem hy
  exact (hl2 i y (by rw[List.getElem?_eq_getElem hi,e])).2
theorem iJ{tot:Nat}:F0 enc P W N tot tot [] (fun _:Unit=>[]) (fun _=>True):=fun base hd n hn cs xs hl _ _ _=>⟨(),by simp[aM,← hl],trivial⟩
theorem be{tot o k:Nat}{f:Field}{fs:List Field}{c1:α→List AV}{Ok1:α→Prop}{c2:β→List AV}{Ok2:β→Prop}(h1:Rd enc P W N f.type c1 Ok1)(ho:f.offset=o)(hk:P.cellsOf f.type=k)(h2:F0 enc P W N tot (o + k) fs c2 Ok2):
  F0 enc P W N tot o (f:: fs) (fun x:α×β=>c1 x.1++c2 x.2) (fun x=>Ok1 x.1∧Ok2 x.2):=by
 intro base hd n hn cs xs hl hx hf hw
 match xs,hx with
 | x:: xs,hx=>
  have hf0:=hf 0 f rfl
  rw[ho,hk] at hf0
  simp only[List.map_cons,DataW.weightsEach,List.mem_append] at hw
  obtain⟨a,ha,oa⟩:=h1 base hd n hn _ x hf0 fun k hk=>hw k (.inl hk)
  obtain⟨b,hb,ob⟩:=h2 base hd n hn cs xs hl (by simpa using hx) (fun i g hg=>by simpa using hf (i + 1) g (by simpa using hg)) fun k hk=>hw k (.inr hk)
  refine⟨(a,b),?_,oa,ob⟩
  have:=ha.append hb
  rwa [← List.drop_drop,List.take_append_drop] at this
theorem fZ{fs:Array Field}{tot:Nat}{cells:α→List AV}{Ok:α→Prop}(ht:P.underlying t=some (.struct fs))(hc:P.cellsOf t=tot)(h:F0 enc P W N tot 0 fs.toList cells Ok):Rd enc P W (N + 1) t cells Ok:=by
 intro base hd n hn cs x hx hw
 obtain⟨xs,m,rfl,rfl,hl,hxs,hf⟩:=DataW.trod_struct ht hx
 simp only[DataW.weights,ht] at hw
 obtain⟨a,h1,h2⟩:=h base hd m (by omega) cs xs (by rw[hl,hc]) (by simpa using hxs) (fun i f hi=>hf i f (by simpa using hi)) hw
 exact⟨a,by simpa using h1,h2⟩
theorem Fh{cells:α→List AV}{Ok:α→Prop}(h:∀ N,Rd enc P W N t cells Ok){base:Nat}{held:Bool}{v:Value}{d:DataW H}{p:List MemPlace}(hd:DataW.Trod enc P W base (fun _=>true) held t v d p)(hw:∀ k∈d.weights P t,k≤reachBytes):
  ∃ a:α,aM (jh W) [] (cells a) v.cells.toList∧Ok a:=by
 obtain⟨n,hn⟩:=hd
 exact h (n + 1) base held n (by omega) _ _ hn hw
theorem Hm{f:α→AV}{Ok:α→Prop}(h:∀ N,Rd enc P W N t (fun a=>[f a]) Ok){base:Nat}{held:Bool}{v:Value}{d:DataW H}{p:List MemPlace}(hv:v.cells.toList=[v])(hd:DataW.Trod enc P W base (fun _=>true) held t v d p)(hw:∀ k∈d.weights P t,k≤reachBytes):
  ∃ a:α,VR (jh W) [] (f a) v∧Ok a:=by
 obtain⟨a,h1,h2⟩:=Fh h hd hw
 rw[hv] at h1
 simp only[aM] at h1
 obtain⟨y,ys,e,h1,rfl⟩:=h1
 cases e
 exact⟨a,h1,h2⟩
theorem Bg{e:TypeId}{r:Reach}{b0:Nat}{f:α→AV}{Ok:α→Prop}(h:∀ N,Rd enc P W N t (fun a=>[f a]) Ok)(ht:P.underlying t=some (.slice e)){base:Nat}{held:Bool}{v:Value}{d:DataW H}{p:List MemPlace} (hok:Value.okWide P W r b0 t v)
  (hd:DataW.Trod enc P W base (fun _=>true) held t v d p) (hw:∀ k∈d.weights P t,k≤reachBytes):∃ a:α,VR (jh W) [] (f a) v∧Ok a:=by
 obtain⟨a,len,cap,rfl⟩:=okWide_slice ht hok
 exact Hm h rfl hd hw
theorem yv{fs:Array Field}{r:Reach}{b0:Nat}{f:α→AV}{Ok:α→Prop}{cells:α→List AV}(h:∀ N,Rd enc P W N t cells Ok)(hf:∀ a,f a= .agg (cells a))(ht:P.underlying t=some (.struct fs)){base:Nat}{held:Bool}{v:Value}{d:DataW H}{p:List MemPlace} (hok:Value.okWide P W r b0 t v)
  (hd:DataW.Trod enc P W base (fun _=>true) held t v d p) (hw:∀ k∈d.weights P t,k≤reachBytes):∃ a:α,VR (jh W) [] (f a) v∧Ok a:=by
 obtain⟨cs,rfl,_⟩:=okWide_struct ht hok
 obtain⟨a,h1,h2⟩:=Fh h hd hw
 refine⟨a,?_,h2⟩
 rw[hf]
 simp only[VR]
 exact⟨cs.toList,by simp,h1⟩
theorem qy{ts:List TypeId}{ds:List (DataW H)}(h:(DataW.weightsEach P ts ds).all (· ≤reachBytes)=true){j:Nat}{u:TypeId}{d:DataW H}(ht:ts[j]? = some u)(hd:ds[j]? = some d):∀ k∈d.weights P u,k≤reachBytes:=fun k hk=>by
 have:=List.all_eq_true.1 h _ (DataW.weights_mem_each ht hd k hk)
 simpa using this
end
end Go.Av
namespace Go.Av.Ap
open Go Go.Av
def fc(e:Exp):Exp×Int:=
 if e.op=0∨e.op=1 then (.mk e.op e.n [] [] [] e.args,0)
 else if e.op=2∨e.op=17 then (.mk e.op 0 e.s [] [] e.args,0)
 else if e.op=18∨e.op=14 then (.mk e.op 0 e.s [] [] e.args,1)
 else if e.op=16 then (.mk e.op e.n [] [] [] e.args,1)
 else if e.op=10 then (.mk e.op 0 [] [] [] e.args,1)
 else if e.op=12 then (.mk e.op 0 e.s [] [] e.args,2)
 else if e.op=11 then (.mk e.op 0 [] [] [] e.args,3)
 else if e.op=13 then (.mk e.op 0 [] [] e.names e.args,e.names.length)
 else if e.op=15 then (.mk e.op 0 e.s e.m [] e.args,-1)
 else (.mk e.op 0 [] [] [] e.args,2)
def uJ(l:List aW):Bool:=(l.all cX&&nF fb l)&&decide (l.length≤8)
def fq(e:Exp):Bool:=
 if e.op=0 then decide (0≤e.n)&&decide (e.n≤1099511627776)
 else if e.op=1 then e.n== 0||e.n== 1
 else if e.op=16 then ((e.n== 1||e.n== 2)||e.n== 4)||e.n== 8
 else if e.op=2∨e.op=17∨e.op=18∨e.op=14∨e.op=12 then cX e.s
 else if e.op=15 then cX e.s&&(e.m== []||cX e.m)&&decide (e.args.length≤6)
 else if e.op=13 then uJ e.names
 else true
def kR(e:Exp):Bool:=
 decide (0≤e.op)&&decide (e.op < 19)&&(decide ((fc e).2 < 0)||((fc e).2== (e.args.length:Int)))&&((fc e).1.n== e.n)&&((fc e).1.s== e.s)&&((fc e).1.m== e.m)&&(((fc e).1.names.length:Int)== (e.names.length:Int))&&fq e
def cE:Nat→Exp→Bool
 | 0,_=>false
 | d + 1,e=>kR e&&e.args.all (cE d)
theorem kQ(d:Nat)(e:Exp):cE (d + 1) e=(kR e&&e.args.all (cE d)):=rfl
def pi(a b:Int):Int:=IntKind.i64.wrap (BitVec.ofInt 64 a ||| BitVec.ofInt 64 b).toNat
mutual
def yo:Ty→Ty→Option Ty
 | .mk k fs,b=>if k=b.kind then some (.mk k (mr fs b.fields)) else none
def mr:List (aW×Ty)→List cr→List cr
 | [],_=>[]
 | f:: fs,l=>(match NQ f l with | some x=>[x] | none=>[])++mr fs l
def NQ:aW×Ty→List cr→Option cr
 | (n,t),l=>match cm (fun z=>z.1== n) l with
  | some z=>(match yo t z.2 with | some u=>some (n,u) | none=>none)
  | none=>none
end
def ka(k:Int)(l:List Ty):Bool:=l.all fun t=>t.kind== k
def cD(e:Exp)(l:List Ty):Option Ty:=
 if e.op=3∨e.op=4∨e.op=5∨e.op=16 then (if ka 0 l=true then some (.mk 0 []) else none)
 else if e.op=1 then some (.mk 1 [])
 else if e.op=6 then (if ka 0 l=true then some (.mk 1 []) else none)
 else if e.op=7 then (if (ka 0 l||ka 1 l)=true then some (.mk 1 []) else none)
 else if e.op=8∨e.op=9∨e.op=10 then (if ka 1 l=true then some (.mk 1 []) else none)
 else if e.op=11 then (match yo l[1]! l[2]! with | some t=>if l[0]!.kind=1 then some t else none | none=>none)
 else if e.op=13 then some (.mk 2 (e.names.zip l))
 else if e.op=14 then (match cm (fun z=>z.1== e.s) l[0]!.fields with | some z=>some z.2 | none=>none)
 else some (.mk 0 [])
inductive Tr (α:Type) where
 | ok (a:α) (n:Int)
 | er (e n:Int)
abbrev ew(α:Type):=Int→Tr α
def ew.ok{α:Type}(a:α):ew α:=fun n=>.ok a n
def ew.er{α:Type}(e:Int):ew α:=fun n=>.er e n
def ew.bind{α β:Type}(x:ew α)(f:α→ew β):ew β:=fun n=>match x n with
 | .ok a n'=>f a n'
 | .er e n'=>.er e n'
structure Tcx where
 vars:List cr
 funcs:List Fun
 uses:List aW
 faces:aW→Option Face
def cZ(c:Tcx)(e:Exp):Option (List Ty×Ty×Int):=
 if e.m=[] then (match c.funcs.find? fun f=>f.name== e.s with
  | some f=>some (f.params.map (·.2),f.result,f.effects)
  | none=>none)
 else match c.faces e.m with
  | none=>none
  | some f=>match f.funcs.find? (fun s=>s.name== e.s) with
   | none=>none
   | some s=>if e.m∈c.uses then some (s.params,s.result,s.effects) else none
def ef(r:Exp→ew Ty):List Exp→ew (List Ty)
 | []=>.ok []
 | e:: es=>.bind (r e) fun t=>.bind (ef r es) fun ts=>.ok (t:: ts)
def db(c:Tcx)(r:List cr→Exp→ew Ty)(ls:List cr)(e:Exp):ew Ty:=
 if e.op=2 then (match cm (fun z=>z.1== e.s) ls with | some z=>.ok z.2 | none=>.er 12)
 else if e.op=12 then .bind (r ls e.args[0]!) fun t=>r (ls++[(e.s,t)]) e.args[1]!
 else if e.op=17∨e.op=18 then (match cm (fun z=>z.1== e.s) c.vars with
  | none=>.er 12
  | some z=>if e.op=18 then .bind (r ls e.args[0]!) fun u=>if bW u z.2=true then .ok z.2 else .er 13 else .ok z.2)
 else if e.op=15 then (match cZ c e with
  | none=>.er 12
  | some s=>if s.1.length=e.args.length then .bind (ef (r ls) e.args) fun l=>if pD bW l s.1=true then fun n=>.ok s.2.1 (pi n s.2.2) else .er 13 else .er 13)
 else .bind (ef (r ls) e.args) fun l n=>match cD e l with
  | some t=>.ok t (if e.op=16 then pi n e.n else n)
  | none=>.er 13 (if e.op=16 then pi n e.n else n)
def bF(c:Tcx):Nat→List cr→Exp→ew Ty
 | 0=>fun _ _=>.er 16
 | d + 1=>db c (bF c d)
def Hv:Tcx:=⟨[],[],[],fun _=>none⟩
def kM(ls:List cr)(e:Exp)(want:Ty):Int:=match bF Hv 12 ls e 0 with
 | .er b _=>b
 | .ok t n=>if n≠0 then 14 else if bW t want=true then 0 else 13
def bS:List (aW×Int)→aW×Int
 | []=>([],0)
 | x:: l=>if x.2=0 then bS l else x
def fI(ls:List cr)(vs:List cr)(es:List Exp):List (aW×Int):=(vs.zip es).map fun x=>(x.1.1,kM ls x.2 x.1.2)
def jN(m:Mod):aW×Int:=bS (fI [] m.vars m.init++if m.moves=true then fI m.old m.vars m.forward++fI m.vars m.old m.back else [])
def CE(c:Tcx)(f:Fun):Int:=match bF c 12 f.params f.body 0 with
 | .er b _=>b
 | .ok t n=>if bW t f.result=true then (if dG n f.effects=0 then 0 else 14) else 13
def gJ(f:Face):Bool:=f.funcs.all fun s=>bO s.result&&s.params.all bO
def Cy{α:Type}(x:ew α):Prop:=∀ n b n',x n= .er b n'→b≠0
theorem xf{α:Type}(a:α):Cy (.ok a):=fun n b n' h=>by cases h
theorem rp{α:Type}{e:Int}(h:e≠0):Cy (α:=α) (.er e):=fun n b n' h'=>by cases h';exact h
theorem lk{α β:Type}{x:ew α}{f:α→ew β}(hx:Cy x)(hf:∀ a,Cy (f a)):Cy (.bind x f):=fun n b n' h=>by
 unfold ew.bind at h
 split at h
 ·exact hf _ _ _ _ h
 ·rename_i e' m hm
  cases h
  exact hx _ _ _ hm
theorem kE{α:Type}{c:Prop}[Decidable c]{x y:ew α}(h1:Cy x)(h2:Cy y):Cy (if c then x else y):=by
 split
 ·exact h1
 ·exact h2
theorem m6{r:Exp→ew Ty}(h:∀ e,Cy (r e)):∀ l,Cy (ef r l)
 | []=>xf _
 | e:: l=>lk (h e) fun _=>lk (m6 h l) fun _=>xf _
theorem gW(c:Tcx):∀(d:Nat)(ls:List cr)(e:Exp),Cy (bF c d ls e)
 | 0,_,_=>rp (by decide)
 | d + 1,ls,e=>by
  have H:=gW c d
  show Cy (db c (bF c d) ls e)
  unfold db
  refine kE ?_ (kE ?_ (kE ?_ (kE ?_ ?_)))
  ·split
   ·exact xf _
   ·exact rp (by decide)
  ·exact lk (H _ _) fun _=>H _ _
  ·split
   ·exact rp (by decide)
   ·exact kE (lk (H _ _) fun _=>kE (xf _) (rp (by decide))) (xf _)
  ·split
   ·exact rp (by decide)
   ·exact kE (lk (m6 (H _) _) fun _=>kE (fun n b n' h=>by cases h) (rp (by decide))) (rp (by decide))
  ·refine lk (m6 (H _) _) fun l n b n' h=>?_
   split at h
   ·cases h
   ·cases h;decide
theorem rX{c:Tcx}{r:List cr→Exp→ew Ty}{ls:List cr}{e:Exp}(h:e.op=12):db c r ls e= .bind (r ls e.args[0]!) fun t=>r (ls++[(e.s,t)]) e.args[1]!:=by
 unfold db;rw[if_neg (by omega),if_pos h]
theorem zK{c:Tcx}{r:List cr→Exp→ew Ty}{ls:List cr}{e:Exp}(h:e.op=2):db c r ls e=(match cm (fun z=>z.1== e.s) ls with | some z=>.ok z.2 | none=>.er 12):=by
 unfold db;rw[if_pos h]
theorem rW{c:Tcx}{r:List cr→Exp→ew Ty}{ls:List cr}{e:Exp}(h:e.op=17∨e.op=18):db c r ls e=(match cm (fun z=>z.1== e.s) c.vars with
  | none=>.er 12
  | some z=>if e.op=18 then .bind (r ls e.args[0]!) fun u=>if bW u z.2=true then .ok z.2 else .er 13 else .ok z.2):=by
 unfold db;rw[if_neg (by omega),if_neg (by omega),if_pos h]
theorem pr{c:Tcx}{r:List cr→Exp→ew Ty}{ls:List cr}{e:Exp}(h:e.op=15):db c r ls e=(match cZ c e with
  | none=>.er 12
  | some s=>if s.1.length=e.args.length then .bind (ef (r ls) e.args) fun l=>if pD bW l s.1=true then fun n=>.ok s.2.1 (pi n s.2.2) else .er 13 else .er 13):=by
 unfold db;rw[if_neg (by omega),if_neg (by omega),if_neg (by omega),if_pos h]
def pn(e:Exp)(l:List Ty):ew Ty:=fun n=>match cD e l with
 | some t=>.ok t (if e.op=16 then pi n e.n else n)
 | none=>.er 13 (if e.op=16 then pi n e.n else n)
theorem ml{e:Exp}{l:List Ty}{t:Ty}(h:cD e l=some t)(n:Int):pn e l n= .ok t (if e.op=16 then pi n e.n else n):=by
 unfold pn;rw[h]
theorem mj{e:Exp}{l:List Ty}(h:cD e l=none)(n:Int):pn e l n= .er 13 (if e.op=16 then pi n e.n else n):=by
 unfold pn;rw[h]
theorem pt{c:Tcx}{r:List cr→Exp→ew Ty}{ls:List cr}{e:Exp}(h1:¬ e.op=2)(h2:¬ e.op=12)(h3:¬ (e.op=17∨e.op=18))(h4:¬ e.op=15):db c r ls e= .bind (ef (r ls) e.args) (pn e):=by
 unfold db;rw[if_neg h1,if_neg h2,if_neg h3,if_neg h4];rfl
theorem wG{V:Type}(k r:aD)(v:V):∀ l:List (aD×V),eu (gB l k v) r=if k=r then some v else eu l r
 | []=>by simp[gB,eu]
 | x:: l=>by
  simp only[gB]
  by_cases h:x.1=k
  ·subst h
   simp only[if_true,eu]
   split <;> rfl
  ·simp only[h,if_false,eu,wG k r v l]
   by_cases h1:x.1=r
   ·have:¬ k=r:=fun e=>h (h1.trans e.symm)
    simp[h1,this]
   ·simp[h1]
theorem wF{V:Type}{l:List (aD×V)}{r:aD}{v:V}(h:eu l r=some v):(r,v)∈l:=by
 induction l with
 | nil=>cases h
 | cons x l ih=>
  simp only[eu] at h
  split at h
  ·rename_i e;cases h;subst e;exact List.mem_cons_self
  ·exact List.mem_cons_of_mem _ (ih h)
theorem jl{V:Type}{l:List (aD×V)}{r:aD}:eu l r=none↔r ∉ l.map (·.1):=by
 induction l with
 | nil=>simp[eu]
 | cons x l ih=>
  simp only[eu,List.map_cons,List.mem_cons,not_or]
  by_cases h:x.1=r
  ·simp[h]
  ·have h':¬ r=x.1:=fun e=>h e.symm
   simp[h,h',ih]
theorem lZ{V:Type}{l:List (aD×V)}(hn:(l.map (·.1)).Nodup){r:aD}{v:V}(h:(r,v)∈l):eu l r=some v:=by
 induction l with
 | nil=>cases h
 | cons x l ih=>
  simp only[List.map_cons,List.nodup_cons] at hn
  simp only[eu]
  rcases List.mem_cons.1 h with rfl | h
  ·simp
  ·have:¬ x.1=r:=fun e=>hn.1 (by rw[e];exact List.mem_map_of_mem (f:=(·.1)) h)
   simp[this,ih hn.2 h]
theorem ov{V:Type}(k:aD)(v:V):∀ l:List (aD×V),(gB l k v).map (·.1)=if k∈l.map (·.1) then l.map (·.1) else l.map (·.1)++[k]
 | []=>rfl
 | x:: l=>by
  simp only[gB]
  by_cases h:x.1=k
  ·subst h;simp
  ·have h':¬ k=x.1:=fun e=>h e.symm
   simp only[h,if_false,List.map_cons,ov k v l,List.mem_cons,h',false_or]
   split <;> rfl
theorem rJ{V:Type}(k:aD)(v:V)(l:List (aD×V))(h:(l.map (·.1)).Nodup):((gB l k v).map (·.1)).Nodup:=by
 rw[ov]
 split
 ·exact h
 ·rename_i hk
  exact List.nodup_append.2 ⟨h,by simp,fun a ha b hb e=>by simp at hb;subst hb;subst e;exact hk ha⟩
theorem xB{V:Type}(k r:aD)(v:V)(l:List (aD×V)):r∈(gB l k v).map (·.1)↔r=k∨r∈l.map (·.1):=by
 rw[ov]
 split
 ·rename_i h
  constructor
  ·exact .inr
  ·rintro (rfl | h2);exact h;exact h2
 ·rw[List.mem_append,List.mem_singleton];exact⟨fun h=>h.symm,fun h=>h.symm⟩
def s7{V:Type}(l:List (aW×List (aW×V)))(r:aD):Option V:=match l.find? (fun m=>m.1== r.1) with
 | some m=>(m.2.find? fun f=>f.1== r.2).map (·.2)
 | none=>none
theorem tn{V:Type}(m:aW)(r:aD):∀(l:List (aW×V))(out:List (aD×V)),eu (ma m l out) r=if r.1=m then (match l.find? (fun f=>f.1== r.2) with | some f=>some f.2 | none=>eu out r) else eu out r
 | [],out=>by simp[ma]
 | f:: l,out=>by
  have ih:=tn m r l out
  show eu (gB (ma m l out) (m,f.1) f.2) r=_
  rw[wG,ih]
  by_cases h1:r.1=m
  ·by_cases h2:f.1=r.2
   ·have e:((m,f.1):aD)=r:=Prod.ext h1.symm h2
    simp[h1,h2,e,List.find?_cons]
    rw[← h1,← h2] at *
    simp[e]
   ·have e:¬ ((m,f.1):aD)=r:=fun e=>h2 (by rw[← e])
    have e2:(f.1== r.2)=false:=beq_eq_false_iff_ne.2 h2
    simp[h1,e,List.find?_cons,e2]
  ·have e:¬ ((m,f.1):aD)=r:=fun e=>h1 (by rw[← e])
   simp[h1,e]
theorem tp{V:Type}(m:aW):∀(l:List (aW×V))(out:List (aD×V))(r:aD),r∈(ma m l out).map (·.1)↔(r.1=m∧r.2∈l.map (·.1))∨r∈out.map (·.1)
 | [],out,r=>by simp[ma]
 | f:: l,out,r=>by
  show r∈(gB (ma m l out) (m,f.1) f.2).map (·.1)↔_
  rw[xB,tp m l out r]
  constructor
  ·rintro (rfl | ⟨h1,h2⟩ | h)
   ·exact .inl ⟨rfl,by simp⟩
   ·exact .inl ⟨h1,by simp[h2]⟩
   ·exact .inr h
  ·rintro (⟨h1,h2⟩ | h)
   ·rcases List.mem_cons.1 h2 with h2 | h2
    ·exact .inl (Prod.ext h1 h2)
    ·exact .inr (.inl ⟨h1,h2⟩)
   ·exact .inr (.inr h)
theorem nT{V:Type}(r:aD):∀(l:List (aW×List (aW×V)))(seen:List aW)(out:List (aD×V)),(∀ k∈out.map (·.1),k.1∈seen)→eu (jc l seen out) r=if r.1∈seen then eu out r else s7 l r
 | [],seen,out,ho=>by
  simp only[jc,s7,List.find?_nil]
  split
  ·rfl
  ·rename_i h
   exact jl.2 fun hk=>h (ho r hk)
 | m:: l,seen,out,ho=>by
  simp only[jc]
  by_cases hm:m.1∈seen
  ·rw[if_pos hm,nT r l seen out ho]
   split
   ·rfl
   ·rename_i h
    have:(m.1== r.1)=false:=beq_eq_false_iff_ne.2 fun e=>h (e▸hm)
    simp[s7,List.find?_cons,this]
  ·rw[if_neg hm,nT r l (seen++[m.1]) (ma m.1 m.2 out) (fun k hk=>by
    rcases (tp m.1 m.2 out k).1 hk with ⟨h,_⟩ | h
    ·simp[h]
    ·simp[ho k h]),tn]
   by_cases hr:r.1=m.1
   ·have h1:r.1∈seen++[m.1]:=by simp[hr]
    have h2:¬ r.1∈seen:=by rw[hr];exact hm
    have h3:eu out r=none:=jl.2 fun hk=>h2 (ho r hk)
    have h4:(m.1== r.1)=true:=beq_iff_eq.2 hr.symm
    rw[if_pos h1,if_neg h2,if_pos hr,h3]
    simp only[s7,List.find?_cons,h4]
    cases m.2.find? (fun f=>f.1== r.2) <;> rfl
   ·have h4:(m.1== r.1)=false:=beq_eq_false_iff_ne.2 fun e=>hr e.symm
    have h1:r.1∈seen++[m.1]↔r.1∈seen:=by simp[hr]
    simp only[h1,hr,if_false,s7,List.find?_cons,h4]
theorem mb{V:Type}:∀(l:List (aW×List (aW×V)))(seen:List aW)(out:List (aD×V)),(out.map (·.1)).Nodup→((jc l seen out).map (·.1)).Nodup
 | [],_,_,h=>h
 | m:: l,seen,out,h=>by
  simp only[jc]
  split
  ·exact mb l seen out h
  ·refine mb l _ _ ?_
   have:∀(fs:List (aW×V)),((ma m.1 fs out).map (·.1)).Nodup:=by
    intro fs
    induction fs with
    | nil=>exact h
    | cons f fs ih=>exact rJ _ _ _ ih
   exact this m.2
theorem xA{V W:Type}(g:V→W)(k:aD)(v:V):∀ l:List (aD×V),gB (l.map fun x=>(x.1,g x.2)) k (g v)=(gB l k v).map fun x=>(x.1,g x.2)
 | []=>rfl
 | x:: l=>by
  simp only[List.map_cons,gB]
  split
  ·rfl
  ·rw[xA g k v l];rfl
theorem wJ{V W:Type}(g:V→W)(m:aW)(out:List (aD×V)):∀ l:List (aW×V),ma m (l.map fun x=>(x.1,g x.2)) (out.map fun x=>(x.1,g x.2))=(ma m l out).map fun x=>(x.1,g x.2)
 | []=>rfl
 | f:: l=>by
  show gB (ma m (l.map fun x=>(x.1,g x.2)) (out.map fun x=>(x.1,g x.2))) (m,f.1) (g f.2)=_
  rw[wJ g m out l,xA]
  rfl
theorem qO{V W:Type}(g:V→W):∀(l:List (aW×List (aW×V)))(seen:List aW)(out:List (aD×V)),jc (l.map fun m=>(m.1,m.2.map fun x=>(x.1,g x.2))) seen (out.map fun x=>(x.1,g x.2))=(jc l seen out).map fun x=>(x.1,g x.2)
 | [],_,_=>rfl
 | m:: l,seen,out=>by
  simp only[List.map_cons,jc]
  split
  ·exact qO g l seen out
  ·rw[wJ,qO g l]
def oq(m:Mod):aW×List (aW×Fun):=(m.name,m.funcs.map fun f=>(f.name,f))
def bT(p:List Mod):List (aD×Fun):=jc (p.map oq) [] []
def findR(p:List Mod)(r:aD):Option Fun:=match p.find? (fun m=>m.name== r.1) with
 | some m=>m.funcs.find? fun f=>f.name== r.2
 | none=>none
theorem Au(p:List Mod)(r:aD):eu (bT p) r=findR p r:=by
 unfold bT
 rw[nT r _ [] [] (by simp),if_neg (by simp)]
 unfold s7 findR
 rw[List.find?_map]
 have:((fun m:aW×List (aW×Fun)=>m.1== r.1) ∘ oq)=fun m:Mod=>m.name== r.1:=rfl
 rw[this]
 cases p.find? (fun m=>m.name== r.1) with
 | none=>rfl
 | some m=>
  simp only[Option.map_some,oq]
  rw[List.find?_map]
  have:((fun f:aW×Fun=>f.1== r.2) ∘ fun f:Fun=>(f.name,f))=fun f:Fun=>f.name== r.2:=rfl
  rw[this]
  cases m.funcs.find? (fun f=>f.name== r.2) <;> rfl
theorem BW(p:List Mod):((bT p).map (·.1)).Nodup:=mb _ _ _ (by simp)
mutual
def eS:Exp→List Exp
 | .mk o n s m ns es=>.mk o n s m ns es:: pN es
def pN:List Exp→List Exp
 | []=>[]
 | e:: es=>eS e++pN es
end
theorem m8:∀ l:List Exp,pN l=l.flatMap eS
 | []=>rfl
 | e:: l=>by simp[pN,m8 l]
theorem oh(e:Exp):eS e=e:: e.args.flatMap eS:=by
 cases e with
 | mk o n s m ns es=>simp only[eS,m8];rfl
def yf:Exp:=.mk 0 0 [] [] [] []
def r9:Fun:=⟨[],false,[],.mk 0 [],0,yf⟩
def xY(f:aD)(e:Exp):aD:=(if e.m=[] then f.1 else e.m,e.s)
def lC(p:List Mod)(f:aD)(e:Exp):Bool:=e.op== 15&&(match findR p (xY f e) with | some g=>e.m== []||g.pub | none=>false)
def ji(p:List Mod)(f:aD):Exp:=((findR p f).getD r9).body
def ky(p:List Mod)(f:aD)(o:List (aD×Bool))(e:Exp):List (aD×Bool):=if lC p f e then gB o (xY f e) true else o
def found(p:List Mod)(f:aD):List (aD×Bool):=(eS (ji p f)).foldl (ky p f) []
def dh(p:List Mod)(f:aD):List aD:=cY ((found p f).map (·.1))
theorem tj(p:List Mod)(f r:aD):∀(l:List Exp)(o:List (aD×Bool)),r∈(l.foldl (ky p f) o).map (·.1)↔(∃ e∈l,lC p f e=true∧r=xY f e)∨r∈o.map (·.1)
 | [],o=>by simp
 | e :: l,o=>by
  simp only[List.foldl_cons]
  rw[tj p f r l,ky]
  by_cases h:lC p f e=true
  ·rw[if_pos h,xB]
   constructor
   ·rintro (⟨e',h1,h2⟩ | rfl | h1)
    ·exact .inl ⟨e',by simp[h1],h2⟩
    ·exact .inl ⟨e,by simp,h,rfl⟩
    ·exact .inr h1
   ·rintro (⟨e',h1,h2,h3⟩ | h1)
    ·rcases List.mem_cons.1 h1 with rfl | h1
     ·exact .inr (.inl h3)
     ·exact .inl ⟨e',h1,h2,h3⟩
    ·exact .inr (.inr h1)
  ·rw[if_neg h]
   constructor
   ·rintro (⟨e',h1,h2⟩ | h1)
    ·exact .inl ⟨e',by simp[h1],h2⟩
    ·exact .inr h1
   ·rintro (⟨e',h1,h2,h3⟩ | h1)
    ·rcases List.mem_cons.1 h1 with rfl | h1
     ·exact absurd h2 h
     ·exact .inl ⟨e',h1,h2,h3⟩
    ·exact .inr h1
theorem o6(p:List Mod)(f:aD):∀(l:List Exp)(o:List (aD×Bool)),(o.map (·.1)).Nodup→((l.foldl (ky p f) o).map (·.1)).Nodup
 | [],o,h=>h
 | e:: l,o,h=>by
  simp only[List.foldl_cons]
  refine o6 p f l _ ?_
  unfold ky
  split
  ·exact rJ _ _ _ h
  ·exact h
theorem oe{p:List Mod}{f r:aD}:r∈dh p f↔∃ e∈eS (ji p f),lC p f e=true∧r=xY f e:=by
 unfold dh
 rw[(dW _).mem_iff]
 unfold found
 rw[tj]
 simp
theorem kj(p:List Mod)(f:aD):(dh p f).Nodup:=(dW _).nodup_iff.2 (o6 p f _ [] (by simp))
theorem vT{p:List Mod}{f r:aD}(h:r∈dh p f):(findR p r).isSome=true:=by
 obtain⟨e,_,h2,rfl⟩:=oe.1 h
 unfold lC at h2
 cases hf:findR p (xY f e) with
 | none=>rw[hf] at h2;simp at h2
 | some g=>rfl
theorem yC{p:List Mod}{f:aD}(h:findR p f=none):dh p f=[]:=by
 rw[List.eq_nil_iff_forall_not_mem]
 intro r hr
 obtain⟨e,h1,h2,_⟩:=oe.1 hr
 unfold ji at h1
 rw[h] at h1
 have:e=yf:=by simpa [r9,yf,oh,Exp.args] using h1
 subst this
 cases h2
def xg(C:aD→List aD)(D:List (aD×List aD))(x:aD)(c:List aD):List (aD×List aD):=((C x).filter fun r=>!(D.map (·.1)).contains r).map fun r=>(r,c++[r])
def mD(C:aD→List aD):Nat→Nat→List (aD×List aD)→List (aD×List aD)
 | 0,_,D=>D
 | n + 1,k,D=>match D[k]? with
  | none=>D
  | some (x,c)=>mD C n (k + 1) (D++xg C D x c)
def bq(p:List Mod)(f:aD):List (aD×List aD):=if (findR p f).isSome then mD (dh p) ((bT p).length + 1) 0 [(f,[f])] else []
theorem ek{α:Type}[DecidableEq α]:∀ {l m:List α},l.Nodup→(∀ x∈l,x∈m)→l.length≤m.length
 | [],m,_,_=>Nat.zero_le _
 | x:: l,m,hn,hs=>by
  have hx:=hs x List.mem_cons_self
  have:=ek (l:=l) (m:=m.erase x) (List.nodup_cons.1 hn).2 (fun y hy=>by
   have hne:y≠x:=fun e=>(List.nodup_cons.1 hn).1 (e▸hy)
   exact (List.mem_erase_of_ne hne).2 (hs y (List.mem_cons_of_mem _ hy)))
  rw[List.length_erase_of_mem hx] at this
  have:=List.length_pos_of_mem hx
  simp only[List.length_cons]
  omega
def rV(c:List aD)(D:List (aD×List aD))(r:aD):List (aD×List aD):=if r∈D.map (·.1) then D else D++[(r,c++[r])]
theorem xT(c:List aD):∀(l:List aD)(D:List (aD×List aD)),l.Nodup→l.foldl (rV c) D=D++((l.filter fun r=>!(D.map (·.1)).contains r).map fun r=>(r,c++[r]))
 | [],D,_=>by simp
 | r:: l,D,hn=>by
  obtain⟨h1,h2⟩:=List.nodup_cons.1 hn
  simp only[List.foldl_cons]
  rw[xT c l _ h2]
  unfold rV
  by_cases hr:r∈D.map (·.1)
  ·have:(!(D.map (·.1)).contains r)=false:=by simpa using hr
   rw[if_pos hr,List.filter_cons_of_neg (p:=fun r=>!(D.map (·.1)).contains r) (by rw[this];simp)]
  ·have h3:(!(D.map (·.1)).contains r)=true:=by simpa using hr
   rw[if_neg hr,List.filter_cons_of_pos (p:=fun r=>!(D.map (·.1)).contains r) h3]
   simp only[List.map_cons,List.append_assoc,List.cons_append,List.nil_append]
   congr 2
   congr 1
   apply List.filter_congr
   intro y hy
   have hne:y≠r:=fun e=>h1 (e▸hy)
   simp[hne]
theorem He(C:aD→List aD)(D:List (aD×List aD))(x:aD)(c:List aD)(h:(C x).Nodup):(C x).foldl (rV c) D=D++xg C D x c:=xT c _ _ h
theorem m7{C:aD→List aD}{D:List (aD×List aD)}{x:aD}{c:List aD}{e:aD×List aD}:e∈xg C D x c↔e.1∈C x∧e.1 ∉ D.map (·.1)∧e.2=c++[e.1]:=by
 unfold xg
 rw[List.mem_map]
 constructor
 ·rintro⟨r,hr,rfl⟩
  rw[List.mem_filter] at hr
  exact⟨hr.1,by simpa using hr.2,rfl⟩
 ·rintro⟨h1,h2,h3⟩
  exact⟨e.1,List.mem_filter.2 ⟨h1,by simpa using h2⟩,by rw[← h3]⟩
structure DInv (p:List Mod) (f:aD) (k:Nat) (D:List (aD×List aD)):Prop where
 nodup:(D.map (·.1)).Nodup
 inn:∀ e∈D,(findR p e.1).isSome=true
 chain:∀ e∈D,e=(f,[f])∨∃ y c,(y,c)∈D∧e.1∈dh p y∧e.2=c++[e.1]
 closed:∀ i e,i < k→D[i]? = some e→∀ r∈dh p e.1,r∈D.map (·.1)
 start:(f,[f])∈D
theorem kz(p:List Mod)(r:aD):r∈(bT p).map (·.1)↔(findR p r).isSome=true:=by
 have:=@jl Fun (bT p) r
 rw[Au] at this
 cases h:findR p r with
 | none=>rw[h] at this;simpa using this.1 rfl
 | some g=>rw[h] at this;simpa using this
theorem DInv.len{p:List Mod}{f:aD}{k:Nat}{D:List (aD×List aD)}(I:DInv p f k D):D.length≤(bT p).length:=by
 have:=ek (l:=D.map (·.1)) (m:=(bT p).map (·.1)) I.nodup (fun x hx=>by
  obtain⟨e,he,rfl⟩:=List.mem_map.1 hx
  exact (kz p _).2 (I.inn e he))
 simpa using this
theorem DInv.zero{p:List Mod}{f:aD}(h:(findR p f).isSome=true):DInv p f 0 [(f,[f])] where
 nodup:=by simp
 inn:=fun e he=>by rw[List.mem_singleton.1 he];exact h
 chain:=fun e he=>.inl (List.mem_singleton.1 he)
 closed:=fun i e hi=>by omega
 start:=List.mem_singleton.2 rfl
theorem DInv.step{p:List Mod}{f:aD}{k:Nat}{D:List (aD×List aD)}(I:DInv p f k D){x:aD}{c:List aD}(hk:D[k]? = some (x,c)):DInv p f (k + 1) (D++xg (dh p) D x c) where
 nodup:=by
  rw[List.map_append,List.nodup_append]
  refine⟨I.nodup,?_,fun a ha b hb e=>?_⟩
  ·have:(xg (dh p) D x c).map (·.1)=(dh p x).filter fun r=>!(D.map (·.1)).contains r:=by
    unfold xg;rw[List.map_map];exact List.map_id _
   rw[this]
   exact (kj p x).filter _
  ·obtain⟨y,hy,rfl⟩:=List.mem_map.1 hb
   exact (m7.1 hy).2.1 (e▸ha)
 inn:=fun e he=>by
  rcases List.mem_append.1 he with he | he
  ·exact I.inn e he
  ·exact vT (m7.1 he).1
 chain:=fun e he=>by
  rcases List.mem_append.1 he with he | he
  ·rcases I.chain e he with h | ⟨y,c',h1,h2⟩
   ·exact .inl h
   ·exact .inr ⟨y,c',List.mem_append_left _ h1,h2⟩
  ·obtain⟨h1,h2,h3⟩:=m7.1 he
   exact .inr ⟨x,c,List.mem_append_left _ (List.mem_of_getElem? hk),h1,h3⟩
 closed:=fun i e hi he r hr=>by
  rw[List.map_append,List.mem_append]
  have hkl:k < D.length:=(List.getElem?_eq_some_iff.1 hk).1
  rw[List.getElem?_append_left (by omega)] at he
  by_cases h:i < k
  ·exact .inl (I.closed i e h he r hr)
  ·obtain rfl:i=k:=by omega
   rw[hk] at he
   cases he
   by_cases hm:r∈D.map (·.1)
   ·exact .inl hm
   ·exact .inr (List.mem_map.2 ⟨(r,c++[r]),m7.2 ⟨hr,hm,rfl⟩,rfl⟩)
 start:=List.mem_append_left _ I.start
theorem Ab{p:List Mod}{f:aD}:∀(n k:Nat)(D:List (aD×List aD)),DInv p f k D→(bT p).length≤k + n→DInv p f (mD (dh p) n k D).length (mD (dh p) n k D)
 | 0,k,D,I,h=>by
  have:=I.len
  exact⟨I.nodup,I.inn,I.chain,fun i e hi he=>I.closed i e (by simp only[mD] at hi;omega) he,I.start⟩
 | n + 1,k,D,I,h=>by
  simp only[mD]
  cases hk:D[k]? with
  | none=>
   have:=List.getElem?_eq_none_iff.1 hk
   exact⟨I.nodup,I.inn,I.chain,fun i e hi he=>I.closed i e (by simp only at hi;omega) he,I.start⟩
  | some e=>
   obtain⟨x,c⟩:=e
   exact Ab n (k + 1) _ (I.step hk) (by omega)
theorem ow{p:List Mod}{f:aD}(h:(findR p f).isSome=true):DInv p f (bq p f).length (bq p f):=by
 unfold bq
 rw[if_pos h]
 exact Ab _ 0 _ (DInv.zero h) (by omega)
def kL(e:aD×List aD):aD×aD:=(e.1,e.2.dropLast.getLastD e.1)
theorem tJ(c:List aD)(r y:aD)(hc:c.getLast? = some y):kL (r,c++[r])=(r,y):=by
 simp[kL,List.getLastD_eq_getLast?,hc]
theorem DInv.last{p:List Mod}{f:aD}{k:Nat}{D:List (aD×List aD)}(I:DInv p f k D){e:aD×List aD}(he:e∈D):e.2.getLast? = some e.1:=by
 rcases I.chain e he with rfl | ⟨y,c,_,_,h⟩
 ·rfl
 ·rw[h];simp
def eT(D:List (aD×List aD)):List AV:=[.tup ((D.map kL).map (bV aP))]
theorem jJ{T:TT}{t:Nat}{ti:TI}(ht:T t=some ti)(ha:ti.agg=false){h:Hp}{l k:Nat}{cs:List AV}{v:AV}(h0:h[l]? = some cs)(h1:cs[k]? = some v):bA T t (.hp l k) h= .ok v h:=by
 simp[bA,ht,h0,ha,h1]
theorem zl{T:TT}{t:Nat}{ti:TI}(ht:T t=some ti)(ha:ti.agg=true){h:Hp}{l k:Nat}{cs:List AV}(h0:h[l]? = some cs)(hle:k + ti.size≤cs.length):bA T t (.hp l k) h= .ok (.agg ((cs.drop k).take ti.size)) h:=by
 simp[bA,ht,h0,ha,hle]
theorem nz{T:TT}{t:Nat}{ti:TI}(ht:T t=some ti){h:Hp}{l k:Nat}{cs:List AV}{v:AV}(h0:h[l]? = some cs)(hv:ct ti.size v=true)(hle:k + ti.size≤cs.length)(hp:0 < ti.size):
  bK T t (.hp l k) v h= .ok (.tup []) (h.set l (setCells cs k (ab v))):=by
 simp[bK,ht,h0,hv,hle,hp]
theorem H5{T:TT}{t e:Nat}{ti ei:TI}(ht:T t=some ti)(hk:ti.kind= .slice e)(he:T e=some ei){x:AV}(hx:ct ei.size x=true)(hb:0 < ei.bytes)(hs:0 < ei.size)(hc:ei.bytes≤140737488355328)(h:Hp):
  appH T t false .hn (.sl [x]) h= .ok (.hs h.length 0 1 ei.size ei.agg) (h++[ab x]):=by
 have:cQ ei.size [x]=true:=by simp[cQ,hx]
 simp[appH,ht,hk,he,gM,this,hb,hs,kS,hc]
theorem DC{T:TT}{t e:Nat}{ti ei:TI}(ht:T t=some ti)(hk:ti.kind= .slice e)(he:T e=some ei){x:AV}(hx:ct ei.size x=true)(hb:0 < ei.bytes)(hs:0 < ei.size){h:Hp}{q n:Nat}{cs:List AV}(h0:h[q]? = some cs) (hok:cs.all aO=true)
  (hl:cs.length=n * ei.size) (hn:0 < n) (hc:(n + 1) * ei.bytes≤140737488355328):appH T t false (.hs q 0 n ei.size ei.agg) (.sl [x]) h= .ok (.hs h.length 0 (n + 1) ei.size ei.agg) ((h.set q [])++[cs++ab x]):=by
 have h1:cQ ei.size [x]=true:=by simp[cQ,hx]
 have h2:List.all cs aO=true:=hok
 have h3:0 < n * ei.size:=Nat.mul_pos hn hs
 have h4:cs.take (n * ei.size)=cs:=by rw[← hl];exact List.take_length
 simp only[appH,ht,hk,he,gM,h1,hb,hs,kS,h0,h2,hl,decide_true,Bool.and_self,cond_true,beq_self_eq_true,List.length_singleton,List.isEmpty_cons,cond_false,List.flatMap_cons,List.flatMap_nil,List.append_nil,h3,h4,Nat.le_refl]
 rw[decide_eq_true hc]
 simp
theorem xz(qs:List Nat):(qs.map fun (i:Nat)=>AV.int .i64 i).map xe=qs:=by
 induction qs with
 | nil=>rfl
 | cons q qs ih=>simp only[List.map_cons,ih];rfl
theorem AJ{l m:Nat}{n:Int}{c:AV}{kf kt:M AV}{h:Hp}{es:List AV}(hl:h[l]? = some [.tup [],.mp m,.int .i64 n,fh [],c])(hm:h[m]? = some [.tup es])(hn:(es.length:Int)=n):gY (.it l) kf kt h=kf (h.set l []):=by
 simp only[gY,hl,fh,hm,if_pos hn,xz]
theorem EW{l:Nat}{kf kt:M AV}{h:Hp}(hl:h[l]? = some [.tup [],.nilm]):gY (.it l) kf kt h=kf (h.set l []):=by simp only[gY,hl]
theorem GG{ps:List Nat}{k:Nat→M AV}{h:Hp}{r:R AV}(hne:ps≠[])(hall:∀ q∈ps,k q h=r):pE ps k h=r:=by
 cases ps with
 | nil=>exact absurd rfl hne
 | cons p ps=>
  simp only[pE]
  rw[if_pos (fun q hq=>(hall q (List.mem_cons_of_mem _ hq)).trans (hall p List.mem_cons_self).symm)]
  exact hall p List.mem_cons_self
theorem xn{l m:Nat}{n:Int}{qs:List Nat}{c:AV}{kf kt:M AV}{h:Hp}{es:List AV}{r:R AV}(hl:h[l]? = some [.tup [],.mp m,.int .i64 n,fh qs,c])(hm:h[m]? = some [.tup es])(hn:(es.length:Int)=n) (hne:qs≠[])
  (hall:∀ q∈qs,kt (h.set l [.tup [],.mp m,.int .i64 n,fh (qs.filter fun r=>!(Nat.beq r q)),.int .i64 (q:Nat)])=r):gY (.it l) kf kt h=r:=by
 cases qs with
 | nil=>exact absurd rfl hne
 | cons p ps=>
  have h1:gY (.it l) kf kt h=pE (p:: ps) (fun q h=>kt (h.set l [.tup [],.mp m,.int .i64 n,fh ((p:: ps).filter fun r=>!(Nat.beq r q)),.int .i64 (q:Nat)])) h:=by
   simp only[gY,hl,fh,hm,if_pos hn,xz]
  rw[h1]
  exact GG (k:=fun q h=>kt (h.set l [.tup [],.mp m,.int .i64 n,fh ((p:: ps).filter fun r=>!(Nat.beq r q)),.int .i64 (q:Nat)])) hne hall
theorem we{l m q:Nat}{n:Int}{x k v:AV}{h:Hp}{es:List AV}(hl:h[l]? = some [.tup [],.mp m,.int .i64 n,x,.int .i64 (q:Nat)])(hm:h[m]? = some [.tup es])(hn:(es.length:Int)=n)(hq:es[q]? = some (.tup [k,v])):fC (.it l) h= .ok (.tup [k,v]) h:=by
 simp only[fC,hl,hm,if_pos hn,Int.toNat_natCast,hq]
theorem Nl{a b:Nat}(h:¬ a=b):Nat.beq a b=false:=by
 cases hb:Nat.beq a b with
 | false=>rfl
 | true=>exact absurd (Nat.eq_of_beq_eq_true hb) h
theorem kK{q:Nat}:∀ {qs:List Nat},qs.Nodup→q∈qs→qs.Perm (q:: qs.filter fun r=>!(Nat.beq r q))
 | [],_,h=>by cases h
 | x:: qs,hn,h=>by
  obtain⟨h1,h2⟩:=List.nodup_cons.1 hn
  by_cases hx:x=q
  ·subst hx
   have e:qs.filter (fun r=>!(Nat.beq r x))=qs:=List.filter_eq_self.2 fun y hy=>by
    have:¬ y=x:=fun e=>h1 (e▸hy)
    simp[Nl this]
   rw[List.filter_cons_of_neg (by simp),e]
  ·have hq:q∈qs:=by
    rcases List.mem_cons.1 h with h | h
    ·exact absurd h.symm hx
    ·exact h
   rw[List.filter_cons_of_pos (by simp[Nl hx])]
   exact ((kK h2 hq).cons x).trans (List.Perm.swap _ _ _)
theorem jP{q:Nat}{qs:List Nat}(h:qs.Nodup):(qs.filter fun r=>!(Nat.beq r q)).Nodup:=h.filter _
def sA(b:BitVec 64):AV:=.int .i64 b.toInt
def D6(e:Exp):BitVec 64:=if e.op=16 then BitVec.ofInt 64 e.n &&& 15#64 else 0#64
def Np(s:BitVec 64)(e:Exp):BitVec 64:=s ||| D6 e
def yQ(p:List Mod)(r:aD):BitVec 64:=(eS (ji p r)).foldl Np 0#64
theorem qJ{α:Type}(v:α→BitVec 64):∀(l:List α)(s:BitVec 64),l.foldl (fun s x=>s ||| v x) s=s ||| l.foldl (fun s x=>s ||| v x) 0#64
 | [],s=>by simp
 | x:: l,s=>by
  simp only[List.foldl_cons]
  rw[qJ v l (s ||| v x),qJ v l (0#64 ||| v x)]
  simp[BitVec.or_assoc]
theorem BG(p:List Mod)(r:aD)(s:BitVec 64):(eS (ji p r)).foldl Np s=s ||| yQ p r:=qJ D6 _ s
def Hk{α:Type}(v:α→BitVec 64)(s:BitVec 64)(qs:List α):BitVec 64:=qs.foldl (fun s q=>s ||| v q) s
theorem E1{α:Type}(v:α→BitVec 64){a b:List α}(h:a.Perm b)(s:BitVec 64):Hk v s a=Hk v s b:=by
 refine h.foldl_eq' (fun x _ y _ z=>?_) s
 rw[BitVec.or_assoc,BitVec.or_comm (v x),← BitVec.or_assoc]
theorem vw(b:BitVec 64):IntKind.i64.wrap b.toNat=b.toInt:=by
 have h:=b.isLt
 rw[BitVec.toInt_eq_toNat_cond]
 have h1:(2:Int) ^ IntKind.i64.bits=18446744073709551616:=rfl
 have h2:(2:Int) ^ (IntKind.i64.bits - 1)=9223372036854775808:=rfl
 have h3:((2 ^ 64:Nat):Int)=18446744073709551616:=rfl
 have h4:(b.toNat:Int) % 18446744073709551616=b.toNat:=by omega
 simp only[IntKind.wrap,h1,h2,h3,h4]
 have h5:IntKind.i64.signed=true:=rfl
 rw[h5,Bool.true_and]
 by_cases hb:2 * b.toNat < 2 ^ 64
 ·rw[if_pos hb,if_neg (by simp;omega)]
 ·rw[if_neg hb,if_pos (by simp;omega)]
theorem Ny(T:TT)(t:Nat)(a b:BitVec 64):am T .or t (sA a) (sA b)=some (sA (a ||| b)):=by
 have:EA .or .i64 a.toInt b.toInt=some (sA (a ||| b)):=by
  show some (AV.int .i64 (IntKind.i64.wrap (BitVec.ofInt 64 a.toInt ||| BitVec.ofInt 64 b.toInt).toNat))=_
  rw[BitVec.ofInt_toInt,BitVec.ofInt_toInt,vw]
  rfl
 simpa [am,sA,lc] using this
theorem K7(T:TT)(t:Nat)(n:Int):am T .and t (.int .i64 n) (.int .i64 15)=some (sA (BitVec.ofInt 64 n &&& 15#64)):=by
 have:EA .and .i64 n 15=some (sA (BitVec.ofInt 64 n &&& 15#64)):=by
  show some (AV.int .i64 (IntKind.i64.wrap (BitVec.ofInt 64 n &&& BitVec.ofInt 64 15).toNat))=_
  rw[vw]
  rfl
 simpa [am,sA,lc] using this
abbrev AR(e:Exp):Bool:=cE 12 e
def xq:List aW→List cr→Bool
 | _,[]=>true
 | seen,f:: l=>!(seen.contains f.1)&&cX f.1&&bO f.2&&xq (seen++[f.1]) l
def fJ(l:List cr)(most:Int):Bool:=xq [] l&&decide ((l.length:Int)≤most)
def BP(f:Fun):Bool:=cX f.name&&fJ f.params 6&&bO f.result&&AR f.body&&(dG f.effects 15== 0)
def pe:List aW→List Fun→Bool
 | _,[]=>true
 | seen,f:: l=>!(seen.contains f.name)&&BP f&&pe (seen++[f.name]) l
def EZ:List aW→List aW→Bool
 | _,[]=>true
 | seen,s:: l=>!(seen.contains s)&&cX s&&EZ (seen++[s]) l
def tL(m:Mod):Bool:=cX m.name&&decide (m.uses.length≤12)&&decide (m.funcs.length≤30)&&fJ m.vars 8&&(m.init.all AR&&((m.init.length:Int)== m.vars.length))&&(m.moves||decide (m.old.length=0)) &&
 (fJ m.old 8&&(m.forward.all AR&&((m.forward.length:Int)== (if m.moves=true then (m.vars.length:Int) else 0)))&&(m.back.all AR&&((m.back.length:Int)== m.old.length)))
def iK(m:Mod):Bool:=EZ [] m.uses&&(pe [] m.funcs&&tL m)
theorem nf:(l:List cr)→(seen:List aW)→xq seen l=true→(∀ f∈l,cX f.1=true∧bO f.2=true∧f.1 ∉ seen)∧(l.map (·.1)).Nodup
 | [],seen,_=>⟨fun f h=>(by cases h),List.nodup_nil⟩
 | f:: l,seen,h=>by
  simp only[xq,Bool.and_eq_true,Bool.not_eq_true'] at h
  obtain⟨⟨⟨h1,h2⟩,h3⟩,h4⟩:=h
  obtain⟨i1,i2⟩:=nf l _ h4
  have h1':f.1 ∉ seen:=fun hm=>by rw[List.contains_iff_mem.2 hm] at h1;cases h1
  refine⟨fun g hg=>?_,?_⟩
  ·rcases List.mem_cons.1 hg with rfl | hg
   ·exact⟨h2,h3,h1'⟩
   ·obtain⟨j1,j2,j3⟩:=i1 g hg
    exact⟨j1,j2,fun hm=>j3 (List.mem_append_left _ hm)⟩
  ·rw[List.map_cons,List.nodup_cons]
   refine⟨fun hm=>?_,i2⟩
   obtain⟨g,hg,e⟩:=List.mem_map.1 hm
   exact (i1 g hg).2.2 (List.mem_append_right _ (by rw[e];simp))
theorem tG:(l:List Fun)→(seen:List aW)→pe seen l=true→(∀ f∈l,BP f=true∧f.name ∉ seen)∧(l.map (·.name)).Nodup
 | [],seen,_=>⟨fun f h=>(by cases h),List.nodup_nil⟩
 | f:: l,seen,h=>by
  simp only[pe,Bool.and_eq_true,Bool.not_eq_true'] at h
  obtain⟨⟨h1,h2⟩,h4⟩:=h
  obtain⟨i1,i2⟩:=tG l _ h4
  have h1':f.name ∉ seen:=fun hm=>by rw[List.contains_iff_mem.2 hm] at h1;cases h1
  refine⟨fun g hg=>?_,?_⟩
  ·rcases List.mem_cons.1 hg with rfl | hg
   ·exact⟨h2,h1'⟩
   ·obtain⟨j1,j3⟩:=i1 g hg
    exact⟨j1,fun hm=>j3 (List.mem_append_left _ hm)⟩
  ·rw[List.map_cons,List.nodup_cons]
   refine⟨fun hm=>?_,i2⟩
   obtain⟨g,hg,e⟩:=List.mem_map.1 hm
   exact (i1 g hg).2 (List.mem_append_right _ (by rw[e];simp))
structure FunOk (f:Fun):Prop where
 name:cX f.name=true
 plen:f.params.length≤6
 pars:∀ z∈f.params,bO z.2=true
 pnames:(f.params.map (·.1)).Nodup
 res:bO f.result=true
 body:cE 12 f.body=true
 eff:dG f.effects 15=0
theorem Kp{f:Fun}(h:BP f=true):FunOk f:=by
 unfold BP fJ at h
 simp only[Bool.and_eq_true,decide_eq_true_eq,beq_iff_eq] at h
 obtain⟨⟨⟨⟨h1,h2,h3⟩,h4⟩,h5⟩,h6⟩:=h
 obtain⟨i1,i2⟩:=nf _ _ h2
 exact⟨h1,by omega,fun z hz=>(i1 z hz).2.1,i2,h4,h5,h6⟩
structure ModOk (m:Mod):Prop where
 name:cX m.name=true
 ulen:m.uses.length≤12
 flen:m.funcs.length≤30
 fns:∀ f∈m.funcs,FunOk f
 fnames:(m.funcs.map (·.name)).Nodup
 vlen:m.vars.length≤8
 vars:∀ z∈m.vars,bO z.2=true
 vnames:(m.vars.map (·.1)).Nodup
 ilen:m.init.length=m.vars.length
 init:∀ e∈m.init,cE 12 e=true
 olen:m.old.length≤8
 old:∀ z∈m.old,bO z.2=true
 wlen:m.moves=true→m.forward.length=m.vars.length
 forw:∀ e∈m.forward,cE 12 e=true
 blen:m.back.length=m.old.length
 back:∀ e∈m.back,cE 12 e=true
theorem mf{m:Mod}(h:iK m=true):ModOk m:=by
 unfold iK tL fJ at h
 simp only[Bool.and_eq_true,decide_eq_true_eq,beq_iff_eq,List.all_eq_true,Bool.or_eq_true] at h
 obtain⟨h1,h2,⟨⟨⟨⟨⟨h3,h4⟩,h5⟩,h6,h7⟩,h8,h9⟩,h10⟩,⟨⟨h11,h12⟩,h13,h14⟩,h15,h16⟩:=h
 obtain⟨f1,f2⟩:=tG _ _ h2
 obtain⟨v1,v2⟩:=nf _ _ h6
 obtain⟨o1,_⟩:=nf _ _ h11
 exact⟨h3,h4,h5,fun f hf=>Kp (f1 f hf).1,f2,by omega,fun z hz=>(v1 z hz).2.1,v2,by omega,h8,by omega,fun z hz=>(o1 z hz).2.1,fun hm=>by rw[if_pos hm] at h14;omega,h13,by omega,h15⟩
end Go.Av.Ap
namespace Go.Av.Ap
open Go Go.Av
open Go.RowKit Go.Sort Go.Proofs in
theorem Ip(keys:List aW)(n i j:Nat):ltOf (FV keys n) i j=aG keys[i % n]! keys[j % n]!:=by
 unfold ltOf FV nK
 cases h1:aG keys[i % n]! keys[j % n]! with
 | true=>simp
 | false=>cases h2:aG keys[j % n]! keys[i % n]! <;> simp
open Go.RowKit Go.Sort Go.Proofs in
theorem NL(keys:List aW)(n:Nat):SWO (ltOf (FV keys n)):=by
 refine⟨fun x=>?_,fun x y z=>?_,fun x y z=>?_⟩
 ·rw[Ip,fN]
 ·rw[Ip,Ip,Ip]
  exact eX _ _ _
 ·rw[Ip,Ip,Ip]
  intro h1 h2
  cases h3:aG keys[x % n]! keys[z % n]! with
  | false=>rfl
  | true=>
   exfalso
   by_cases e:keys[x % n]! = keys[y % n]!
   ·rw[e,h2] at h3
    cases h3
   ·have:=eX _ _ _ (gl _ _ h1 e) h3
    rw[this] at h2
    cases h2
open Go.RowKit Go.Sort Go.Proofs in
theorem xu(keys:List aW):(fr keys).Perm (List.range keys.length)∧(fr keys).Pairwise fun i j=>aG keys[j % keys.length]! keys[i % keys.length]! = false:=by
 have h:=pdq_sorts (ltOf (FV keys keys.length)) (NL keys keys.length) (Array.range keys.length) 0 (Array.range keys.length).size (Lib.bitLen (Array.range keys.length).size) true true (Nat.zero_le _) (Nat.le_refl _) (Or.inl rfl)
 obtain⟨⟨hs,_,hp⟩,ho⟩:=h
 unfold fr
 generalize pdq (ltOf (FV keys keys.length)) (Array.range keys.length) 0 (Array.range keys.length).size (Lib.bitLen (Array.range keys.length).size) true true=d at hs hp ho
 refine⟨?_,?_⟩
 ·rw[← hs,Array.extract_size,hs,Array.extract_size] at hp
  simpa using hp
 ·rw[List.pairwise_iff_getElem]
  intro i j hi hj hij
  simp only[Array.length_toList] at hi hj
  have:=ho i j (Nat.zero_le _) hij (by omega)
  rw[getElem!_pos d i hi,getElem!_pos d j hj,Ip] at this
  simp only[Array.getElem_toList]
  exact this
def fw(l:List Sig):List Sig:=(fr (l.map (·.name))).map fun i=>l[i % l.length]!
theorem gd(l:List Sig):(fw l).Perm l:=by
 have h:=(xu (l.map (·.name))).1
 rw[List.length_map] at h
 have h2:=h.map fun i=>l[i % l.length]!
 refine h2.trans ?_
 have e:(List.range l.length).map (fun i=>l[i % l.length]!)=l:=by
  apply List.ext_getElem
  ·simp
  ·intro i h1 h2
   simp only[List.getElem_map,List.getElem_range]
   rw[Nat.mod_eq_of_lt h2,getElem!_pos l i h2]
 rw[e]
def xN(f:Fun):Sig:=⟨f.name,f.params.map (·.2),f.result,f.effects⟩
def eO(l:List Fun):List Sig:=(l.filter (·.pub)).map xN
theorem BM{l l':List Sig}(hp:l.Perm l')(hn:(l'.map (·.name)).Nodup)(s:aW):l.find? (fun x=>x.name== s)=l'.find? (fun x=>x.name== s):=by
 have hn':(l.map (·.name)).Nodup:=(hp.map _).nodup_iff.2 hn
 have uniq:∀ {l:List Sig},(l.map (·.name)).Nodup→∀ x∈l,l.find? (fun y=>y.name== x.name)=some x:=by
  intro l
  induction l with
  | nil=>intro _ x hx;cases hx
  | cons y l ih=>
   intro hn x hx
   rw[List.map_cons,List.nodup_cons] at hn
   rw[List.find?_cons]
   rcases List.mem_cons.1 hx with rfl | hx
   ·simp
   ·have hne:(y.name== x.name)=false:=beq_eq_false_iff_ne.2 fun e=>hn.1 (by rw[e];exact List.mem_map_of_mem (f:=(·.name)) hx)
    rw[hne]
    exact ih hn.2 x hx
 cases h:l'.find? (fun x=>x.name== s) with
 | none=>
  rw[List.find?_eq_none] at h ⊢
  exact fun x hx=>h x (hp.mem_iff.1 hx)
 | some x=>
  have h1:=List.mem_of_find?_eq_some h
  have h2:x.name=s:=by have:=List.find?_some h;exact beq_iff_eq.1 this
  have:=uniq hn' x (hp.mem_iff.2 h1)
  rw[h2] at this
  exact this
end Go.Av.Ap
namespace Go.Av.Ap
def O3:List aW→Bool
 | []=>true
 | [_]=>true
 | x:: y:: l=>aG x y&&O3 (y:: l)
def El:Nat→Val→Bool
 | 0,_=>false
 | d + 1,v=>if (v.kind== 0||v.kind== 1)=true then v.names.length== 0&&v.values.length== 0&&(v.kind== 0||v.n== 0||v.n== 1)
  else v.kind== 2&&v.n== 0&&v.names.length== v.values.length&&decide (v.names.length≤8)&&O3 v.names&&v.values.all (El d)
def oD(b:Bool):Val:=.mk 1 (if b then 1 else 0) [] []
def Ci(n:Int):Val:=.mk 0 n [] []
def Ir(p:List Mod)(s:aW):Int:=cB (fun m=>m.name== s) p 0
def M1(l:List Fun)(s:aW):Int:=cB (fun f=>f.name== s) l 0
def Ii(l:List cr)(s:aW):Int:=cB (fun f=>f.1== s) l 0
structure Ms where
 fuel:Int
 frames:Int
 world:List Int
 deeds:List Deed
 calls:List Call
 state:List (List Val)
inductive Rs (α:Type) where
 | ok (a:α) (m:Ms)
 | er (e:Int) (m:Ms)
def X(α:Type):=Ms→Rs α
def X.ok{α:Type}(a:α):X α:=fun m=>.ok a m
def X.er{α:Type}(e:Int):X α:=fun m=>.er e m
def X.bind{α β:Type}(x:X α)(f:α→X β):X β:=fun m=>match x m with
 | .ok a m'=>f a m'
 | .er e m'=>.er e m'
def X.upd{α:Type}(f:Ms→Ms)(x:X α):X α:=fun m=>x (f m)
def X.get{α:Type}(f:Ms→X α):X α:=fun m=>f m m
def My(op:Int):Int:=
 if op=0∨op=1∨op=2∨op=17 then 0
 else if op=10∨op=14∨op=16∨op=18 then 1
 else if op=3∨op=4∨op=5∨op=6∨op=7∨op=8∨op=9∨op=12 then 2
 else if op=11 then 3
 else if op=13∨op=15 then -1
 else -2
def re:List aW→List Val→aW→Option Val
 | n:: ns,v:: vs,s=>match re ns vs s with
  | some x=>some x
  | none=>if n=s then some v else none
 | _,_,_=>none
def za:List aW→List Val→aW→Option Val
 | n:: ns,v:: vs,s=>if n=s then some v else za ns vs s
 | _,_,_=>none
def wr(n:Int):Int:=IntKind.i64.wrap n
def MB(op:Int)(a b:Val):X Val:=
 if op=7 then (if a.kind=b.kind∧a.kind≠2 then .ok (oD (a.n== b.n)) else .er 13)
 else if a.kind=0∧b.kind=0 then
  (if op=3 then .ok (Ci (wr (a.n + b.n))) else if op=4 then .ok (Ci (wr (a.n - b.n))) else if op=5 then .ok (Ci (wr (a.n * b.n))) else .ok (oD (decide (a.n < b.n))))
 else .er 13
mutual
def EJ:Val→Nat
 | .mk _ _ _ vs=>Az vs + 1
def Az:List Val→Nat
 | []=>0
 | v:: vs=>max (EJ v) (Az vs)
end
abbrev Ev:=Int→List aW→List Val→Exp→X Val
def boolX(r:X Val):X Bool:=r.bind fun v=>if v.kind=1 then .ok (v.n== 1) else .er 13
def listX(r:Exp→X Val):List Exp→X (List Val)
 | []=>.ok []
 | e:: es=>(r e).bind fun v=>(listX r es).bind fun vs=>.ok (v:: vs)
def AS(r:Exp→X Val)(e:Exp):X Val:=
 if e.names.length=e.args.length∧O3 e.names=true then
  (if e.names.length≤8 then (listX r e.args).bind fun vs=>if EJ (.mk 2 0 e.names vs)≤4 then .ok (.mk 2 0 e.names vs) else .er 6 else .er 6)
 else .er 13
def wE(p:List Mod)(at_:Int)(s:aW):Option Fun:=
 if at_ < 0 then none else (let l:=(p[at_.toNat]?.getD default).funcs;let i:=M1 l s;if i < 0 then none else l[i.toNat]?)
def yT(p:List Mod)(r:Ev)(at_:Int)(f:Fun)(l:List Val):X Val:=
 .get fun m=>if m.frames < 60 then
  .upd (fun m=>{ m with calls:=if f.pub=true then m.calls++[⟨(p[at_.toNat]?.getD default).name,f.name,l⟩] else m.calls,frames:=m.frames + 1 })
   ((r at_ (f.params.map (·.1)) l f.body).bind fun v=>.upd (fun m=>{ m with frames:=m.frames - 1 }) (.ok v))
 else .er 6
def H8(p:List Mod)(r:Ev)(own:Int)(ns:List aW)(vs:List Val)(e:Exp):X Val:=
 let at_:=if e.m=[] then own else Ir p e.m
 match wE p at_ e.s with
 | none=>.er 12
 | some f=>if e.m=[]∨f.pub=true then
   (if e.args.length=f.params.length then (listX (r own ns vs) e.args).bind fun l=>yT p r at_ f l else .er 13)
  else .er 12
def L3(r:X Val)(e:Exp):X Val:=
 r.bind fun v=>if v.kind=0 then
  (if e.n=1∨e.n=2∨e.n=4∨e.n=8 then
   .get fun m=>.upd (fun m=>{ m with world:=m.world.tail,deeds:=m.deeds++[⟨e.n,v.n,m.world.headD 0⟩] }) (.ok (Ci (m.world.headD 0)))
  else .er 14)
 else .er 13
def setSt(st:List (List Val))(i k:Nat)(v:Val):List (List Val):=st.modify i fun l=>l.set k v
def Ik(st:List (List Val))(i k:Nat):Val:=(st.getD i []).getD k default
def NR(p:List Mod)(r:Exp→X Val)(own:Int)(e:Exp):X Val:=
 if own < 0 then .er 12 else
 let i:=Ii (p[own.toNat]?.getD default).vars e.s
 if i < 0 then .er 12 else
 if e.op=18 then (r e.args[0]!).bind fun v=>.upd (fun m=>{ m with state:=setSt m.state own.toNat i.toNat v }) (.ok v)
 else .get fun m=>.ok (Ik m.state own.toNat i.toNat)
def Fx(p:List Mod)(r:Ev):Ev:=fun own ns vs e=>.get fun m=>
 if m.fuel≤0 then .er 16 else .upd (fun m=>{ m with fuel:=m.fuel - 1 }) <|
 let n:=My e.op
 if n= -2∨(n≠-1∧n≠e.args.length) then .er 13
 else if e.op=0 then .ok (Ci e.n)
 else if e.op=1 then (if e.n=0∨e.n=1 then .ok (oD (e.n== 1)) else .er 13)
 else if e.op=2 then (match re ns vs e.s with | some v=>.ok v | none=>.er 12)
 else if e.op=3∨e.op=4∨e.op=5∨e.op=6∨e.op=7 then (r own ns vs e.args[0]!).bind fun a=>(r own ns vs e.args[1]!).bind fun b=>MB e.op a b
 else if e.op=8∨e.op=9 then (boolX (r own ns vs e.args[0]!)).bind fun x=>if x=(e.op== 9) then .ok (oD (e.op== 9)) else (boolX (r own ns vs e.args[1]!)).bind fun y=>.ok (oD y)
 else if e.op=10 then (boolX (r own ns vs e.args[0]!)).bind fun x=>.ok (oD !x)
 else if e.op=11 then (boolX (r own ns vs e.args[0]!)).bind fun x=>if x=true then r own ns vs e.args[1]! else r own ns vs e.args[2]!
 else if e.op=12 then (r own ns vs e.args[0]!).bind fun v=>r own (ns++[e.s]) (vs++[v]) e.args[1]!
 else if e.op=13 then AS (r own ns vs) e
 else if e.op=14 then (r own ns vs e.args[0]!).bind fun v=>(match za v.names v.values e.s with | some x=>if v.kind=2 then .ok x else .er 13 | none=>.er 13)
 else if e.op=15 then H8 p r own ns vs e
 else if e.op=16 then L3 (r own ns vs e.args[0]!) e
 else NR p (r own ns vs) own e
def Eh(p:List Mod):Nat→Ev
 | 0=>fun _ _ _ _=>.er 16
 | n + 1=>Fx p (Eh p n)
end Go.Av.Ap
namespace Go.Av.Ap
def Rs.st{α:Type}:Rs α→Ms
 | .ok _ m=>m
 | .er _ m=>m
def Rs.on{α:Type}(f:Ms→Ms):Rs α→Rs α
 | .ok a m=>.ok a (f m)
 | .er e m=>.er e (f m)
def NN{α:Type}(y:X α):X α:=.get fun m=>if m.fuel≤0 then .er 16 else .upd (fun m=>{ m with fuel:=m.fuel - 1 }) y
def O0(n a:Int):X Val:=.get fun m=>.upd (fun m=>{ m with world:=m.world.tail,deeds:=m.deeds++[⟨n,a,m.world.headD 0⟩] }) (.ok (Ci (m.world.headD 0)))
structure Closed (p:List Mod) (Q:Int→(α:Type)→X α→Prop):Prop where
 ok:∀(o:Int)(α:Type)(a:α),Q o α (.ok a)
 er:∀(o:Int)(α:Type)(e:Int),e≠0→Q o α (.er e)
 bind:∀(o:Int)(α β:Type)(x:X α)(f:α→X β),Q o α x→(∀ a,Q o β (f a))→Q o β (x.bind f)
 tick:∀(o:Int)(α:Type)(y:X α),Q o α y→Q o α (NN y)
 act:∀(o n a:Int),Q o Val (O0 n a)
 set:∀(o:Int)(k:Nat)(v:Val),¬ o < 0→Q o Val (.upd (fun m=>{ m with state:=setSt m.state o.toNat k v }) (.ok v))
 get:∀(o:Int)(k:Nat),Q o Val (.get fun m=>.ok (Ik m.state o.toNat k))
 enter:∀(o a:Int)(r:Ev)(f:Fun)(l:List Val),¬ a < 0→a.toNat < p.length→f∈(p[a.toNat]?.getD default).funcs→(∀ o ns vs e,Q o Val (r o ns vs e))→Q o Val (yT p r a f l)
theorem zd{p:List Mod}{a:Int}{s:aW}{f:Fun}(h:wE p a s=some f):¬ a < 0∧a.toNat < p.length∧f∈(p[a.toNat]?.getD default).funcs:=by
 unfold wE at h
 by_cases h1:a < 0
 ·simp[h1] at h
 ·rw[if_neg h1] at h
  simp only at h
  split at h
  ·cases h
  ·have hm:=List.mem_of_getElem? h
   refine⟨h1,?_,hm⟩
   rcases Nat.lt_or_ge a.toNat p.length with k | k
   ·exact k
   ·rw[List.getElem?_eq_none k] at hm
    cases hm
theorem Nh{Q:Int→(α:Type)→X α→Prop}{o:Int}{α:Type}{c:Prop}[Decidable c](x y:X α)(h1:Q o α x)(h2:Q o α y):Q o α (if c then x else y):=by
 split
 ·exact h1
 ·exact h2
section
variable {p:List Mod} {Q:Int→(α:Type)→X α→Prop} (C:Closed p Q)
include C
theorem Closed.boolX{o:Int}{r:X Val}(h:Q o Val r):Q o Bool (boolX r):=by
 refine C.bind _ _ _ _ _ h fun v=>?_
 split
 ·exact C.ok _ _ _
 ·exact C.er _ _ _ (by decide)
theorem Closed.listX{o:Int}{r:Exp→X Val}(h:∀ e,Q o Val (r e)):∀ l,Q o (List Val) (listX r l)
 | []=>C.ok _ _ _
 | e:: l=>C.bind _ _ _ _ _ (h e) fun _=>C.bind _ _ _ _ _ (Closed.listX h l) fun _=>C.ok _ _ _
theorem Closed.step{r:Ev}(h:∀ o ns vs e,Q o Val (r o ns vs e))(o:Int)(ns:List aW)(vs:List Val)(e:Exp):Q o Val (Fx p r o ns vs e):=by
 unfold Fx
 refine C.tick _ _ _ ?_
 have B:=fun {α β:Type} {x:X α} {f:α→X β}=>C.bind o α β x f
 have I:=@Nh Q o
 have er:=fun (α:Type) n (h:n≠0)=>C.er o α n h
 have ok:=fun (α:Type) (a:α)=>C.ok o α a
 refine I _ _ (er _ _ (by decide)) (I _ _ (ok _ _) (I _ _ (I _ _ (ok _ _) (er _ _ (by decide))) (I _ _ ?_ (I _ _ ?_ (I _ _ ?_ (I _ _ ?_ (I _ _ ?_ (I _ _ ?_ (I _ _ ?_ (I _ _ ?_ (I _ _ ?_ (I _ _ ?_ ?_))))))))))))
 ·split
  ·exact ok _ _
  ·exact er _ _ (by decide)
 ·refine B (h _ _ _ _) fun a=>B (h _ _ _ _) fun b=>?_
  unfold MB
  exact I _ _ (I _ _ (ok _ _) (er _ _ (by decide))) (I _ _ (I _ _ (ok _ _) (I _ _ (ok _ _) (I _ _ (ok _ _) (ok _ _)))) (er _ _ (by decide)))
 ·exact B (C.boolX (h _ _ _ _)) fun a=>I _ _ (ok _ _) (B (C.boolX (h _ _ _ _)) fun b=>ok _ _)
 ·exact B (C.boolX (h _ _ _ _)) fun a=>ok _ _
 ·exact B (C.boolX (h _ _ _ _)) fun a=>I _ _ (h _ _ _ _) (h _ _ _ _)
 ·exact B (h _ _ _ _) fun v=>h _ _ _ _
 ·unfold AS
  exact I _ _ (I _ _ (B (C.listX (fun e=>h _ _ _ e) _) fun vs=>I _ _ (ok _ _) (er _ _ (by decide))) (er _ _ (by decide))) (er _ _ (by decide))
 ·refine B (h _ _ _ _) fun v=>?_
  split
  ·exact I _ _ (ok _ _) (er _ _ (by decide))
  ·exact er _ _ (by decide)
 ·unfold H8
  simp only
  split
  ·exact er _ _ (by decide)
  ·rename_i f hf
   obtain⟨h1,h2,h3⟩:=zd hf
   exact I _ _ (I _ _ (B (C.listX (fun e=>h _ _ _ e) _) fun l=>C.enter _ _ _ _ _ h1 h2 h3 h) (er _ _ (by decide))) (er _ _ (by decide))
 ·unfold L3
  exact B (h _ _ _ _) fun v=>I _ _ (I _ _ (C.act _ _ _) (er _ _ (by decide))) (er _ _ (by decide))
 ·unfold NR
  split
  ·exact er _ _ (by decide)
  ·rename_i ho
   exact I _ _ (er _ _ (by decide)) (I _ _ (B (h _ _ _ _) fun v=>C.set _ _ _ ho) (C.get _ _))
theorem Closed.eval:∀(n:Nat)(o:Int)(ns:List aW)(vs:List Val)(e:Exp),Q o Val (Eh p n o ns vs e)
 | 0,_,_,_,_=>C.er _ _ _ (by decide)
 | n + 1,o,ns,vs,e=>C.step (fun o ns vs e=>Closed.eval n o ns vs e) o ns vs e
end
end Go.Av.Ap
namespace Go.Av.Ap
abbrev Rv(v:Val):Prop:=El 4 v=true
def r7(p:List Mod):Bool:=(List.range p.length).any fun i=>(p.take i).any fun m=>m.name== (p[i]?.getD default).name
def Lb(world:List Int)(fuel:Int)(st:List (List Val)):Ms:=⟨fuel,0,world,[],[],st⟩
def Gc(p:List Mod)(st:List Vars):Bool:=pD (fun (m:Mod) (v:Vars)=>v.module== m.name&&(v.values.length== m.vars.length&&v.values.all (El 4))) p st
def Pa(e:Int):Out:=⟨e,default,[],[],[]⟩
def Nu(ns:List aW):Rs Val→Out
 | .ok v m=>⟨0,v,m.deeds,m.calls,List.zipWith Vars.mk ns m.state⟩
 | .er e m=>⟨e,default,m.deeds,m.calls,List.zipWith Vars.mk ns m.state⟩
inductive Runs (p:List Mod) (st:List Vars) (args:List Val) (world:List Int) (fuel:Int) (o:Out):Prop where
 | bad (e:Int) (h:o=Pa e) (hall:e≠16)
 | go (a:Int) (f:Fun) (hf:f∈(p[a.toNat]?.getD default).funcs) (ha:¬ a < 0) (hl:a.toNat < p.length) (hargs:args.length=f.params.length) (hv:∀ v∈args,Rv v) (hb:Gc p st=true) (hfu:0≤fuel∧fuel≤100000)
   (h:o=Nu (st.map (·.module)) (yT p (Eh p 100000) a f args (Lb world fuel (st.map (·.values)))))
end Go.Av.Ap
namespace Go.Av.Ap
open Go Go.Av
def bv(n:Int):BitVec 64:=BitVec.ofInt 64 n
def gS(a b:Int):Prop:=bv a ||| bv b=bv b
theorem gS.refl(a:Int):gS a a:=BitVec.or_self
theorem gS.trans{a b c:Int}(h1:gS a b)(h2:gS b c):gS a c:=by
 unfold gS at *
 rw[← h2,← BitVec.or_assoc,h1]
theorem Ad(b:BitVec 64):bv (IntKind.i64.wrap b.toNat)=b:=by
 unfold bv
 have h:IntKind.i64.wrap b.toNat=b.toInt:=by
  have h:=b.isLt
  rw[BitVec.toInt_eq_toNat_cond]
  have h1:(2:Int) ^ IntKind.i64.bits=18446744073709551616:=rfl
  have h2:(2:Int) ^ (IntKind.i64.bits - 1)=9223372036854775808:=rfl
  have h3:((2 ^ 64:Nat):Int)=18446744073709551616:=rfl
  have h4:(b.toNat:Int) % 18446744073709551616=b.toNat:=by omega
  simp only[IntKind.wrap,h1,h2,h3,h4]
  have h5:IntKind.i64.signed=true:=rfl
  rw[h5,Bool.true_and]
  by_cases hb:2 * b.toNat < 2 ^ 64
  ·rw[if_pos hb,if_neg (by simp;omega)]
  ·rw[if_neg hb,if_pos (by simp;omega)]
 rw[h,BitVec.ofInt_toInt]
theorem H6(a b:Int):bv (pi a b)=bv a ||| bv b:=Ad _
theorem pO(a b:Int):gS a (pi a b):=by
 unfold gS
 rw[H6,← BitVec.or_assoc,BitVec.or_self]
theorem A6(a b:Int):gS b (pi a b):=by
 unfold gS
 rw[H6,BitVec.or_comm (bv a),← BitVec.or_assoc,BitVec.or_self]
theorem oV{a b:Int}(h:dG a b=0):gS a b:=by
 have h1:bv (dG a b)=bv a &&& ~~~ bv b:=Ad _
 rw[h] at h1
 unfold gS
 have h2:bv a &&& ~~~ bv b=0#64:=h1.symm
 ext i hi
 have:=congrArg (fun x:BitVec 64=>x.getLsbD i) h2
 simp only[BitVec.getLsbD_and,BitVec.getLsbD_not,hi,decide_true,Bool.true_and,BitVec.getLsbD_zero] at this
 rw[BitVec.getElem_or]
 simp only[BitVec.getLsbD_eq_getElem hi] at this
 cases h1:(bv a)[i] <;> cases h2:(bv b)[i] <;> simp[h1,h2] at this ⊢
mutual
def Pj:Ty→Val→Prop
 | .mk k fs,v=>v.kind=k∧(fs≠[]→k=2)∧Il fs v
def Il:List (aW×Ty)→Val→Prop
 | [],_=>True
 | f:: fs,v=>Pi f v∧Il fs v
def Pi:aW×Ty→Val→Prop
 | (n,t),v=>∃ x,za v.names v.values n=some x∧Pj t x
end
def jV{α:Type}(x:ew α):Prop:=∀ n a n',x n= .ok a n'→gS n n'
theorem m5{α:Type}(a:α):jV (.ok a):=fun n b n' h=>by cases h;exact gS.refl _
theorem jM{α:Type}(e:Int):jV (α:=α) (.er e):=fun n b n' h=>by cases h
theorem bind_ok{α β:Type}{x:ew α}{f:α→ew β}{n:Int}{b:β}{n':Int}(h:ew.bind x f n= .ok b n'):∃ a m,x n= .ok a m∧f a m= .ok b n':=by
 unfold ew.bind at h
 split at h
 ·rename_i a m hm
  exact⟨a,m,hm,h⟩
 ·cases h
theorem ig{α β:Type}{x:ew α}{f:α→ew β}(hx:jV x)(hf:∀ a,jV (f a)):jV (.bind x f):=fun n b n' h=>by
 obtain⟨a,m,h1,h2⟩:=bind_ok h
 exact (hx _ _ _ h1).trans (hf a _ _ _ h2)
theorem gy{α:Type}{c:Prop}[Decidable c]{x y:ew α}(h1:jV x)(h2:jV y):jV (if c then x else y):=by
 split
 ·exact h1
 ·exact h2
theorem lj{r:Exp→ew Ty}(h:∀ e,jV (r e)):∀ l,jV (ef r l)
 | []=>m5 _
 | e:: l=>ig (h e) fun _=>ig (lj h l) fun _=>m5 _
theorem og(c:Tcx):∀(d:Nat)(ls:List cr)(e:Exp),jV (bF c d ls e)
 | 0,_,_=>jM _
 | d + 1,ls,e=>by
  have H:=og c d
  show jV (db c (bF c d) ls e)
  unfold db
  refine gy ?_ (gy ?_ (gy ?_ (gy ?_ ?_)))
  ·split
   ·exact m5 _
   ·exact jM _
  ·exact ig (H _ _) fun _=>H _ _
  ·split
   ·exact jM _
   ·exact gy (ig (H _ _) fun _=>gy (m5 _) (jM _)) (m5 _)
  ·split
   ·exact jM _
   ·refine gy (ig (lj (H _) _) fun _=>gy (fun n a n' h=>?_) (jM _)) (jM _)
    cases h
    exact pO _ _
  ·refine ig (lj (H _) _) fun l n a n' h=>?_
   split at h
   ·cases h
    split
    ·exact pO _ _
    ·exact gS.refl _
   ·cases h
def Of(b:Int)(d:Deed):Prop:=gS d.effect b∧(d.effect=1∨d.effect=2∨d.effect=4∨d.effect=8)
theorem Of.mono{b c:Int}(h:gS b c){d:Deed}(hd:Of b d):Of c d:=⟨hd.1.trans h,hd.2⟩
structure Wt (p:List Mod) (C:Int→Tcx):Prop where
 call:∀(own:Int)(e:Exp)(s:List Ty×Ty×Int),cZ (C own) e=some s→∃ f,wE p (if e.m=[] then own else Ir p e.m) e.s=some f∧(e.m=[]∨f.pub=true)∧f.params.map (·.2)=s.1∧f.result=s.2.1∧f.effects=s.2.2
 fn:∀(a:Int)(s:aW)(f:Fun),wE p a s=some f→(∀ z∈f.params,bO z.2=true)∧bO f.result=true∧cE 12 f.body=true∧∃ t n,bF (C a) 12 f.params f.body 0= .ok t n∧bW t f.result=true∧dG n f.effects=0
 var:∀(own:Int)(s:aW)(z:cr),cm (fun z=>z.1== s) (C own).vars=some z→¬ own < 0∧own.toNat < p.length∧∃ i:Nat,Ii (p[own.toNat]?.getD default).vars s=i∧(p[own.toNat]?.getD default).vars[i]? = some z∧bO z.2=true
theorem xM{e:Exp}(h:kR e=true):(e.op=0∧e.args.length=0)∨(e.op=1∧e.args.length=0∧(e.n=0∨e.n=1))∨(e.op=2∧e.args.length=0)∨((e.op=3∨e.op=4∨e.op=5∨e.op=6∨e.op=7)∧e.args.length=2)∨((e.op=8∨e.op=9)∧e.args.length=2)∨(e.op=10∧e.args.length=1)∨(e.op=11∧e.args.length=3)∨(e.op=12∧e.args.length=2)∨(e.op=13∧e.names.length=e.args.length∧uJ e.names=true)∨(e.op=14∧e.args.length=1)∨e.op=15∨(e.op=16∧e.args.length=1∧(e.n=1∨e.n=2∨e.n=4∨e.n=8))∨(e.op=17∧e.args.length=0)∨(e.op=18∧e.args.length=1):=by
 have hb:0≤e.op∧e.op < 19:=by
  unfold kR at h
  simp only[Bool.and_eq_true,decide_eq_true_eq] at h
  exact⟨h.1.1.1.1.1.1.1,h.1.1.1.1.1.1.2⟩
 have ho:e.op=0∨e.op=1∨e.op=2∨e.op=3∨e.op=4∨e.op=5∨e.op=6∨e.op=7∨e.op=8∨e.op=9∨e.op=10∨e.op=11∨e.op=12∨e.op=13∨e.op=14∨e.op=15∨e.op=16∨e.op=17∨e.op=18:=by omega
 rcases ho with o | o | o | o | o | o | o | o | o | o | o | o | o | o | o | o | o | o | o <;> simp[kR,fc,fq,o,-List.length_eq_zero_iff] at h ⊢ <;> first | omega | grind
def bb:List aD→List AV
 | []=>[]
 | r:: l=>.str r.1:: .str r.2:: bb l
theorem dR:∀ l:List aD,(bb l).length=l.length * 2
 | []=>rfl
 | r:: l=>by simp only[bb,List.length_cons,dR l];omega
theorem kV:∀ l:List aD,(bb l).all aO=true
 | []=>rfl
 | r:: l=>by simp only[bb,List.all_cons,kV l,Bool.and_true];rfl
theorem qj:∀ a b:List aD,bb (a++b)=bb a++bb b
 | [],b=>rfl
 | r:: a,b=>by simp only[List.cons_append,bb,qj a b]
theorem lQ:∀(l:List aD)(i:Nat)(h:i < l.length),((bb l).drop (i * 2)).take 2=[.str l[i].1,.str l[i].2]
 | r:: l,0,_=>rfl
 | r:: l,i + 1,h=>by
  rw[show (i + 1) * 2=i * 2 + 1 + 1 by omega]
  simp only[bb,List.drop_succ_cons,List.getElem_cons_succ]
  exact lQ l i (by simpa using h)
theorem qk:∀(l:List aD)(i:Nat)(_:i < l.length)(r:aD),setCells (bb l) (i * 2) [.str r.1,.str r.2]=bb (l.set i r)
 | x:: l,0,_,r=>rfl
 | x:: l,i + 1,h,r=>by
  have ih:=qk l i (by simpa using h) r
  unfold setCells at ih ⊢
  rw[show (i + 1) * 2=i * 2 + 1 + 1 by omega,show i * 2 + 1 + 1 + [AV.str r.1,AV.str r.2].length=i * 2 + [AV.str r.1,AV.str r.2].length + 1 + 1 by simp]
  simp only[bb,List.take_succ_cons,List.drop_succ_cons,List.cons_append,List.set_cons_succ]
  rw[ih]
theorem wC{h:Hp}{l:Nat}{P:List aD}(hl:h[l]? = some (bb P))(d:Nat):iE (d + 1) h (.hs l 0 P.length 2 true)=aU P:=by
 have h1:(decide (0 + P.length * 2≤(bb P).length)&&decide (0 < 2)&&(true||(Nat.beq 2 1&&(bb P).all aO)))=true:=by
  rw[dR];simp
 simp only[iE,cl,hl,h1,cond_true]
 unfold aU
 congr 1
 apply List.ext_getElem (by simp)
 intro i h2 h3
 simp at h2
 simp only[List.getElem_map,List.getElem_range,Nat.zero_add]
 rw[lQ P i h2]
 cases d <;> rfl
def r5(l:List aD)(i j:Nat):List aD:=(l.set i ((l[j]?).getD ([],[]))).set j ((l[i]?).getD ([],[]))
def zW(P Q:List aD)(i:Nat):Prop:=Q.length=P.length∧∀ x,x < P.length→Q[x]? = if x < i∨P.length < x + 1 + i then P[P.length - 1 - x]? else P[x]?
theorem zG{P Q:List aD}{i j:Nat}(H:zW P Q i)(hj:i + j + 1=P.length)(hij:i < j):zW P (r5 Q i j) (i + 1):=by
 refine⟨by simp[r5,H.1],fun x hx=>?_⟩
 have hi:=H.2 i (by omega)
 have hjj:=H.2 j (by omega)
 rw[if_neg (by omega)] at hi hjj
 unfold r5
 rw[List.getElem?_set,List.getElem?_set]
 have hl:(Q.set i ((Q[j]?).getD ([],[]))).length=P.length:=by simp[H.1]
 by_cases h1:j=x
 ·subst h1
  rw[if_pos rfl,if_pos (by simp[H.1];omega),hi,if_pos (by omega),show P.length - 1 - j=i by omega,List.getElem?_eq_getElem (by omega)]
  rfl
 ·rw[if_neg h1]
  by_cases h2:i=x
  ·subst h2
   rw[if_pos rfl,if_pos (by rw[H.1];omega),hjj,if_pos (by omega),show P.length - 1 - i=j by omega,List.getElem?_eq_getElem (by omega)]
   rfl
  ·rw[if_neg h2,H.2 x hx]
   by_cases h3:x < i∨P.length < x + 1 + i
   ·rw[if_pos h3,if_pos (by omega)]
   ·rw[if_neg h3,if_neg (by omega)]
theorem Cp{P Q:List aD}{i j:Int}(H:zW P Q i.toNat)(hi:0≤i)(hj:i + j + 1=P.length)(hij:¬ i < j):Q=P.reverse:=by
 apply List.ext_getElem?
 intro x
 by_cases hx:x < P.length
 ·rw[H.2 x hx,List.getElem?_reverse hx]
  by_cases h3:x < i.toNat∨P.length < x + 1 + i.toNat
  ·rw[if_pos h3]
  ·rw[if_neg h3,show P.length - 1 - x=x by omega]
 ·rw[List.getElem?_eq_none (by rw[H.1];omega),List.getElem?_eq_none (by simp;omega)]
theorem DInv.uniq{p:List Mod}{f:aD}{k:Nat}{D:List (aD×List aD)}(I:DInv p f k D){x:aD}{c d:List aD}(h1:(x,c)∈D)(h2:(x,d)∈D):c=d:=by
 have e1:=lZ I.nodup h1
 have e2:=lZ I.nodup h2
 rw[e1] at e2
 exact Option.some.inj e2
theorem yH{p:List Mod}{f:aD}{k:Nat}{D:List (aD×List aD)}(I:DInv p f k D):∀(n:Nat)(e:aD×List aD),e∈D→e.2.length=n→∃ l:List (aD×List aD),l.Nodup∧l.length=n∧∀ a∈l,a∈D∧a.2.length≤n:=by
 intro n
 induction n with
 | zero=>intro e he hn;exact⟨[],List.nodup_nil,rfl,fun a ha=>by cases ha⟩
 | succ n ih=>
  intro e he hn
  rcases I.chain e he with rfl | ⟨y,c,h1,h2,h3⟩
  ·simp at hn
   subst hn
   exact⟨[(f,[f])],by simp,rfl,fun a ha=>by rw[List.mem_singleton.1 ha];exact⟨he,Nat.le_refl _⟩⟩
  ·obtain⟨l,l1,l2,l3⟩:=ih (y,c) h1 (by rw[h3] at hn;simpa using hn)
   refine⟨e:: l,List.nodup_cons.2 ⟨fun hm=>?_,l1⟩,by simp[l2],fun a ha=>?_⟩
   ·have:=(l3 e hm).2;omega
   ·rcases List.mem_cons.1 ha with rfl | ha
    ·exact⟨he,by omega⟩
    ·exact⟨(l3 a ha).1,Nat.le_succ_of_le (l3 a ha).2⟩
theorem Bu{p:List Mod}{f:aD}{k:Nat}{D:List (aD×List aD)}(I:DInv p f k D){e:aD×List aD}(he:e∈D):e.2.length≤D.length:=by
 obtain⟨l,l1,l2,l3⟩:=yH I _ e he rfl
 have:=ek l1 fun a ha=>(l3 a ha).1
 omega
theorem Ep{h:Hp}{l:Nat}{P:List aD}(hl:h[l]? = some (bb P))(b:Bool):iE 6 h (.tup [.hs l 0 P.length 2 true,.bool b])= .tup [aU P,.bool b]:=by
 have:=wC hl 5
 have e:iE 6 h (.tup [.hs l 0 P.length 2 true,.bool b])= .tup [iE 6 h (.hs l 0 P.length 2 true),.bool b]:=rfl
 rw[e,this]
def lO(p:List Mod)(f:aD):List aD:=cY ((bq p f).map (·.1))
def AM(p:List Mod)(f t:aD):Option (List aD):=eu (bq p f) t
theorem uG{p:List Mod}{f x:aD}:x∈lO p f↔x∈(bq p f).map (·.1):=(dW _).mem_iff
theorem vE{p:List Mod}{f x:aD}(h:x∈lO p f):(findR p f).isSome=true:=by
 rw[uG] at h
 by_cases hf:(findR p f).isSome=true
 ·exact hf
 ·unfold bq at h
  rw[if_neg hf] at h
  cases h
theorem Bb{p:List Mod}{x:aD}{A:aD→Prop}(hx:A x)(hA:∀ y r,A y→r∈dh p y→A r):∀ y∈lO p x,A y:=by
 intro y hy
 have hf:=vE hy
 have I:=ow hf
 have key:∀(n:Nat)(e:aD×List aD),e∈bq p x→e.2.length=n→A e.1:=by
  intro n
  induction n with
  | zero=>
   intro e he hn
   have:=I.last he
   rw[List.length_eq_zero_iff.1 hn] at this
   cases this
  | succ n ih=>
   intro e he hn
   rcases I.chain e he with rfl | ⟨z,c,h1,h2,h3⟩
   ·exact hx
   ·exact hA z _ (ih (z,c) h1 (by rw[h3] at hn;simpa using hn)) h2
 obtain⟨e,he,rfl⟩:=List.mem_map.1 (uG.1 hy)
 exact key _ e he rfl
def mB(p:List Mod):List aD:=p.flatMap fun m=>m.funcs.map fun f=>(m.name,f.name)
theorem BL{p:List Mod}{r:aD}(h:(findR p r).isSome=true):r∈mB p:=by
 unfold findR at h
 split at h
 ·rename_i m hm
  cases hf:m.funcs.find? fun f=>f.name== r.2 with
  | none=>rw[hf] at h;cases h
  | some g=>
   have h1:=List.find?_some hm
   have h2:=List.find?_some hf
   refine List.mem_flatMap.2 ⟨m,List.mem_of_find?_eq_some hm,List.mem_map.2 ⟨g,List.mem_of_find?_eq_some hf,?_⟩⟩
   simp only[beq_iff_eq] at h1 h2
   rw[h1,h2]
 ·cases h
theorem CO(p:List Mod){n:Nat}(h:∀ m∈p,m.funcs.length≤n):(mB p).length≤p.length * n:=by
 induction p with
 | nil=>simp[mB]
 | cons m p ih=>
  have h1:=ih (fun m hm=>h m (List.mem_cons_of_mem _ hm))
  have h2:=h m List.mem_cons_self
  have:(mB (m:: p)).length=m.funcs.length + (mB p).length:=by simp[mB]
  rw[this,List.length_cons,Nat.add_mul]
  omega
theorem GP(p:List Mod):(bT p).length≤(mB p).length:=by
 have:=ek (l:=(bT p).map (·.1)) (m:=mB p) (BW p) (fun x hx=>BL ((kz p x).1 hx))
 simpa using this
def pS(c:Tcx)(n':Int)(x:Exp):Prop:=(x.op=16→gS x.n n')∧(x.op=15→∃ s,cZ c x=some s∧gS s.2.2 n')
theorem pS.mono{c:Tcx}{n m:Int}{x:Exp}(h:pS c n x)(hs:gS n m):pS c m x:=⟨fun o=>(h.1 o).trans hs,fun o=>by obtain⟨s,a,b⟩:=h.2 o;exact⟨s,a,b.trans hs⟩⟩
theorem rr{c:Tcx}{n:Int}{x:Exp}(h1:¬ x.op=16)(h2:¬ x.op=15):pS c n x:=⟨fun o=>absurd o h1,fun o=>absurd o h2⟩
def PI(c:Tcx)(d:Nat):Prop:=∀(ls:List cr)(e:Exp)(n n':Int)(t:Ty),cE d e=true→bF c d ls e n= .ok t n'→∀ x∈eS e,pS c n' x
theorem rt{c:Tcx}{d:Nat}(H:PI c d)(ls:List cr):∀(l:List Exp)(n n':Int)(ts:List Ty),l.all (cE d)=true→ef (bF c d ls) l n= .ok ts n'→∀ e∈l,∀ x∈eS e,pS c n' x
 | [],_,_,_,_,_,e,he=>by cases he
 | a:: l,n,n',ts,hr,h,e,he=>by
  rw[List.all_cons,Bool.and_eq_true] at hr
  obtain⟨t,m,h1,h2⟩:=bind_ok h
  obtain⟨ts',m',h3,h4⟩:=bind_ok h2
  cases h4
  intro x hx
  rcases List.mem_cons.1 he with rfl | he
  ·exact (H ls _ n m t hr.1 h1 x hx).mono (lj (og c d ls) l _ _ _ h3)
  ·exact rt H ls l m _ ts' hr.2 h3 e he x hx
theorem Po(c:Tcx):∀ d,PI c d
 | 0=>fun ls e n n' t hr=>by cases hr
 | d + 1=>fun ls e n n' t hr h x hx=>by
  have H:=Po c d
  rw[kQ,Bool.and_eq_true] at hr
  obtain⟨hs,ha⟩:=hr
  rw[oh,List.mem_cons,List.mem_flatMap] at hx
  have sc:=xM hs
  have h:db c (bF c d) ls e n= .ok t n':=h
  have h0:e.args.length=0→¬ ∃ a∈e.args,x∈eS a:=fun hl ⟨a,h1,_⟩=>by
   rw[List.length_eq_zero_iff.1 hl] at h1
   cases h1
  have har:=List.all_eq_true.1 ha
  by_cases o2:e.op=2
  ·rcases hx with rfl | hx
   ·exact rr (by omega) (by omega)
   ·exact absurd hx (h0 (by omega))
  by_cases o12:e.op=12
  ·rw[rX o12] at h
   obtain⟨t1,m,h1,h2⟩:=bind_ok h
   have hl:e.args.length=2:=by omega
   obtain⟨a,b,hab⟩:∃ a b,e.args=[a,b]:=by
    rcases he:e.args with _ | ⟨a,_ | ⟨b,_ | ⟨z,l⟩⟩⟩ <;> rw[he] at hl <;> simp at hl
    exact⟨a,b,rfl⟩
   rcases hx with rfl | ⟨y,hy,hx⟩
   ·exact rr (by omega) (by omega)
   ·rw[hab] at hy h1 h2 har
    simp only[List.mem_cons,List.not_mem_nil,or_false] at hy
    rcases hy with rfl | rfl
    ·exact (H _ _ _ _ _ (har _ (by simp)) h1 x hx).mono (og c d _ _ _ _ _ h2)
    ·exact H _ _ _ _ _ (har _ (by simp)) h2 x hx
  by_cases o17:e.op=17∨e.op=18
  ·rw [rW o17] at h
   rcases hx with rfl | hx
   ·exact rr (by omega) (by omega)
   ·by_cases o18:e.op=18
    ·split at h
     ·cases h
     ·rw[if_pos o18] at h
      obtain⟨u,m,h1,h2⟩:=bind_ok h
      have hl:e.args.length=1:=by omega
      obtain⟨a,hab⟩:∃ a,e.args=[a]:=List.length_eq_one_iff.1 hl
      obtain⟨y,hy,hx⟩:=hx
      rw[hab] at hy h1 har
      rw[List.mem_singleton] at hy
      subst hy
      have:=H _ _ _ _ _ (har _ (by simp)) h1 x hx
      split at h2
      ·cases h2;exact this
      ·cases h2
    ·exact absurd hx (h0 (by omega))
  by_cases o15:e.op=15
  ·rw [pr o15] at h
   split at h
   ·cases h
   ·rename_i s hcal
    split at h
    ·obtain⟨l,m,h1,h2⟩:=bind_ok h
     split at h2
     ·cases h2
      rcases hx with rfl | ⟨y,hy,hx⟩
      ·exact⟨fun o=>by omega,fun _=>⟨s,hcal,A6 _ _⟩⟩
      ·exact (rt H ls _ _ _ _ ha h1 y hy x hx).mono (pO _ _)
     ·cases h2
    ·cases h
  ·rw[pt o2 o12 o17 o15] at h
   obtain⟨l,m,h1,h2⟩:=bind_ok h
   have hm:(e.op=16→n'=pi m e.n)∧(¬ e.op=16→n'=m):=by
    cases hp:cD e l with
    | none=>rw[mj hp] at h2;cases h2
    | some u=>rw[ml hp] at h2;cases h2;exact⟨fun o=>by rw[if_pos o],fun o=>by rw[if_neg o]⟩
   rcases hx with rfl | ⟨y,hy,hx⟩
   ·exact⟨fun o=>by rw[hm.1 o];exact A6 _ _,fun o=>absurd o o15⟩
   ·have:=rt H ls _ _ _ _ ha h1 y hy x hx
    by_cases o:e.op=16
    ·rw[hm.1 o];exact this.mono (pO _ _)
    ·rw[hm.2 o];exact this
theorem D7{c:Tcx}{n:Int}{x:Exp}(h:pS c n x):D6 x ||| bv n=bv n:=by
 unfold D6
 by_cases o:x.op=16
 ·rw[if_pos o]
  have h1:bv x.n ||| bv n=bv n:=h.1 o
  have h2:(BitVec.ofInt 64 x.n &&& 15#64) ||| bv n=((BitVec.ofInt 64 x.n &&& 15#64) ||| bv x.n) ||| bv n:=by rw[BitVec.or_assoc,h1]
  rw[h2]
  have h3:(BitVec.ofInt 64 x.n &&& 15#64) ||| bv x.n=bv x.n:=by
   unfold bv
   ext i hi
   simp only[BitVec.getElem_or,BitVec.getElem_and]
   cases (BitVec.ofInt 64 x.n)[i] <;> simp
  rw[h3,h1]
 ·rw[if_neg o]
  exact BitVec.zero_or
theorem qI{α:Type}{b:BitVec 64}(v:α→BitVec 64):∀(l:List α)(s:BitVec 64),s ||| b=b→(∀ x∈l,v x ||| b=b)→l.foldl (fun s x=>s ||| v x) s ||| b=b
 | [],s,h,_=>h
 | x:: l,s,h,hx=>qI v l (s ||| v x) (by rw[BitVec.or_assoc,hx x List.mem_cons_self,h]) fun y hy=>hx y (List.mem_cons_of_mem _ hy)
theorem F7{a b:BitVec 64}(h:a ||| b=b):a &&& ~~~b=0#64:=by
 rw[← h]
 ext i hi
 simp only[BitVec.getElem_and,BitVec.getElem_not,BitVec.getElem_or,BitVec.getElem_zero]
 cases a[i] <;> simp
theorem Am:{l:List (aW×Int)} →(bS l).2=0→∀ x∈l,x.2=0
 | [],_,x,hx=>by cases hx
 | y:: l,h,x,hx=>by
  unfold bS at h
  split at h
  ·rename_i hy
   rcases List.mem_cons.1 hx with rfl | hx
   ·exact hy
   ·exact Am h x hx
  ·rename_i hy
   exact absurd h hy
theorem qE{α:Type}(key:α→aW):{l:List α} →(l.map key).Nodup→∀ {x},x∈l→l.find? (fun y=>key y== key x)=some x
 | [],_,x,hx=>by cases hx
 | y:: l,hn,x,hx=>by
  rw[List.map_cons,List.nodup_cons] at hn
  rcases List.mem_cons.1 hx with rfl | hx
  ·rw[List.find?_cons_of_pos (by simp)]
  ·have:(key y== key x)=false:=beq_eq_false_iff_ne.2 fun h=>hn.1 (by rw[h];exact List.mem_map_of_mem hx)
   rw[List.find?_cons]
   simp only[this]
   exact qE key hn.2 hx
def NZ(l:List aD):Prop:=l.Pairwise fun a b=>ri a b=true
theorem Cn{l:List aD}(h:NZ l):l.Nodup:=h.imp fun {a b} hab e=>by
 subst e;rw[uA] at hab;cases hab
def xC:List aD→aD→List aD
 | [],r=>[r]
 | x:: l,r=>if ri x r=true then x:: xC l r else if x=r then r:: l else r:: x:: l
theorem rj(r y:aD):∀ l:List aD,y∈xC l r↔y=r∨y∈l
 | []=>by simp[xC]
 | x:: l=>by
  simp only[xC]
  split
  ·simp only[List.mem_cons,rj r y l]
   exact⟨fun h=>by rcases h with h | h | h;exact .inr (.inl h);exact .inl h;exact .inr (.inr h),fun h=>by rcases h with h | h | h;exact .inr (.inl h);exact .inl h;exact .inr (.inr h)⟩
  ·split
   ·rename_i e;subst e;simp
   ·simp
theorem xD(r:aD):∀ {l:List aD},NZ l→NZ (xC l r)
 | [],_=>List.pairwise_singleton _ _
 | x:: l,h=>by
  obtain⟨h1,h2⟩:=List.pairwise_cons.1 h
  simp only[xC]
  split
  ·rename_i hx
   refine List.pairwise_cons.2 ⟨fun y hy=>?_,xD r h2⟩
   rcases (rj r y l).1 hy with rfl | hy
   ·exact hx
   ·exact h1 y hy
  ·split
   ·rename_i e;subst e;exact h
   ·rename_i hx hne
    have hrx:=uB (by simpa using hx) hne
    refine List.pairwise_cons.2 ⟨fun y hy=>?_,h⟩
    rcases List.mem_cons.1 hy with rfl | hy
    ·exact hrx
    ·exact uC hrx (h1 y hy)
def stepW(p:List Mod)(f:aD)(o:List aD)(e:Exp):List aD:=if lC p f e=true then xC o (xY f e) else o
def oI(p:List Mod)(o:List aD):Prop:=NZ o∧∀ x∈o,(findR p x).isSome=true
theorem oI.len{p:List Mod}{o:List aD}(h:oI p o):o.length≤(bT p).length:=by
 have:=ek (m:=(bT p).map (·.1)) (Cn h.1) (fun x hx=>(kz p x).2 (h.2 x hx))
 simpa using this
theorem vS{p:List Mod}{f:aD}{e:Exp}(h:lC p f e=true):(findR p (xY f e)).isSome=true:=by
 unfold lC at h
 cases hf:findR p (xY f e) with
 | none=>rw[hf] at h;simp at h
 | some g=>rfl
theorem oI.put{p:List Mod}{o:List aD}(h:oI p o){r:aD}(hr:(findR p r).isSome=true):oI p (xC o r):=⟨xD r h.1,fun x hx=>by
 rcases (rj r x o).1 hx with rfl | hx
 ·exact hr
 ·exact h.2 x hx⟩
theorem oI.step{p:List Mod}{f:aD}{o:List aD}(h:oI p o)(e:Exp):oI p (stepW p f o e):=by
 unfold stepW
 split
 ·rename_i hc;exact h.put (vS hc)
 ·exact h
end Go.Av.Ap
