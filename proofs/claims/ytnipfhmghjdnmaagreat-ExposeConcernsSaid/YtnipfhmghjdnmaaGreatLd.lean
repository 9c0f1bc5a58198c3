/- The abstract evaluator of the model and plain laws, part 4: its soundness holds for every program whose table of types is the evaluator's. No further condition. -/
import Derived.Test.YtnipfhmghjdnmaaGreatLc
import Derived.Below
import Derived.Shelf.SlSortCmp.WholeK
import Derived.IntWalk
import Derived.ChangeSame
import Derived.OpenShut
import Derived.ChangeReads
import Derived.ReadAgain
import Derived.Deep.Slices
import Derived.WideShapes
import Derived.SizedLaws
import Derived.Test.YtnipfhmghjdnmaaGreatLb

/- slices.SortFunc at elements of several cells, by its contract: what it computes, and from the contract to the evaluator's post. No condition. -/
namespace Go.Av
open Go.RowKit Go.Sort Go.Proofs
section
variable [Dr]
theorem Left.grew (hd:Dr.on) {S S':Stab} {β β':List Blk} {w w':World} {h':Hp} (L:Left (HOwn [] []) S β w S' β' w' h'):∃ q os,w'=grow (w.drewN q) os:=by
 have hg:=L.gro
 have hd:=hg.cnt hd
 have hk:∀ b,b < w.heap.size→w'.heap[b]? = w.heap[b]?:=fun b hb=>(L.keep b hb (by rintro ⟨l,_,_,h1,_⟩; simp at h1)).1
 refine ⟨w'.drawn - w.drawn,w'.heap.extract w.heap.size w'.heap.size,?_⟩
 have e1:w.heap++w'.heap.extract w.heap.size w'.heap.size=w'.heap:=by
  apply Array.ext_getElem?
  intro i
  by_cases hi:i < w.heap.size
  ·rw [Array.getElem?_append_left hi,hk i hi]
  ·rw [Array.getElem?_append_right (by omega),Array.getElem?_extract]
   split
   ·rw [show w.heap.size + (i - w.heap.size)=i by omega]
   ·rw [Array.getElem?_eq_none (by omega)]
 have e2:w.drawn + (w'.drawn - w.drawn)=w'.drawn:=by omega
 obtain ⟨h1,h2,h3,h4,h5⟩:=w'
 obtain ⟨g1,g2,g3,g4,g5⟩:=w
 have a1:=hg.os; have a2:=hg.out; have a3:=hg.tape
 simp only at a1 a2 a3 e1 e2
 unfold grow World.drewN
 simp only [e1,e2,a1,a2,a3]
end
theorem flatten_get {α β:Type} (f:α→List β) (k:Nat) (hk:∀ x,(f x).length=k) (hp:0 < k):∀ (l:List α) (t:Nat),(l.map f).flatten[t]? = (l[t / k]?).bind fun x=>(f x)[t % k]?
 | [],t=>by simp
 | x :: l,t=>by
  simp only [List.map_cons,List.flatten_cons]
  by_cases h:t < k
  ·rw [List.getElem?_append_left (by rw [hk]; exact h),Nat.div_eq_of_lt h,Nat.mod_eq_of_lt h]; simp
  ·rw [List.getElem?_append_right (by rw [hk]; omega),hk,flatten_get f k hk hp l (t - k)]
   rw [Nat.div_eq_sub_div hp (by omega:k≤t),Nat.mod_eq_sub_mod (by omega:k≤t)]
   simp
theorem flatten_len {α β:Type} (f:α→List β) (k:Nat) (hk:∀ x,(f x).length=k):∀ (l:List α),(l.map f).flatten.length=l.length * k
 | []=>by simp
 | x :: l=>by simp only [List.map_cons,List.flatten_cons,List.length_append,hk,flatten_len f k hk l,List.length_cons,Nat.succ_mul]; omega
section
variable {α:Type} [Inhabited α]
theorem flatK_list (enc:α→List Value) (k:Nat) (hk:∀ x,(enc x).length=k) (hp:0 < k) (d:Array α):(flatK enc k d).toList=(d.toList.map enc).flatten:=by
 apply List.ext_getElem?
 intro t
 rw [flatten_get enc k hk hp]
 by_cases ht:t < d.size * k
 ·have hd:t / k < d.size:=by rw [Nat.div_lt_iff_lt_mul hp]; exact ht
  have hm:t % k < k:=Nat.mod_lt _ hp
  have h1:=get_flatK enc k d t ht
  rw [getElem!_pos (flatK enc k d) t (by rw [size_flatK]; exact ht),getElem!_pos d _ hd,getElem!_pos (enc _) _ (by rw [hk]; exact hm)] at h1
  rw [List.getElem?_eq_getElem (by simpa using ht),Array.getElem_toList,h1,Array.getElem?_toList,Array.getElem?_eq_getElem hd]
  simp only [Option.bind_some]
  rw [List.getElem?_eq_getElem (by rw [hk]; exact hm)]
 ·rw [List.getElem?_eq_none (by simp only [Array.length_toList,size_flatK]; omega),List.getElem?_eq_none (by simp only [Array.length_toList]; rw [Nat.le_div_iff_mul_le hp]; omega)]
  rfl
theorem putCells_list (F x:Array Value) (off:Nat) (hf:off + F.size≤x.size):putCells id off F x=(x.toList.take off++F.toList++x.toList.drop (off + F.size)).toArray:=by
 apply Array.ext_getElem?
 intro t
 unfold putCells
 simp only [Array.getElem?_mapIdx,List.getElem?_toArray]
 by_cases h1:t < off
 ·rw [List.getElem?_append_left (by simp; omega),List.getElem?_append_left (by simp; omega),List.getElem?_take,if_pos h1,Array.getElem?_toList,Array.getElem?_eq_getElem (by omega)]
  simp only [Option.map_some]
  rw [if_neg (by omega)]
 ·by_cases h2:t < off + F.size
  ·rw [List.getElem?_append_left (by simp; omega),List.getElem?_append_right (by simp; omega)]
   have e:(x.toList.take off).length=off:=by simp; omega
   rw [e,Array.getElem?_eq_getElem (by omega:t < x.size),Array.getElem?_toList,Array.getElem?_eq_getElem (by omega:t - off < F.size)]
   simp only [Option.map_some,id]
   rw [if_pos ⟨by omega,h2⟩,getElem!_pos F _ (by omega)]
  ·have e:(x.toList.take off++F.toList).length=off + F.size:=by simp; omega
   rw [List.getElem?_append_right (by rw [e]; omega),e,List.getElem?_drop,Array.getElem?_toList,show off + F.size + (t - (off + F.size))=t by omega]
   cases x[t]? with
   | none=>rfl
   | some y=>simp only [Option.map_some]; rw [if_neg (by omega)]
theorem sort_row {w:World} {b:Nat} {x:Array Value} (hr:Row w b x) (enc:α→List Value) (k off n:Nat) (d:Array α) (os:Array Obj) (hf:off + d.size * k≤x.size) :
  Row (sortWorldK enc k w b off n d os) b (x.toList.take off++(flatK enc k d).toList++x.toList.drop (off + (flatK enc k d).size)).toArray:=by
 have hlt:=hr.lt
 obtain ⟨e,he⟩:=hr
 refine ⟨e,?_⟩
 rw [← putCells_list (flatK enc k d) x off (by rw [size_flatK]; exact hf)]
 show ((w.heap.modify b (onCells (putCells id off (flatK enc k d))))++os)[b]? = _
 rw [Array.getElem?_append_left (by simpa using hlt),Array.getElem?_modify,if_pos rfl,he]
 rfl
theorem sort_other {w:World} {b b':Nat} (enc:α→List Value) (k off n:Nat) (d:Array α) (os:Array Obj) (hlt:b' < w.heap.size) (hb:b'≠b):(sortWorldK enc k w b off n d os).heap[b']? = w.heap[b']?:=by
 show ((w.heap.modify b (onCells (putCells id off (flatK enc k d))))++os)[b']? = _
 rw [Array.getElem?_append_left (by simpa using hlt),Array.getElem?_modify,if_neg (fun h=>hb h.symm)]
theorem sort_gro [Dr] {w:World} {b:Nat} (enc:α→List Value) (k off n:Nat) (d:Array α) (os:Array Obj):Gro w (sortWorldK enc k w b off n d os):=by
 refine ⟨?_,rfl,rfl,rfl,fun _=>?_⟩
 ·show _≤((w.heap.modify b (onCells (putCells id off (flatK enc k d))))++os).size
  simp
 ·show w.drawn≤w.drawn + n
  omega
end
section
variable [Dr] {S:Stab} {β:List Blk} {h:Hp} {w w':World}
theorem left_row (hw:Wf S w) (hh:HeapX S β w h) {l b nb off:Nat} {cs acs:List AV} {vs:List Value} (hcs:h[l]? = some cs) (hne:cs≠[]) (hb:β[l]? = some (b,nb)) (hb0:nb≠0) (hvs:VRs S β acs vs) (hle:off + acs.length≤cs.length) (hoc:cs.all okCell=true) (hoa:acs.all okCell=true) (hg:Gro w w')
  (hr:∀ x,Row w b x→cs.length≤x.size→Row w' b (x.toList.take off++vs++x.toList.drop (off + vs.length)).toArray) (ho:∀ b',b' < w.heap.size→b'≠b→w'.heap[b']? = w.heap[b']?) :
  Left (HOwn β h) S β w S β w' (h.set l (setCells cs off acs)):=by
 obtain ⟨hlen,ω,hH⟩:=hh
 obtain ⟨z,j1,j2,j3,j4,j5⟩:=HeapR.cells hH hcs hne hb hb0
 rw [hb] at j1; cases j1
 have hvl:=hvs.length
 have hzs:cs.length≤z.size:=by
  have:=j4.length
  simp at this
  omega
 have hrow:=hr z j2 hzs
 have hll:l < h.length:=by
  rcases Nat.lt_or_ge l h.length with k | k
  ·exact k
  ·rw [List.getElem?_eq_none k] at hcs; cases hcs
 have hown:∀ b',HOwn β (h.set l (setCells cs off acs)) b'→HOwn β h b':=by
  rintro b' ⟨l',cs',n,k1,k2,k3⟩
  by_cases hl:l'=l
  ·subst hl
   exact ⟨l',cs,n,hcs,hne,k3⟩
  ·rw [List.getElem?_set_ne (fun e=>hl e.symm)] at k1
   exact ⟨l',cs',n,k1,k2,k3⟩
 refine ⟨Stab.le_refl S,Ext.refl β,fun b' o v hv=>?_,hg,fun b' hb' hE=>?_,⟨by simpa using hlen,ω,HeapR.rows hH (Stab.le_refl S) (Ext.refl β) hlen fun l' cs' hl' hne'=>?_⟩,fun b' hb'=>.inl (hown b' hb')⟩
 ·have hne2:b'≠b:=by rintro rfl; rw [j5] at hv; cases hv
  rw [cell_of_heap (ho b' (hw.lt hv) hne2)]
  exact hw b' o v hv
 ·have hne2:b'≠b:=by rintro rfl; exact hE ⟨l,cs,_,hcs,hne,hb⟩
  exact ⟨ho b' hb' hne2,fun _=>rfl⟩
 ·by_cases hl:l'=l
  ·subst hl
   rw [List.getElem?_set_self hll] at hl'
   cases hl'
   refine .inr ⟨b,_,?_,hrow,j3,?_,j5,fun t ht=>?_⟩
   ·rw [hb]; simp; omega
   ·rw [setCells_length _ _ _ (by omega)]
    have hsp:VRs S β (setCells cs off acs) (((z.toList.take cs.length).take off++vs++(z.toList.take cs.length).drop (off + vs.length))):=by
     unfold setCells
     rw [hvl]
     exact ((j4.take off).append hvs).append (j4.drop _)
    have heq:(z.toList.take off++vs++z.toList.drop (off + vs.length)).take cs.length =
      (z.toList.take cs.length).take off++vs++(z.toList.take cs.length).drop (off + vs.length):=by
     rw [List.take_append,List.take_append]
     have e1:(z.toList.take off).length=off:=by simp; omega
     rw [List.take_take,List.take_take]
     have e2:min cs.length off=off:=by omega
     have e3:min off cs.length=off:=by omega
     rw [e2,e3,e1]
     have e4:vs.take (cs.length - off)=vs:=List.take_of_length_le (by omega)
     rw [e4]
     congr 1
     rw [List.take_drop,List.length_append,e1]
     congr 2
     omega
    show VRs S β _ (List.take _ _)
    rw [show (z.toList.take off++vs++z.toList.drop (off + vs.length)).toArray.toList=(z.toList.take off++vs++z.toList.drop (off + vs.length)) from rfl,heq]
    exact hsp
   ·rcases ht.setCells with g | g
    ·exact absurd g (nob_cells hoc t)
    ·exact absurd g (nob_cells hoa t)
  ·rw [List.getElem?_set_ne (fun e=>hl e.symm)] at hl'
   refine .inl ⟨hl',fun b2 hlt hω=>⟨hω,ho b2 hlt ?_,fun o=>id⟩⟩
   rintro rfl
   rw [j3] at hω
   cases hω
   exact hl rfl
end
structure Els (α:Type) where
 k:Nat
 ea:α→List AV
 ev:α→List Value
 dec:List AV→Option (List α)
structure ElsOK {α:Type} (X:Els α):Prop where
 pos:0 < X.k
 la:∀ x,(X.ea x).length=X.k
 lv:∀ x,(X.ev x).length=X.k
 one:∀ x,∀ v∈X.ev x,v.oneCell'=true
 vr:∀ (S:Stab) (β:List Blk) (x:α),VRs S β (X.ea x) (X.ev x)
 rv:∀ (S:Stab) (β:List Blk) (x:α) (vs:List Value),VRs S β (X.ea x) vs→vs=X.ev x
 dec:∀ cs l,X.dec cs=some l→cs=(l.map X.ea).flatten
theorem ElsOK.flat {α:Type} {X:Els α} (hX:ElsOK X) (S:Stab) (β:List Blk):∀ l:List α,VRs S β (l.map X.ea).flatten (l.map X.ev).flatten
 | []=>by simp [VRs]
 | x :: l=>by simp only [List.map_cons,List.flatten_cons]; exact (hX.vr S β x).append (hX.flat S β l)
theorem VRs.split {S:Stab} {β:List Blk}:{ps qs:List AV} → {vs:List Value} → VRs S β (ps++qs) vs→∃ u v,vs=u++v∧VRs S β ps u∧VRs S β qs v
 | [],_,vs,h=>⟨[],vs,rfl,by simp [VRs],h⟩
 | _ :: ps,qs,vs,h=>by
  simp only [List.cons_append,VRs] at h
  obtain ⟨x,xs,rfl,h1,h2⟩:=h
  obtain ⟨u,v,rfl,h3,h4⟩:=VRs.split h2
  exact ⟨x :: u,v,rfl,by simp only [VRs]; exact ⟨x,u,rfl,h1,h3⟩,h4⟩
theorem ElsOK.unflat {α:Type} {X:Els α} (hX:ElsOK X) {S:Stab} {β:List Blk}:∀ (l:List α) (vs:List Value),VRs S β (l.map X.ea).flatten vs→vs=(l.map X.ev).flatten
 | [],vs,h=>by simpa [VRs] using h
 | x :: l,vs,h=>by
  simp only [List.map_cons,List.flatten_cons] at h ⊢
  obtain ⟨u,v,rfl,h1,h2⟩:=VRs.split h
  rw [hX.rv S β x u h1,hX.unflat l v h2]
def sortE {α:Type} (X:Els α) (g:Nat) (srt:List α→List α):(FuncId→List AV→M AV)→List AV→M AV:=fun _ args h=>match args with
 | [.sl [],.fn (.func g') [] []]=>bif Nat.beq g' g then .ok (.tup []) h else .fail
 | [.hs l off len sz _,.fn (.func g') [] []]=>match h[l]? with
  | none=>.fail
  | some cs=>match X.dec ((cs.drop off).take (len * X.k)) with
   | none=>.fail
   | some xs=>bif Nat.beq g' g&&Nat.beq sz X.k&&decide (0 < len)&&decide (off + len * X.k≤cs.length)&&decide (xs.length=len)&&decide (len < 4611686018427387904)&&decide ((srt xs).length=len)&&cs.all okCell&&((srt xs).map X.ea).flatten.all okCell
     then .ok (.tup []) (h.set l (setCells cs off ((srt xs).map X.ea).flatten)) else .fail
 | _=>.fail
section
variable [Dr] {α:Type} [Inhabited α] {P:Program}
theorem sort_hs {X:Els α} (hX:ElsOK X) {f g:Nat} {srt:List α→List α} (call:FuncId→List AV→M AV)
  (hcal:∀ (w:World) (blk off cap:Nat) (d:Array α),GOKw w→gN≤blk→HoldsK X.ev X.k w blk off d→blk < w.heap.size→d.size < 4611686018427387904 →
   Calls P f #[.slice (some ⟨blk,off,none⟩) d.size cap,.func (.func g) #[] #[]] w fun e w'=>e = .returned (.tuple #[])∧∃ n os,w'=sortWorldK X.ev X.k w blk off n (srt d.toList).toArray os)
  {l off len sz g':Nat} {ag:Bool} {h:Hp} {S:Stab} {β:List Blk} {w:World} {vs:List Value} (hr:sortE X g srt call [.hs l off len sz ag,.fn (.func g') [] []] h ≠ .fail) (hg:GOK β h w) (hw:Wf S w) (hh:HeapX S β w h)
  (hv:VRs S β [.hs l off len sz ag,.fn (.func g') [] []] vs):Calls P f vs.toArray w (CPost none S β h w (sortE X g srt call [.hs l off len sz ag,.fn (.func g') [] []] h)):=by
 unfold sortE at hr ⊢
 simp only at hr ⊢
 cases hl:h[l]? with
 | none=>rw [hl] at hr; exact absurd rfl hr
 | some cs =>
  rw [hl] at hr
  simp only at hr ⊢
  cases hd:X.dec ((cs.drop off).take (len * X.k)) with
  | none=>rw [hd] at hr; exact absurd rfl hr
  | some xs =>
   rw [hd] at hr
   simp only at hr ⊢
   cases hc:(Nat.beq g' g&&Nat.beq sz X.k&&decide (0 < len)&&decide (off + len * X.k≤cs.length)&&decide (xs.length=len)&&decide (len < 4611686018427387904)&&decide ((srt xs).length=len)&&cs.all okCell&&((srt xs).map X.ea).flatten.all okCell) with
   | false=>rw [hc] at hr; exact absurd rfl hr
   | true =>
    simp only [Bool.and_eq_true,decide_eq_true_eq] at hc
    obtain ⟨⟨⟨⟨⟨⟨⟨⟨c1,c2⟩,c3⟩,c4⟩,c5⟩,c6⟩,c7⟩,c8⟩,c9⟩:=hc
    obtain rfl:=Nat.eq_of_beq_eq_true c1
    obtain rfl:=Nat.eq_of_beq_eq_true c2
    simp only [cond_true]
    have hpos:=hX.pos
    have hlk:0 < len * X.k:=Nat.mul_pos c3 hpos
    have hne:cs≠[]:=by rintro rfl; simp at c4; omega
    simp only [VRs] at hv
    obtain ⟨v1,r1,rfl,hv1,v2,r2,rfl,hv2,rfl⟩:=hv
    obtain ⟨⟨b,nb⟩,cap,hb,hb0,rfl,k1,k2⟩:=hv1.hs_pos c3
    simp only [VR,VRs] at hv2
    obtain ⟨y1,y2,rfl,rfl,rfl⟩:=hv2
    have hh':=hh
    obtain ⟨hlen,ω,hH⟩:=hh
    obtain ⟨z,j1,j2,j3,j4,j5⟩:=HeapR.cells hH hl hne hb hb0
    rw [hb] at j1; cases j1
    have hzs:cs.length≤z.size:=by
     have:=j4.length
     simp at this
     omega
    have hown:HOwn β h b:=⟨l,cs,_,hl,hne,hb⟩
    have hgb:gN≤b:=by
     rcases Nat.lt_or_ge b gN with k | k
     ·exact absurd hown (hg.2 b k)
     ·exact k
    have hxs:=hX.dec _ _ hd
    have hvx:=hX.unflat (S:=S) (β:=β) xs _ (by rw [← hxs]; exact (j4.drop off).take (len * X.k))
    have hflat:=flatK_list X.ev X.k hX.lv hpos xs.toArray
    have hsz:(flatK X.ev X.k xs.toArray).size=len * X.k:=by rw [size_flatK]; simp [c5]
    have hholds:HoldsK X.ev X.k w b off xs.toArray:=by
     intro j hj
     rw [hsz] at hj
     have e1:(flatK X.ev X.k xs.toArray)[j]! = z[off + j]'(by omega):=by
      have h1:(flatK X.ev X.k xs.toArray).toList[j]? = z.toList[off + j]?:=by
       rw [hflat,show xs.toArray.toList=xs from rfl,← hvx,List.getElem?_take,if_pos hj,List.getElem?_drop,List.getElem?_take,if_pos (by omega)]
      rw [Array.getElem?_toList,Array.getElem?_toList,Array.getElem?_eq_getElem (by omega),Array.getElem?_eq_getElem (by omega)] at h1
      rw [getElem!_pos _ j (by omega)]
      exact Option.some.inj h1
     rw [e1]
     refine ⟨by rw [j2.cell,Array.getElem?_eq_getElem (by omega)]; rfl,?_⟩
     obtain ⟨e,he⟩:=j2
     simp [World.frozen?,he]
    have hcall:=hcal w b off cap xs.toArray hg.1 hgb hholds j2.lt (by simpa [c5] using c6)
    rw [show xs.toArray.size=len by simp [c5]] at hcall
    refine hcall.mono ?_
    rintro e w' ⟨rfl,n,os,rfl⟩
    have hfl2:=flatK_list X.ev X.k hX.lv hpos (srt xs).toArray
    have hs2:(flatK X.ev X.k (srt xs).toArray).size=len * X.k:=by rw [size_flatK]; simp [c7]
    have hal:((srt xs).map X.ea).flatten.length=len * X.k:=by rw [flatten_len X.ea X.k hX.la,c7]
    refine ⟨S,β,_,rfl,by simp only [VR,VRs]; exact ⟨[],rfl,rfl⟩,left_row (vs:=(flatK X.ev X.k (srt xs).toArray).toList) hw hh' hl hne hb hb0 (by rw [hfl2]; exact hX.flat S β (srt xs)) (by rw [hal]; exact c4) c8 c9 (sort_gro X.ev X.k off n _ os) (fun x hx hle=>?_) (fun b' hlt hne2=>sort_other X.ev X.k off n _ os hlt hne2),fun _ hsz=>by cases hsz⟩
    have:=sort_row hx X.ev X.k off n (srt xs).toArray os (by simp only [List.size_toArray,c7]; omega)
    exact this
end
end Go.Av

/- References, the index of a program, references in order: plain functions, and what the evaluator knows of the functions that compute them. No condition. -/
namespace Go.Av.Ap
open Go Go.Av
abbrev Ref:=Str×Str
def refA (r:Ref):AV:=.agg [.str r.1,.str r.2]
def refsA (l:List Ref):AV:=.sl (l.map refA)
def refssA (l:List (List Ref)):AV:=.sl (l.map refsA)
@[simp] theorem acells_ref (r:Ref):acells (refA r) = [.str r.1,.str r.2]:=rfl
@[simp] theorem fold_ref (r:Ref):AV.agg [.str r.1,.str r.2] = refA r:=rfl
@[simp] theorem okEl_ref (r:Ref):okEl 2 (refA r)=true:=rfl
@[simp] theorem okSz_refs (l:List Ref):okSz 2 (l.map refA)=true:=okSz_map okEl_ref l
@[simp] theorem cl_ref (g:Nat→Nat→Nat→Nat→Bool→AV) (r:Ref):cl g (refA r)=refA r:=rfl
@[simp] theorem cl_refs (g:Nat→Nat→Nat→Nat→Bool→AV) (l:List Ref):cl g (refsA l)=refsA l:=by simp [refsA,cl,cls_map g refA (cl_ref g)]
@[simp] theorem cl_refss (g:Nat→Nat→Nat→Nat→Bool→AV) (l:List (List Ref)):cl g (refssA l)=refssA l:=by simp [refssA,cl,cls_map g refsA (cl_refs g)]
section
variable {V:Type}
def putK:List (Ref×V)→Ref→V→List (Ref×V)
 | [],k,v=>[(k,v)]
 | x :: r,k,v=>if x.1=k then (k,v) :: r else x :: putK r k v
def getK:List (Ref×V)→Ref→Option V
 | [],_=>none
 | x :: r,k=>if x.1=k then some x.2 else getK r k
def entA (f:V→AV) (x:Ref×V):AV:=.tup [refA x.1,f x.2]
def idxF (m:Str) (l:List (Str×V)) (out:List (Ref×V)):List (Ref×V):=l.foldr (fun f o=>putK o (m,f.1) f.2) out
def idxG:List (Str×List (Str×V))→List Str→List (Ref×V)→List (Ref×V)
 | [],_,out=>out
 | m :: ms,seen,out=>if m.1∈seen then idxG ms seen out else idxG ms (seen++[m.1]) (idxF m.1 m.2 out)
end
def funP:AV→Option (Str×AV)
 | .agg [.str s,.bool p,.sl l,.int .i64 k,.sl fs,.int .i64 e,.int .i64 o,.int .i64 n,.str a,.str b,.sl ns,.sl es]=>some (s,.agg [.str s,.bool p,.sl l,.int .i64 k,.sl fs,.int .i64 e,.int .i64 o,.int .i64 n,.str a,.str b,.sl ns,.sl es])
 | _=>none
def modP:AV→Option (Str×List (Str×AV))
 | .agg [.str s,.sl _,.sl _,.sl _,.sl fs,.bool _,.sl _,.sl _,.sl _]=>(fs.mapM funP).map fun l=>(s,l)
 | _=>none
def indexE:(FuncId→List AV→M AV)→List AV→M AV:=fun _ args h=>match args with
 | [.sl ms]=>(match ms.mapM modP with
  | some l=>if l.length≤1000000∧∀ m∈l,m.2.length≤1000000 then .ok (.mp h.length) (h++[[.tup ((idxG l [] []).map (entA id))]]) else .fail
  | none=>.fail)
 | _=>.fail
def ltR (a b:Ref):Bool:=strLess a.1 b.1||(a.1 == b.1&&strLess a.2 b.2)
def leR (a b:Ref):Bool:=!(ltR b a)
def insLe (x:Ref):List Ref→List Ref
 | []=>[x]
 | y :: l=>if leR x y=true then x :: y :: l else y :: insLe x l
def sortR:List Ref→List Ref
 | []=>[]
 | x :: l=>insLe x (sortR l)
def keyR:AV→Option Ref
 | .tup [.agg [.str a,.str b],_]=>some (a,b)
 | _=>none
def sortedE (gs:List Nat) (o:Nat):(FuncId→List AV→M AV)→List AV→M AV:=fun _ args h=>match args with
 | [.fn (.func g) [] [.ip [x]],.fn (.func o') [] []]=>bif memN gs g&&Nat.beq o o' then
   (match entsA h x with
   | some es=>(match es.mapM keyR with
    | some ks=>if ks.length≤1000000 then .ok (refsA (sortR ks)) h else .fail
    | none=>.fail)
   | none=>.fail) else .fail
 | _=>.fail
def cmpR (x y:Ref):Int:=if ltR x y=true then -1 else if ltR y x=true then 1 else 0
def decRef:List AV→Option (List Ref)
 | []=>some []
 | .str a :: .str b :: r=>match decRef r with
  | some l=>some ((a,b) :: l)
  | none=>none
 | _=>none
def strV (s:Str):Value:=.string ⟨s.toArray⟩
def eaRef (r:Ref):List AV:=[.str r.1,.str r.2]
def evRef (r:Ref):List Value:=[strV r.1,strV r.2]
def elsRef:Els Ref:=⟨2,eaRef,evRef,decRef⟩
theorem str_eq {x:ByteArray} {s:Str} (h:x.data.toList=s):Value.string x=strV s:=by
 unfold strV
 congr 1
 exact ByteArray.ext (Array.ext' (by rw [h]))
theorem decRef_eq:∀ (cs:List AV) (l:List Ref),decRef cs=some l→cs=(l.map eaRef).flatten:=by
 intro cs
 fun_induction decRef cs with
 | case1=>intro l h; cases h; rfl
 | case2 a b r l' h ih =>
  intro l hl
  simp only [Option.some.injEq] at hl
  subst hl
  rw [ih l' h]
  rfl
 | case3 a b r h ih=>intro l hl; cases hl
 | case4=>intro l hl; cases hl
theorem decRef_map (l:List Ref):decRef (l.map eaRef).flatten=some l:=by
 induction l with
 | nil=>rfl
 | cons x l ih =>
  simp only [List.map_cons,List.flatten_cons,eaRef,List.cons_append,List.nil_append,decRef]
  rw [show (l.map eaRef).flatten=(l.map fun r:Ref=>_).flatten from rfl] at ih
  rw [ih]
theorem elsRef_ok:ElsOK elsRef where
 pos:=by decide
 la:=fun _=>rfl
 lv:=fun _=>rfl
 one:=fun x v hv=>by
  simp only [elsRef,evRef,List.mem_cons,List.not_mem_nil,or_false] at hv
  rcases hv with rfl | rfl <;> rfl
 vr:=fun S β x=>by
  simp only [elsRef,eaRef,evRef,VRs,VR,strV]
  exact ⟨_,_,rfl,⟨_,rfl,by simp⟩,_,_,rfl,⟨_,rfl,by simp⟩,rfl⟩
 rv:=fun S β x vs h=>by
  simp only [elsRef,eaRef,VRs,VR] at h
  obtain ⟨_,_,rfl,⟨a,rfl,ha⟩,_,_,rfl,⟨b,rfl,hb⟩,rfl⟩:=h
  simp only [elsRef,evRef,str_eq ha,str_eq hb]
 dec:=decRef_eq
open Go.RowKit Go.Sort Go.Proofs in
def srtRef (l:List Ref):List Ref:=(pdq (ltOf cmpR) l.toArray 0 l.toArray.size (Lib.bitLen l.toArray.size) true true).toList
def sortRefE (o:Nat):(FuncId→List AV→M AV)→List AV→M AV:=fun call args h=>match args with
 | [.hn,.fn (.func o') [] []]=>bif Nat.beq o' o then .ok (.tup []) h else .fail
 | args=>sortE elsRef o srtRef call args h
theorem strLess_irr:∀ s:Str,strLess s s=false
 | []=>rfl
 | a :: x=>by simp [strLess,strLess_irr x]
theorem strLess_tr:∀ a b c:Str,strLess a b=true→strLess b c=true→strLess a c=true
 | _,[],_,h,_=>by simp [strLess] at h
 | _,_ :: _,[],_,h=>by simp [strLess] at h
 | [],_ :: _,_ :: _,_,_=>rfl
 | a :: x,b :: y,c :: z,h1,h2=>by
  simp only [strLess,Bool.or_eq_true,decide_eq_true_eq,Bool.and_eq_true,beq_iff_eq] at h1 h2 ⊢
  rcases h1 with h1 | ⟨rfl,h1⟩
  ·rcases h2 with h2 | ⟨rfl,h2⟩
   ·exact .inl (UInt8.lt_trans h1 h2)
   ·exact .inl h1
  ·rcases h2 with h2 | ⟨rfl,h2⟩
   ·exact .inl h2
   ·exact .inr ⟨rfl,strLess_tr x y z h1 h2⟩
theorem strLess_tot:∀ a b:Str,strLess a b=false→a≠b→strLess b a=true
 | [],[],_,h=>absurd rfl h
 | [],_ :: _,h,_=>by simp [strLess] at h
 | _ :: _,[],_,_=>rfl
 | a :: x,b :: y,h,hn=>by
  simp only [strLess,Bool.or_eq_false_iff,decide_eq_false_iff_not,Bool.and_eq_false_iff,beq_eq_false_iff_ne,Bool.or_eq_true,decide_eq_true_eq,Bool.and_eq_true,beq_iff_eq] at h ⊢
  by_cases hab:a=b
  ·subst hab
   rcases h.2 with h2 | h2
   ·exact absurd rfl h2
   ·exact .inr ⟨rfl,strLess_tot x y h2 (fun e=>hn (by rw [e]))⟩
  ·left
   have h1:=h.1
   rw [UInt8.not_lt] at h1
   exact UInt8.lt_of_le_of_ne h1 (fun e=>hab e.symm)
theorem ltR_irr (a:Ref):ltR a a=false:=by simp [ltR,strLess_irr]
theorem ltR_tr {a b c:Ref} (h1:ltR a b=true) (h2:ltR b c=true):ltR a c=true:=by
 simp only [ltR,Bool.or_eq_true,Bool.and_eq_true,beq_iff_eq] at *
 rcases h1 with h1 | ⟨e1,h1⟩ <;> rcases h2 with h2 | ⟨e2,h2⟩
 ·exact .inl (strLess_tr _ _ _ h1 h2)
 ·exact .inl (by rw [← e2]; exact h1)
 ·exact .inl (by rw [e1]; exact h2)
 ·exact .inr ⟨by rw [e1,e2],strLess_tr _ _ _ h1 h2⟩
theorem ltR_tot {a b:Ref} (h:ltR a b=false) (hn:a≠b):ltR b a=true:=by
 simp only [ltR,Bool.or_eq_false_iff,Bool.and_eq_false_iff,beq_eq_false_iff_ne,Bool.or_eq_true,Bool.and_eq_true,beq_iff_eq] at *
 by_cases e:a.1=b.1
 ·rcases h.2 with h2 | h2
  ·exact absurd e h2
  ·exact .inr ⟨e.symm,strLess_tot _ _ h2 (fun e2=>hn (Prod.ext e e2))⟩
 ·exact .inl (strLess_tot _ _ h.1 e)
theorem ltR_asym {a b:Ref} (h:ltR a b=true):ltR b a=false:=by
 cases hb:ltR b a with
 | false=>rfl
 | true=>have:=ltR_tr h hb; rw [ltR_irr] at this; cases this
theorem leR_tr {a b c:Ref} (h1:leR a b=true) (h2:leR b c=true):leR a c=true:=by
 simp only [leR,Bool.not_eq_true'] at *
 cases h3:ltR c a with
 | false=>rfl
 | true =>
  by_cases e:b=c
  ·subst e; rw [h3] at h1; cases h1
  ·have:=ltR_tot h2 (fun e'=>e e'.symm)
   have:=ltR_tr this h3
   rw [this] at h1; cases h1
theorem leR_tot (a b:Ref):(leR a b||leR b a)=true:=by
 simp only [leR,Bool.or_eq_true,Bool.not_eq_true']
 cases h:ltR b a with
 | false=>exact .inl rfl
 | true=>exact .inr (ltR_asym h)
theorem leR_anti {a b:Ref} (h1:leR a b=true) (h2:leR b a=true):a=b:=by
 simp only [leR,Bool.not_eq_true'] at *
 by_cases e:a=b
 ·exact e
 ·have:=ltR_tot h2 e
  rw [this] at h1; cases h1
theorem insLe_perm (x:Ref):∀ l:List Ref,(insLe x l).Perm (x :: l)
 | []=>.refl _
 | y :: l=>by
  simp only [insLe]
  split
  ·exact .refl _
  ·exact ((insLe_perm x l).cons y).trans (.swap x y l)
theorem sortR_perm:∀ l:List Ref,(sortR l).Perm l
 | []=>.refl _
 | x :: l=>(insLe_perm x (sortR l)).trans ((sortR_perm l).cons x)
theorem insLe_sorted (x:Ref):∀ l:List Ref,l.Pairwise (fun a b=>leR a b=true)→(insLe x l).Pairwise fun a b=>leR a b=true
 | [],_=>by simp [insLe]
 | y :: l,h=>by
  obtain ⟨h1,h2⟩:=List.pairwise_cons.1 h
  simp only [insLe]
  split
  ·rename_i hxy
   refine List.pairwise_cons.2 ⟨fun z hz=>?_,h⟩
   rcases List.mem_cons.1 hz with rfl | hz
   ·exact hxy
   ·exact leR_tr hxy (h1 z hz)
  ·rename_i hxy
   refine List.pairwise_cons.2 ⟨fun z hz=>?_,insLe_sorted x l h2⟩
   rcases List.mem_cons.1 ((insLe_perm x l).mem_iff.1 hz) with rfl | hz
   ·have:=leR_tot y z
    rw [Bool.or_eq_true] at this
    exact this.resolve_right hxy
   ·exact h1 z hz
theorem sortR_sorted:∀ l:List Ref,(sortR l).Pairwise fun a b=>leR a b=true
 | []=>.nil
 | x :: l=>insLe_sorted x _ (sortR_sorted l)
theorem sorted_one {l l':List Ref} (hp:l.Perm l') (h:l.Pairwise fun a b=>leR a b=true) (h':l'.Pairwise fun a b=>leR a b=true):l=l' :=
 hp.eq_of_pairwise (fun _ _ _ _ h1 h2=>leR_anti h1 h2) h h'
theorem sortR_of_perm {l l':List Ref} (hp:l.Perm l'):sortR l=sortR l' :=
 sorted_one ((sortR_perm l).trans (hp.trans (sortR_perm l').symm)) (sortR_sorted l) (sortR_sorted l')
open Go.RowKit Go.Sort Go.Proofs in
theorem ltOf_cmpR (x y:Ref):ltOf cmpR x y=ltR x y:=by
 unfold ltOf cmpR
 cases h:ltR x y with
 | true=>simp
 | false=>cases h2:ltR y x <;> simp
open Go.RowKit Go.Sort Go.Proofs in
theorem swoR:SWO (ltOf cmpR) where
 irrefl:=fun x=>by rw [ltOf_cmpR]; exact ltR_irr x
 trans:=fun x y z h1 h2=>by rw [ltOf_cmpR] at *; exact ltR_tr h1 h2
 ntrans:=fun x y z h1 h2=>by
  rw [ltOf_cmpR] at *
  have:=leR_tr (a:=z) (b:=y) (c:=x) (by simp [leR,h2]) (by simp [leR,h1])
  simpa [leR] using this
open Go.RowKit Go.Sort Go.Proofs in
theorem srtRef_ok (l:List Ref):(srtRef l).Perm l∧(srtRef l).Pairwise (fun a b=>leR a b=true):=by
 have h:=pdq_sorts (ltOf cmpR) swoR l.toArray 0 l.toArray.size (Lib.bitLen l.toArray.size) true true (Nat.zero_le _) (Nat.le_refl _) (Or.inl rfl)
 obtain ⟨⟨hs,_,hp⟩,ho⟩:=h
 unfold srtRef
 generalize pdq (ltOf cmpR) l.toArray 0 l.toArray.size (Lib.bitLen l.toArray.size) true true=d at hs hp ho
 refine ⟨?_,?_⟩
 ·rw [← hs,Array.extract_size,hs,Array.extract_size] at hp
  exact hp
 ·rw [List.pairwise_iff_getElem]
  intro i j hi hj hij
  simp only [Array.length_toList] at hi hj
  have:=ho i j (Nat.zero_le _) hij (by omega)
  rw [getElem!_pos d i hi,getElem!_pos d j hj,ltOf_cmpR] at this
  simp only [Array.getElem_toList,leR,this]
  rfl
theorem srtRef_eq (l:List Ref):srtRef l=sortR l:=sorted_one ((srtRef_ok l).1.trans (sortR_perm l).symm) (srtRef_ok l).2 (sortR_sorted l)
theorem sortR_len (l:List Ref):(sortR l).length=l.length:=(sortR_perm l).length_eq
end Go.Av.Ap

/- A function that copies a slice, told of its argument's three forms. Conditions: what the evaluator gives for each form. -/
namespace Go.Av
variable [Dr]
theorem clone_sound {P:Program} {cx:Cx} (hT:TOK P cx.T) (hC:CallsOK P cx.own cx.call) (hI:IsoCall cx) {f:FuncId} {fn:Func} (hf:P.funcs[f]? = some fn) (hnt:cx.nt=fn.ntmps) {E:List AV→Hp→R AV}
  (h0:∀ h,E [] h = .ok (.sl []) h) (h1:∀ e es h,evBody cx (fixM 0) fn none [.sl (e :: es)] h=E (e :: es) h) (h2:∀ h,evBody cx (fixM 0) fn none [.hn] h = .ok (.sl []) h)
  (h3:∀ l off h,evBody cx (fixM 0) fn none [.hs l off 0 1 false] h = .ok (.sl []) h) {es:List AV} {h:Hp} {S:Stab} {β:List Blk} {w:World} {vs:List Value}
  (hr:E es h ≠ .fail) (hg:GOK β h w) (hw:Wf S w) (hh:HeapX S β w h) (hv:VRs S β [.sl es] vs):Calls P f vs.toArray w (CPost none S β h w (E es h))∧fn.body.isSome=true:=by
 cases es with
 | cons e es =>
  rw [← h1] at hr ⊢
  exact body_sound hT hC hI 0 hf hnt hr hg hw hh hv
 | nil =>
  rw [h0]
  simp only [VRs] at hv
  obtain ⟨v,_,rfl,hv,rfl⟩:=hv
  have hv0:=hv
  simp only [VR] at hv
  obtain ⟨a,cap,rfl,hc,hn,hq⟩:=hv
  cases a with
  | none =>
   have hcap:=hn rfl
   subst hcap
   have hv2:VRs S β [.hn] [.slice none ([]:List AV).length 0]:=by simp [VRs,VR]
   have:=body_sound (own:=none) hT hC hI 0 hf hnt (args:=[.hn]) (h:=h) (by rw [h2]; simp) hg hw hh hv2
   rw [h2] at this
   exact this
  | some q =>
   obtain ⟨hs,_⟩:=hq q rfl
   have hX:HeapX S [(q.block,q.off + cap)] w [[]]:=⟨rfl,fun _=>.no,fun l cs hl hne=>by
    cases l with
    | zero=>simp at hl; exact absurd hl hne
    | succ l=>simp at hl⟩
   have hE:∀ b,¬ HOwn [(q.block,q.off + cap)] [[]] b:=by
    rintro b ⟨l,cs,n,k1,k2,_⟩
    cases l with
    | zero=>simp at k1; exact k2 k1
    | succ l=>simp at k1
   have hv2:VRs S [(q.block,q.off + cap)] [.hs 0 q.off 0 1 false] [.slice (some q) ([]:List AV).length cap]:=by
    simp only [VRs,VR]
    rcases Nat.eq_zero_or_pos cap with h0 | h0
    ·subst h0
     exact ⟨_,_,rfl,.inr ⟨trivial,q,rfl⟩,rfl⟩
    ·have hq':q=⟨q.block,q.off,none⟩:=by
      have:=hs h0
      cases q; simp_all
     exact ⟨_,_,rfl,.inl ⟨(q.block,q.off + cap),cap,rfl,(by show q.off + cap≠0; omega),by rw [← hq']; rfl,Nat.zero_le _,by simp⟩,rfl⟩
   have:=body_sound (own:=none) hT hC hI 0 hf hnt (args:=[.hs 0 q.off 0 1 false]) (h:=[[]]) (by rw [h3]; simp) ⟨hg.1,fun b _=>hE b⟩ hw hX hv2
   rw [h3] at this
   refine ⟨this.1.mono fun en w' hp=>?_,this.2⟩
   obtain ⟨S',β',v,k1,k2,k3,_⟩:=hp
   obtain ⟨S2,j1,j2,_⟩:=iso_key hw hh hE k3
   exact ⟨S2,β,v,k1,j2 (.sl []) v k2,j1,fun sz hsz=>by cases hsz⟩
end Go.Av

/- Rules by which shallow programs are simplified. No condition. -/
namespace Go.Av
attribute [simp] bnd_pure bnd_some bnd_fail bnd_throw
@[simp] theorem condM_bool {α:Type} (b:Bool) (x y:M α):condM (.bool b) x y=if b=true then x else y:=by cases b <;> rfl
def gv (b w:Bool) (y:AV):AV:=bif b == w then y else .tup []
@[simp] theorem gv_ff (y:AV):gv false false y=y:=rfl
@[simp] theorem gv_tt (y:AV):gv true true y=y:=rfl
@[simp] theorem gv_ft (y:AV):gv false true y = .tup []:=rfl
@[simp] theorem gv_tf (y:AV):gv true false y = .tup []:=rfl
@[simp high] theorem guardM_pure1 (b w:Bool) (y:AV):guardM (.bool b) w 1 (M.pure [y])=M.pure [gv b w y]:=by cases b <;> cases w <;> rfl
@[simp high] theorem guardM_gv (b w c w2:Bool) (y:AV):guardM (gv b w (.bool c)) w2 1 (M.pure [y])=M.pure [gv b w (gv c w2 y)]:=by cases b <;> cases w <;> cases c <;> cases w2 <;> rfl
@[simp high] theorem guardM_or (b w c e:Bool):guardM (.bool b) w 1 (bnd (lft (pickA (gv b w (.bool c)) (.bool true) (gv b w (gv c false (.bool e))))) fun v=>M.pure [v])=M.pure [gv b w (.bool (c||e))]:=by
 cases b <;> cases w <;> cases c <;> rfl
@[simp high] theorem guardM_and (b w c e:Bool):guardM (.bool b) w 1 (bnd (lft (pickA (gv b w (.bool c)) (gv b w (gv c true (.bool e))) (.bool false))) fun v=>M.pure [v])=M.pure [gv b w (.bool (c&&e))]:=by
 cases b <;> cases w <;> cases c <;> rfl
@[simp high] theorem pickA_and (b c:Bool):pickA (.bool b) (gv b true (.bool c)) (.bool false)=some (.bool (b&&c)):=by cases b <;> rfl
@[simp high] theorem pickA_or (b c:Bool):pickA (.bool b) (.bool true) (gv b false (.bool c))=some (.bool (b||c)):=by cases b <;> rfl
@[simp] theorem guardM_skip1 (w:Bool) (n:Nat) (m:M (List AV)):guardM (.bool !w) w n m=M.pure (List.replicate n (.tup [])):=by cases w <;> rfl
@[simp] theorem guardM_take1 (w:Bool) (n:Nat) (m:M (List AV)):guardM (.bool w) w n m=m:=by cases w <;> rfl
@[simp] theorem guardM_ft (n:Nat) (m:M (List AV)):guardM (.bool false) true n m=M.pure (List.replicate n (.tup [])):=rfl
@[simp] theorem guardM_tf (n:Nat) (m:M (List AV)):guardM (.bool true) false n m=M.pure (List.replicate n (.tup [])):=rfl
@[simp] theorem guardM_tup (w:Bool) (n:Nat) (m:M (List AV)):guardM (.tup []) w n m=M.pure (List.replicate n (.tup [])):=rfl
@[simp] theorem pickA_true (x y:AV):pickA (.bool true) x y=some x:=rfl
@[simp] theorem pickA_false (x y:AV):pickA (.bool false) x y=some y:=rfl
@[simp] theorem nth_zero (x:AV) (l:List AV):nth (x :: l) 0=x:=rfl
@[simp] theorem nth_succ (x:AV) (l:List AV) (n:Nat):nth (x :: l) (n + 1)=nth l n:=rfl
@[simp] theorem jn_def {α:Type} (k:List AV→M α) (m:(List AV→M α)→M α):jn k m=m k:=rfl
@[simp] theorem noPan_pure {α:Type} (a:α):noPan (M.pure a)=M.pure a:=rfl
@[simp] theorem unA_not (b:Bool):unA .not (.bool b)=some (.bool !b):=rfl
@[simp] theorem extractA_tup (l:List AV) (i:Nat):extractA (.tup l) i=l[i]?:=rfl
@[simp] theorem mkIface_nil:True:=trivial
@[simp] theorem nilChkA_hp (l k:Nat):nilChkA (.hp l k)=some (.hp l k):=rfl
@[simp] theorem nilChkA_ip (cs:List AV):nilChkA (.ip cs)=some (.ip cs):=rfl
@[simp] theorem acells_str (s:List UInt8):acells (.str s) = [.str s]:=rfl
@[simp] theorem acells_int (k:IntKind) (n:Int):acells (.int k n) = [.int k n]:=rfl
@[simp] theorem acells_agg (cs:List AV):acells (.agg cs)=cs:=rfl
@[simp] theorem bin_add (T:TT) (t:Nat) (a b:Int):binA T .add t (.int .i64 a) (.int .i64 b)=some (.int .i64 (IntKind.i64.wrap (a + b))):=rfl
@[simp] theorem bin_sub (T:TT) (t:Nat) (a b:Int):binA T .sub t (.int .i64 a) (.int .i64 b)=some (.int .i64 (IntKind.i64.wrap (a - b))):=rfl
@[simp] theorem bin_mul (T:TT) (t:Nat) (a b:Int):binA T .mul t (.int .i64 a) (.int .i64 b)=some (.int .i64 (IntKind.i64.wrap (a * b))):=rfl
@[simp] theorem bin_lss (T:TT) (t:Nat) (a b:Int):binA T .lss t (.int .i64 a) (.int .i64 b)=some (.bool (decide (a < b))):=rfl
@[simp] theorem bin_leq (T:TT) (t:Nat) (a b:Int):binA T .leq t (.int .i64 a) (.int .i64 b)=some (.bool (decide (a≤b))):=rfl
@[simp] theorem bin_gtr (T:TT) (t:Nat) (a b:Int):binA T .gtr t (.int .i64 a) (.int .i64 b)=some (.bool (decide (b < a))):=rfl
@[simp] theorem bin_geq (T:TT) (t:Nat) (a b:Int):binA T .geq t (.int .i64 a) (.int .i64 b)=some (.bool (decide (b≤a))):=rfl
@[simp] theorem bin_eql (T:TT) (t:Nat) (a b:Int):binA T .eql t (.int .i64 a) (.int .i64 b)=some (.bool (a == b)):=rfl
@[simp] theorem bin_neq (T:TT) (t:Nat) (a b:Int):binA T .neq t (.int .i64 a) (.int .i64 b)=some (.bool (a != b)):=rfl
@[simp] theorem str_eql (T:TT) (t:Nat) (a b:List UInt8):binA T .eql t (.str a) (.str b)=some (.bool (a == b)):=rfl
@[simp] theorem str_neq (T:TT) (t:Nat) (a b:List UInt8):binA T .neq t (.str a) (.str b)=some (.bool !(a == b)):=rfl
@[simp] theorem str_lss (T:TT) (t:Nat) (a b:List UInt8):binA T .lss t (.str a) (.str b)=some (.bool (strLess a b)):=rfl
@[simp] theorem str_geq (T:TT) (t:Nat) (a b:List UInt8):binA T .geq t (.str a) (.str b)=some (.bool !(strLess a b)):=rfl
@[simp] theorem cellsM_of {n:Nat} {x:AV} (h:okEl n x=true):cellsM n x=M.pure (.agg (acells x)):=by
 unfold cellsM cellsN
 rw [h]
 rfl
@[simp] theorem cellsNil_of {n:Nat} {x:AV} (h:okEl n x=true):cellsNil n [] x=M.pure (.agg (acells x)):=by
 unfold cellsNil cellsN
 rw [h]
 rfl
@[simp] theorem minsA_one (b:Bool) (x:AV):minsA b [x] = some x:=by simp [minsA]
@[simp] theorem minsA_two (b:Bool) (a c:Int):minsA b [.int .i64 a,.int .i64 c] = some (.int .i64 (if b=true then max a c else min a c)):=by
 cases b
 ·simp only [minsA,minA,cond_false]
  congr 2
  simp only [Int.min_def]
  split <;> split <;> simp_all <;> omega
 ·simp only [minsA,minA,cond_true]
  congr 2
  simp only [Int.max_def]
  split <;> split <;> simp_all <;> omega
theorem wrap_in {x:Int} (h1:-9223372036854775808≤x) (h2:x≤9223372036854775807):IntKind.i64.wrap x=x:=IntWalk.i64_in _ ⟨h1,h2⟩
theorem wrap_add1 {n:Nat} (h:n≤4611686018427387904):IntKind.i64.wrap ((n:Int) + 1)=((n + 1:Nat):Int):=by
 rw [IntWalk.i64_in _ (by omega)]; omega
namespace Ap
mutual
def Val.sz:Val→Nat
 | .mk _ _ ns vs=>1 + ns.length + valsSz vs
def valsSz:List Val→Nat
 | []=>0
 | v :: vs=>v.sz + valsSz vs
end
theorem valsSz_mem:{l:List Val} → {v:Val} → v∈l→v.sz≤valsSz l
 | w :: l,v,h=>by
  simp only [valsSz]
  rcases List.mem_cons.1 h with rfl | h
  ·omega
  ·have:=valsSz_mem h; omega
theorem Val.sz_pos (v:Val):1≤v.sz:=by cases v; simp [Val.sz]; omega
theorem valsSz_len:(l:List Val)→l.length≤valsSz l
 | []=>by simp
 | v :: l=>by have:=valsSz_len l; have:=v.sz_pos; simp only [valsSz,List.length_cons]; omega
theorem Val.sz_names (v:Val):v.names.length≤v.sz:=by cases v; simp [Val.sz,Val.names]; omega
theorem Val.sz_values (v:Val):valsSz v.values < v.sz:=by cases v; simp [Val.sz,Val.values]; omega
theorem Val.sz_len (v:Val):v.values.length < v.sz:=Nat.lt_of_le_of_lt (valsSz_len _) v.sz_values
theorem Val.sz_mem {v x:Val} (h:x∈v.values):x.sz < v.sz:=Nat.lt_of_le_of_lt (valsSz_mem h) v.sz_values
end Ap
end Go.Av
namespace Go.Av
def idxAt {α:Type} (F:α→Bool):List α→Int→Int
 | [],_=>-1
 | x :: l,i=>if F x=true then i else idxAt F l (i + 1)
theorem idxAt_ge {α:Type} (F:α→Bool):(l:List α)→(i:Int)→0≤i→(0≤idxAt F l i ↔ l.any F=true)
 | [],i,_=>by simp [idxAt]
 | x :: l,i,h=>by
  simp only [idxAt]
  split
  ·rename_i hx; simp [hx,h]
  ·rename_i hx; rw [idxAt_ge F l (i + 1) (by omega)]; simp [hx]
theorem idxAt_any {α:Type} (F:α→Bool) (l:List α):decide (0≤idxAt F l 0)=l.any F:=by
 have:=idxAt_ge F l 0 (by omega)
 cases h:l.any F with
 | true=>simp [this.2 h]
 | false=>simp only [decide_eq_false_iff_not]; intro hh; rw [this.1 hh] at h; cases h
end Go.Av
namespace Go.Av
@[simp] theorem natCast_beq (a b:Nat):((a:Int) == (b:Int))=(a == b):=by rw [Bool.eq_iff_iff]; simp; omega
@[simp] theorem natCast_beq0 (a:Nat):((a:Int) == 0)=(a == 0):=by rw [Bool.eq_iff_iff]; simp
@[simp] theorem natCast_bne (a b:Nat):((a:Int) != (b:Int))=(a != b):=by rw [Bool.eq_iff_iff]; simp; omega
end Go.Av
namespace Go.Av
def all2 {α β:Type} (F:α→β→Bool):List α→List β→Bool
 | x :: l,y :: r=>F x y&&all2 F l r
 | [],[]=>true
 | _,_=>false
end Go.Av
namespace Go.Av
open Ap
@[simp high] theorem cellsM_val (x:Val):cellsM 4 (Val.av x)=M.pure (Val.av x):=by rw [cellsM_of (okEl_val x),acells_val,fold_val]
@[simp high] theorem cellsNil_val (x:Val):cellsNil 4 [] (Val.av x)=M.pure (Val.av x):=by rw [cellsNil_of (okEl_val x),acells_val,fold_val]
@[simp high] theorem cellsM_exp (x:Exp):cellsM 6 (Exp.av x)=M.pure (Exp.av x):=by rw [cellsM_of (okEl_exp x),acells_exp,fold_exp]
@[simp high] theorem cellsNil_exp (x:Exp):cellsNil 6 [] (Exp.av x)=M.pure (Exp.av x):=by rw [cellsNil_of (okEl_exp x),acells_exp,fold_exp]
@[simp high] theorem cellsM_fld (x:Fld):cellsM 3 (fldAv x)=M.pure (fldAv x):=by rw [cellsM_of (okEl_fld x),acells_fld,fold_fld]
@[simp high] theorem cellsNil_fld (x:Fld):cellsNil 3 [] (fldAv x)=M.pure (fldAv x):=by rw [cellsNil_of (okEl_fld x),acells_fld,fold_fld]
@[simp high] theorem cellsM_fun (x:Fun):cellsM 12 (Fun.av x)=M.pure (Fun.av x):=by rw [cellsM_of (okEl_fun x),acells_fun,fold_fun]
@[simp high] theorem cellsNil_fun (x:Fun):cellsNil 12 [] (Fun.av x)=M.pure (Fun.av x):=by rw [cellsNil_of (okEl_fun x),acells_fun,fold_fun]
@[simp high] theorem cellsM_mod (x:Mod):cellsM 9 (Mod.av x)=M.pure (Mod.av x):=by rw [cellsM_of (okEl_mod x),acells_mod,fold_mod]
@[simp high] theorem cellsNil_mod (x:Mod):cellsNil 9 [] (Mod.av x)=M.pure (Mod.av x):=by rw [cellsNil_of (okEl_mod x),acells_mod,fold_mod]
@[simp high] theorem cellsM_vars (x:Vars):cellsM 2 (Vars.av x)=M.pure (Vars.av x):=by rw [cellsM_of (okEl_vars x),acells_vars,fold_vars]
@[simp high] theorem cellsNil_vars (x:Vars):cellsNil 2 [] (Vars.av x)=M.pure (Vars.av x):=by rw [cellsNil_of (okEl_vars x),acells_vars,fold_vars]
@[simp high] theorem cellsM_deed (x:Deed):cellsM 3 (Deed.av x)=M.pure (Deed.av x):=by rw [cellsM_of (okEl_deed x),acells_deed,fold_deed]
@[simp high] theorem cellsNil_deed (x:Deed):cellsNil 3 [] (Deed.av x)=M.pure (Deed.av x):=by rw [cellsNil_of (okEl_deed x),acells_deed,fold_deed]
@[simp high] theorem cellsM_call (x:Ap.Call):cellsM 3 (Ap.Call.av x)=M.pure (Ap.Call.av x):=by rw [cellsM_of (okEl_call x),acells_call,fold_call]
@[simp high] theorem cellsNil_call (x:Ap.Call):cellsNil 3 [] (Ap.Call.av x)=M.pure (Ap.Call.av x):=by rw [cellsNil_of (okEl_call x),acells_call,fold_call]
@[simp high] theorem cellsM_out (x:Ap.Out):cellsM 8 (Ap.Out.av x)=M.pure (Ap.Out.av x):=by rw [cellsM_of (okEl_out x),acells_out,fold_out]
@[simp high] theorem cellsNil_out (x:Ap.Out):cellsNil 8 [] (Ap.Out.av x)=M.pure (Ap.Out.av x):=by rw [cellsNil_of (okEl_out x),acells_out,fold_out]
@[simp] theorem okEl_ty (t:Ty):okEl 2 t.av=true:=by simp [okEl,okCell,flds]
@[simp high] theorem cellsM_ty (x:Ty):cellsM 2 (Ty.av x)=M.pure (Ty.av x):=by rw [cellsM_of (okEl_ty x),acells_ty,fold_ty]
@[simp high] theorem cellsNil_ty (x:Ty):cellsNil 2 [] (Ty.av x)=M.pure (Ty.av x):=by rw [cellsNil_of (okEl_ty x),acells_ty,fold_ty]
end Go.Av
namespace Go.Av
@[simp] theorem ite_pure_bool (c:Prop) [Decidable c] (a b:Bool):(if c then (M.pure (.bool a):M AV) else M.pure (.bool b))=M.pure (.bool (if c then a else b)):=by split <;> rfl
@[simp] theorem ite_pure_int (c:Prop) [Decidable c] (a b:Int):(if c then (M.pure (.int .i64 a):M AV) else M.pure (.int .i64 b))=M.pure (.int .i64 (if c then a else b)):=by split <;> rfl
end Go.Av

/- Counting loops of shallow programs as0 plain recursions. No condition. -/
namespace Go.Av
theorem sliceA_hi {T:TT} {t e:Nat} {ti ei:TI} (ht:T t=some ti) (hk:ti.kind = .slice e) (he:T e=some ei) (es:List AV) {n:Int} (h0:0≤n) (h1:n≤es.length):sliceA T t (.sl es) none (some (.int .i64 n)) none=some (.sl (es.take n.toNat)):=by
 unfold sliceA
 rw [ht]
 simp [hk,he,boundA,h0,h1]
theorem sliceA_clip {T:TT} {t e:Nat} {ti ei:TI} (ht:T t=some ti) (hk:ti.kind = .slice e) (he:T e=some ei) (es:List AV):sliceA T t (.sl es) none (some (.int .i64 es.length)) (some (.int .i64 es.length))=some (.sl es):=by
 unfold sliceA
 rw [ht]
 simp [hk,he,boundA]
theorem sliceA_lo {T:TT} {t e:Nat} {ti ei:TI} (ht:T t=some ti) (hk:ti.kind = .slice e) (he:T e=some ei) (es:List AV) (hok:okSz ei.size es=true) {n:Int} (h0:0≤n) (h1:n≤es.length):sliceA T t (.sl es) (some (.int .i64 n)) none none=some (.sl (es.drop n.toNat)):=by
 unfold sliceA
 rw [ht]
 simp [hk,he,boundA,h0,h1,hok]
end Go.Av

/- The law's guards on sizes, as0 pure functions. No condition. -/
namespace Go.Av.Ap
open Go Go.Av
def Val.limN:Nat→Val→Prop
 | 0,_=>True
 | n + 1,v=>v.names.length≤140737488355328∧v.values.length≤140737488355328∧∀ x∈v.values,x.limN n
def Val.Lim (v:Val):Prop:=∀ n,v.limN n
def Exp.limN:Nat→Exp→Prop
 | 0,_=>True
 | n + 1,v=>v.names.length≤8796093022208∧v.args.length≤140737488355328∧∀ x∈v.args,x.limN n
def Exp.Lim (v:Exp):Prop:=∀ n,v.limN n
def Ty.limN:Nat→Ty→Prop
 | 0,_=>True
 | n + 1,v=>v.fields.length≤140737488355328∧∀ x∈v.fields,x.2.limN n
def Ty.Lim (v:Ty):Prop:=∀ n,v.limN n
theorem Val.Lim.names {v:Val} (h:v.Lim):v.names.length≤140737488355328:=(h 1).1
theorem Val.Lim.len {v:Val} (h:v.Lim):v.values.length≤140737488355328:=(h 1).2.1
theorem Val.Lim.kid {v:Val} (h:v.Lim) {x:Val} (hx:x∈v.values):x.Lim:=fun n=>(h (n + 1)).2.2 x hx
theorem Exp.Lim.names {v:Exp} (h:v.Lim):v.names.length≤8796093022208:=(h 1).1
theorem Exp.Lim.len {v:Exp} (h:v.Lim):v.args.length≤140737488355328:=(h 1).2.1
theorem Exp.Lim.kid {v:Exp} (h:v.Lim) {x:Exp} (hx:x∈v.args):x.Lim:=fun n=>(h (n + 1)).2.2 x hx
theorem Ty.Lim.len {v:Ty} (h:v.Lim):v.fields.length≤140737488355328:=(h 1).1
theorem Ty.Lim.kid {v:Ty} (h:v.Lim) {x:Fld} (hx:x∈v.fields):x.2.Lim:=fun n=>(h (n + 1)).2 x hx
structure Fun.Lim (f:Fun):Prop where
 params:f.params.length≤140737488355328
 pty:∀ x∈f.params,x.2.Lim
 result:f.result.Lim
 body:f.body.Lim
structure Mod.Lim (m:Mod):Prop where
 uses:m.uses.length≤140737488355328
 vars:m.vars.length≤140737488355328
 vty:∀ x∈m.vars,x.2.Lim
 init:m.init.length≤140737488355328
 ies:∀ e∈m.init,e.Lim
 funcs:m.funcs.length≤140737488355328
 fns:∀ f∈m.funcs,f.Lim
 old:m.old.length≤140737488355328
 oty:∀ x∈m.old,x.2.Lim
 forward:m.forward.length≤140737488355328
 fes:∀ e∈m.forward,e.Lim
 back:m.back.length≤140737488355328
 bes:∀ e∈m.back,e.Lim
end Go.Av.Ap

/- Versions, ranges, advisories and what was seen of machines, as0 abstract values. No condition. -/
namespace Go.Av.Ap
structure Ver where
 a:Int
 b:Int
 c:Int
 deriving DecidableEq,Inhabited
structure Rng where
 lo:Ver
 hi:Ver
 deriving DecidableEq,Inhabited
def Ver.av (v:Ver):AV:=.agg [.int .i64 v.a,.int .i64 v.b,.int .i64 v.c]
def Rng.av (r:Rng):AV:=.agg [.int .i64 r.lo.a,.int .i64 r.lo.b,.int .i64 r.lo.c,.int .i64 r.hi.a,.int .i64 r.hi.b,.int .i64 r.hi.c]
def vers (l:List Ver):AV:=.sl (l.map Ver.av)
def rngs (l:List Rng):AV:=.sl (l.map Rng.av)
@[simp] theorem acells_ver (v:Ver):acells v.av = [.int .i64 v.a,.int .i64 v.b,.int .i64 v.c]:=rfl
@[simp] theorem acells_rng (r:Rng):acells r.av = [.int .i64 r.lo.a,.int .i64 r.lo.b,.int .i64 r.lo.c,.int .i64 r.hi.a,.int .i64 r.hi.b,.int .i64 r.hi.c]:=rfl
@[simp] theorem fold_ver (v:Ver):AV.agg [.int .i64 v.a,.int .i64 v.b,.int .i64 v.c] = v.av:=rfl
@[simp] theorem fold_rng (r:Rng):AV.agg [.int .i64 r.lo.a,.int .i64 r.lo.b,.int .i64 r.lo.c,.int .i64 r.hi.a,.int .i64 r.hi.b,.int .i64 r.hi.c] = r.av:=rfl
@[simp] theorem cl_ver (g:Nat→Nat→Nat→Nat→Bool→AV) (v:Ver):cl g v.av=v.av:=rfl
@[simp] theorem cl_rng (g:Nat→Nat→Nat→Nat→Bool→AV) (v:Rng):cl g v.av=v.av:=rfl
@[simp] theorem cl_vers (g:Nat→Nat→Nat→Nat→Bool→AV) (l:List Ver):cl g (vers l)=vers l:=by simp [vers,cl,cls_map g Ver.av (cl_ver g)]
@[simp] theorem cl_rngs (g:Nat→Nat→Nat→Nat→Bool→AV) (l:List Rng):cl g (rngs l)=rngs l:=by simp [rngs,cl,cls_map g Rng.av (cl_rng g)]
@[simp] theorem size_ver (v:Ver):sizeA v.av=some 3:=rfl
@[simp] theorem size_rng (v:Rng):sizeA v.av=some 6:=rfl
@[simp] theorem okEl_ver (v:Ver):okEl 3 v.av=true:=rfl
@[simp] theorem okEl_rng (v:Rng):okEl 6 v.av=true:=rfl
@[simp] theorem okSz_vers (l:List Ver):okSz 3 (l.map Ver.av)=true:=okSz_map okEl_ver l
@[simp] theorem okSz_rngs (l:List Rng):okSz 6 (l.map Rng.av)=true:=okSz_map okEl_rng l
@[simp] theorem isoP_ver (v:Ver):isoP (M.pure v.av)=M.pure v.av:=isoP_pure fun g=>cl_ver g v
@[simp] theorem isoP_rng (v:Rng):isoP (M.pure v.av)=M.pure v.av:=isoP_pure fun g=>cl_rng g v
@[simp] theorem isoP_vers (v:List Ver):isoP (M.pure (vers v))=M.pure (vers v):=isoP_pure fun g=>cl_vers g v
@[simp] theorem isoP_rngs (v:List Rng):isoP (M.pure (rngs v))=M.pure (rngs v):=isoP_pure fun g=>cl_rngs g v
@[simp high] theorem cellsM_ver (x:Ver):cellsM 3 x.av=M.pure x.av:=by rw [cellsM_of (okEl_ver x),acells_ver,fold_ver]
@[simp high] theorem cellsNil_ver (x:Ver):cellsNil 3 [] x.av=M.pure x.av:=by rw [cellsNil_of (okEl_ver x),acells_ver,fold_ver]
@[simp high] theorem cellsM_rng (x:Rng):cellsM 6 x.av=M.pure x.av:=by rw [cellsM_of (okEl_rng x),acells_rng,fold_rng]
@[simp high] theorem cellsNil_rng (x:Rng):cellsNil 6 [] x.av=M.pure x.av:=by rw [cellsNil_of (okEl_rng x),acells_rng,fold_rng]
structure Seen where
 prog:List Mod
 vsns:List Ver
 calls:List Call
 whole:Bool
 deriving Inhabited
structure Adv where
 id:Int
 name:Str
 ranges:List Rng
 func:Str
 cond:Exp
 deriving Inhabited
def Seen.av (s:Seen):AV:=.agg [mods s.prog,vers s.vsns,Ap.calls s.calls,.bool s.whole]
def Adv.av (a:Adv):AV:=.agg ([.int .i64 a.id,.str a.name,rngs a.ranges,.str a.func]++a.cond.cells)
structure CallLim (c:Call):Prop where
 len:c.args.length≤140737488355328
 args:∀ v∈c.args,v.Lim
structure Seen.Lim (s:Seen):Prop where
 len:s.prog.length≤140737488355328
 mods:∀ m∈s.prog,m.Lim
 vsns:s.vsns.length≤140737488355328
 lenc:s.calls.length≤140737488355328
 calls:∀ c∈s.calls,CallLim c
structure Adv.Lim (a:Adv):Prop where
 ranges:a.ranges.length≤140737488355328
 cond:a.cond.Lim
def seens (l:List Seen):AV:=.sl (l.map Seen.av)
@[simp] theorem acells_seen (s:Seen):acells s.av = [mods s.prog,vers s.vsns,Ap.calls s.calls,.bool s.whole]:=rfl
@[simp] theorem fold_seen (s:Seen):AV.agg [mods s.prog,vers s.vsns,Ap.calls s.calls,.bool s.whole] = s.av:=rfl
@[simp] theorem acells_adv (a:Adv):acells a.av = [.int .i64 a.id,.str a.name,rngs a.ranges,.str a.func,.int .i64 a.cond.op,.int .i64 a.cond.n,.str a.cond.s,.str a.cond.m,strs a.cond.names,exps a.cond.args]:=by
 obtain ⟨i,n,r,f,c⟩:=a
 cases c
 rfl
@[simp] theorem fold_adv (a:Adv):AV.agg [.int .i64 a.id,.str a.name,rngs a.ranges,.str a.func,.int .i64 a.cond.op,.int .i64 a.cond.n,.str a.cond.s,.str a.cond.m,strs a.cond.names,exps a.cond.args] = a.av:=by
 obtain ⟨i,n,r,f,c⟩:=a
 cases c
 rfl
@[simp] theorem cl_seen (g:Nat→Nat→Nat→Nat→Bool→AV) (s:Seen):cl g s.av=s.av:=by
 unfold Seen.av
 simp only [cl,cls,cl_mods,cl_vers,cl_calls]
@[simp] theorem cl_adv (g:Nat→Nat→Nat→Nat→Bool→AV) (a:Adv):cl g a.av=a.av:=by
 rw [← fold_adv]
 simp only [cl,cls,cl_rngs,cl_strs,cl_exps]
@[simp] theorem cl_seens (g:Nat→Nat→Nat→Nat→Bool→AV) (l:List Seen):cl g (seens l)=seens l:=by simp [seens,cl,cls_map g Seen.av (cl_seen g)]
@[simp] theorem size_seen (v:Seen):sizeA v.av=some 4:=rfl
@[simp] theorem okEl_seen (v:Seen):okEl 4 v.av=true:=rfl
@[simp] theorem okSz_seens (l:List Seen):okSz 4 (l.map Seen.av)=true:=okSz_map okEl_seen l
@[simp high] theorem cellsM_seen (x:Seen):cellsM 4 x.av=M.pure x.av:=by rw [cellsM_of (okEl_seen x),acells_seen,fold_seen]
@[simp high] theorem cellsNil_seen (x:Seen):cellsNil 4 [] x.av=M.pure x.av:=by rw [cellsNil_of (okEl_seen x),acells_seen,fold_seen]
@[simp] theorem okEl_adv (v:Adv):okEl 10 v.av=true:=by
 rw [← fold_adv]
 rfl
@[simp high] theorem cellsM_adv (x:Adv):cellsM 10 x.av=M.pure x.av:=by rw [cellsM_of (okEl_adv x),acells_adv,fold_adv]
@[simp high] theorem cellsNil_adv (x:Adv):cellsNil 10 [] x.av=M.pure x.av:=by rw [cellsNil_of (okEl_adv x),acells_adv,fold_adv]
end Go.Av.Ap

/- From a contract to the evaluator's post. No condition. -/
namespace Go.Av
variable [Dr]
open Go.RowKit
section
variable {S:Stab} {β:List Blk} {h:Hp} {w w':World}
omit [Dr] in
theorem HeapX.below (hh:HeapX S β w h) {S':Stab} (hb:∀ b,b < w.heap.size→w'.heap[b]? = w.heap[b]? ∧ ∀ o,S' b o=S b o) (hle:S.le S'):HeapX S' β w' h:=by
 obtain ⟨hlen,ω,hr⟩:=hh
 exact ⟨hlen,ω,hr.rows hle (Ext.refl β) hlen fun l cs hl _=>.inl ⟨hl,fun b hlt ho=>⟨ho,(hb b hlt).1,fun o h=>by rw [(hb b hlt).2]; exact h⟩⟩⟩
theorem left_below (hw:Wf S w) (hh:HeapX S β w h) (hb:Below w.heap.size w w') (hd:Dr.on→w.drawn≤w'.drawn) {S':Stab} (hS:∀ b,b < w.heap.size→∀ o,S' b o=S b o) (hnew:∀ b o v,w.heap.size≤b→S' b o=some v→w'.cell? ⟨b,o,none⟩=some v) :
  Left (HOwn β h) S β w S' β w' h:=by
 have hle:S.le S':=fun b o v hv=>by rw [hS b (hw.lt hv)]; exact hv
 refine ⟨hle,Ext.refl β,fun b o v hv=>?_,⟨hb.size,hb.os,hb.output,hb.tape,hd⟩,fun b hlt _=>⟨hb.block b hlt,hS b hlt⟩,hh.below (fun b hlt=>⟨hb.block b hlt,hS b hlt⟩) hle,fun b hb=>.inl hb⟩
 rcases Nat.lt_or_ge b w.heap.size with hlt | hge
 ·rw [hS b hlt] at hv
  rw [cell_of_heap (hb.block b hlt)]
  exact hw b o v hv
 ·exact hnew b o v hge hv
theorem cpost_below (hw:Wf S w) (hh:HeapX S β w h) (hb:Below w.heap.size w w') (hd:Dr.on→w.drawn≤w'.drawn) {r:AV} {v:Value} (hv:VR S β r v):CPost none S β h w (.ok r h) (.returned v) w' :=
 ⟨S,β,v,rfl,hv,left_below hw hh hb hd (fun _ _ _=>rfl) (fun b o v hge hv=>by have:=hw.lt hv; omega),fun sz hsz=>by cases hsz⟩
theorem cpost_row (hw:Wf S w) (hh:HeapX S β w h) (hb:Below w.heap.size w w') (hd:Dr.on→w.drawn≤w'.drawn) {n:Nat} {x:Array Value} (hr:Row w' n x) (hn:w.heap.size≤n) {r:AV} {v:Value} (hv:VR (S.withRowTo n x.size x) β r v):CPost none S β h w (.ok r h) (.returned v) w' :=
 ⟨_, β,v,rfl,hv,left_below hw hh hb hd (fun b hlt o=>by unfold Stab.withRowTo; rw [if_neg (by omega)]) (fun b o v hge hv=>by
  by_cases hbn:b=n
  ·subst hbn
   unfold Stab.withRowTo at hv
   rw [if_pos rfl] at hv
   split at hv
   ·rw [hr.cell]; exact hv
   ·cases hv
  ·unfold Stab.withRowTo at hv
   rw [if_neg hbn] at hv
   have:=hw.lt hv; omega),fun sz hsz=>by cases hsz⟩
theorem left_map (hw:Wf S w) (hh:HeapX S β w h) (hb:Below w.heap.size w w') (hd:Dr.on→w.drawn≤w'.drawn) {bo:Nat} {es:List AV} (hbo:w.heap.size≤bo) (hm:MapAt S β w' bo es) :
  Left (HOwn β h) S β w S (β++[(bo,0)]) w' (h++[[.tup es]]):=by
 have hext:Ext β (β++[(bo,0)]):=fun l b hb=>by rw [List.getElem?_append_left (List.getElem?_eq_some_iff.1 hb).1]; exact hb
 obtain ⟨hlen,ω,hr⟩:=hh
 have hω:∀ b,b < w.heap.size→setO ω bo (.heap h.length) b=ω b:=fun b hb=>by
  unfold setO; rw [if_neg]; rintro rfl; omega
 refine ⟨Stab.le_refl S,hext,fun b o v hv=>?_,⟨hb.size,hb.os,hb.output,hb.tape,hd⟩,fun b hlt _=>⟨hb.block b hlt,fun _=>rfl⟩,⟨by simp [hlen],setO ω bo (.heap h.length),fun l cs hl hne=>?_⟩,fun b hb=>?_⟩
 ·rw [cell_of_heap (hb.block b (hw.lt hv))]
  exact hw b o v hv
 ·rcases Nat.lt_or_ge l h.length with hlt | hge
  ·rw [List.getElem?_append_left hlt] at hl
   rcases hr l cs hl hne with ⟨b,x,k1,k2,k3,k4,k5,k6⟩ | ⟨b,k1,k2,k3,k4⟩
   ·have hbl:=k2.lt
    exact .inl ⟨b,x,hext _ _ k1,k2.of_eq (hb.block b hbl),by rw [hω b hbl]; exact k3,k4.mono (Stab.le_refl S) hext,k5,fun t ht=>by obtain ⟨y,hy⟩:=k6 t ht; exact ⟨y,(hb.block b hbl).trans hy⟩⟩
   ·have hbl:=k4.lt
    refine .inr ⟨b,hext _ _ k1,by rw [hω b hbl]; exact k2,k3,k4.keep (Stab.le_refl S) hext (hb.block b hbl) fun j b' es' hj he=>?_⟩
    have hjl:j < h.length:=by rw [← hlen]; exact (List.getElem?_eq_some_iff.1 hj).1
    rw [List.getElem?_append_left hjl] at he
    obtain ⟨_,_,g1,_⟩:=hr.mapRow he hj
    exact ⟨he,hb.block b' (Array.getElem?_eq_some_iff.1 g1).1⟩
  ·rw [List.getElem?_append_right hge] at hl
   have hlz:l=h.length:=by
    have:=(List.getElem?_eq_some_iff.1 hl).1
    simp at this
    omega
   subst hlz
   simp only [Nat.sub_self,List.getElem?_cons_zero,Option.some.injEq] at hl
   subst hl
   have hnew:(β++[(bo,0)])[h.length]? = some (bo,0):=by rw [← hlen]; simp
   obtain ⟨ents,clock,m1,m2,m3⟩:=hm
   exact .inr ⟨bo,hnew,by simp [setO],fun o=>hw.none hbo o,.inl ⟨es,rfl,ents,clock,m1,m2.mono (Stab.le_refl S) hext,m3⟩⟩
 ·obtain ⟨l,cs,n,k1,k2,k3⟩:=hb
  rcases Nat.lt_or_ge l h.length with hlt | hge
  ·rw [List.getElem?_append_left hlt] at k1
   rw [List.getElem?_append_left (by rw [hlen]; exact hlt)] at k3
   exact .inl ⟨l,cs,n,k1,k2,k3⟩
  ·have hl2:=(List.getElem?_eq_some_iff.1 k3).1
   simp at hl2
   have:l=β.length:=by omega
   subst this
   simp at k3
   exact .inr (by rw [← k3.1]; exact hbo)
theorem cpost_map (hw:Wf S w) (hh:HeapX S β w h) (hb:Below w.heap.size w w') (hd:Dr.on→w.drawn≤w'.drawn) {bo:Nat} {es:List AV} (hbo:w.heap.size≤bo) (hm:MapAt S β w' bo es) :
  CPost none S β h w (.ok (.mp h.length) (h++[[.tup es]])) (.returned (.map (some bo))) w' :=
 ⟨S,β++[(bo,0)],_,rfl,by simp only [VR]; exact ⟨(bo,0),by rw [← hh.1]; simp,rfl,rfl⟩,left_map hw hh hb hd hbo hm,fun sz hsz=>by cases hsz⟩
end
end Go.Av

/- From a call of the evaluator to the form's words. Conditions: the program is good; the package variables hold what they are said to hold. -/
namespace Go.Av
variable [Dr]
open Go.RowKit Go.WideShapes Go.ChangeShapes
theorem Left.below {S S':Stab} {β β':List Blk} {w w':World} {h':Hp} (L:Left (HOwn [] []) S β w S' β' w' h'):Below w.heap.size w w' :=
 ⟨L.gro.os,L.gro.tape,L.gro.out,L.gro.size,fun k hk=>(L.keep k hk (by rintro ⟨l,_,_,h1,_⟩; simp at h1)).1⟩
def allS (W:World):Stab:=fun b o=>W.cell? ⟨b,o,none⟩
omit [Dr] in
theorem allS_wf (W:World):Wf (allS W) W:=fun _ _ _ h=>h
omit [Dr] in
theorem gok_start {W:World} (h:GOKw W):GOK [] [] W:=⟨h,fun b _ ho=>by obtain ⟨l,_,_,h1,_⟩:=ho; simp at h1⟩
theorem law_calls {P:Program} {p:Pg} (G:GoodPg P p) (hO:OtherLim p) {f:FuncId} {args:List AV} {vs:List Value} {W:World} (hg:GOKw W) (hv:VRs (allS W) [] args vs)
  (ht:callW p f args [] = .ok (.bool true) []):Calls P f vs.toArray W fun e W'=>e = .returned (.bool true)∧Below W.heap.size W W':=by
 have h:=(callW_sound G hO f args [] (allS W) [] W vs (by rw [ht]; simp) (gok_start hg) (allS_wf W) ⟨rfl,fun _=>.no,fun l cs hl=>by simp at hl⟩ hv).1
 rw [ht] at h
 refine h.mono fun e W' hp=>?_
 obtain ⟨S',β',v,rfl,hv,L,_⟩:=hp
 simp only [VR] at hv
 subst hv
 exact ⟨rfl,L.below⟩
section
variable {H:Type} {enc:TypeId×Value→H} {P:Program}
omit [Dr] in
theorem post_of_below {f:Func} {s:ChangeSpec} {apart fresh handsOn again:Bool} {W W':World} {args:Array Value} {v:Value} {ds gs:List (DataW H)} {before pa pv:List MemPlace}
  (hW:DataW.Whole enc P f.params.toList s.vars apart W args.toList ds gs before)
  (hres:∀ (b:Nat) (sp:Nat→Bool) (hd:Bool),DataW.TrodAll enc P W' b sp hd f.resultTypes.toList (v.resultList f.resultTypes.size) (s.fn H (ds++gs)).results [])
  (hargs:∀ sp:Nat→Bool,(∀ p∈before,sp p.block=true)→DataW.TrodAll enc P W' 0 sp true f.params.toList args.toList (s.fn H (ds++gs)).args pa)
  (hvars:∀ sp:Nat→Bool,(∀ p∈before,sp p.block=true)→DataW.TrodVars enc P W' sp s.vars (s.fn H (ds++gs)).vars pv)
  (hps:before=pa++pv) (hb:Below W.heap.size W W')
  (hok:∀ (j:Nat) (t:TypeId) (r:Value),f.resultTypes[j]? = some t→(v.resultList f.resultTypes.size)[j]? = some r→Value.okWide P W' .any 0 t r) :
  s.post enc P f apart fresh handsOn again W args v W':=by
 have hlt:∀ p∈before,p.block < W.heap.size:=fun p hp=>hW.lt p hp
 have hold:∀ p∈before,(fun b=>decide (b < W.heap.size)) p.block=true:=fun p hp=>by simpa using hlt p hp
 refine ⟨ds,gs,before,[],pa,pv,hW,hres _ _ _,hargs _ hold,hvars _ hold,World.keptBut_mono (fun p hp=>⟨hp,?_⟩) (hb.frame (· ∈ before)),fun _=>?_⟩
 ·rw [hps,List.mem_append] at hp
  exact Or.inr hp
 ·obtain ⟨_,_,_,_,_,hz,hn⟩:=hW
  refine ⟨hok,_,_,([]++pa)++pv,⟨[]++pa,pv,trodAll_append (hargs _ (fun _ _=>rfl)) (hres _ _ _),hvars _ (fun _ _=>rfl),rfl,?_,?_⟩,?_⟩
  ·intro b off hp
   have hin:MemPlace.cell b off∈before:=by rw [hps]; simpa using hp
   rw [hb.frozen (hlt _ hin)]
   exact hz b off hin
  ·intro ha
   have:=hn ha
   rw [hps] at this
   simpa using this
  ·intro p hp _
   rw [hps]
   simpa using hp
end
end Go.Av

/- A call between new rows and stores to them. No condition. -/
namespace Go.Av
variable [Dr]
omit [Dr] in
theorem HeapX.grow {S:Stab} {β:List Blk} {w w':World} {h:Hp} (hh:HeapX S β w h) (hb:∀ b,b < w.heap.size→w'.heap[b]? = w.heap[b]?):HeapX S β w' h:=by
 obtain ⟨hlen,ω,hr⟩:=hh
 exact ⟨hlen,ω,hr.rows (Stab.le_refl S) (Ext.refl β) hlen fun l cs hl _=>.inl ⟨hl,fun b hb' ho=>⟨ho,hb b hb',fun o h=>h⟩⟩⟩
omit [Dr] in
theorem HeapX.low {S:Stab} {β:List Blk} {w:World} {h:Hp} (hh:HeapX S β w h) {b:Nat} (hb:HOwn β h b):b < w.heap.size:=by
 obtain ⟨_,ω,hr⟩:=hh
 obtain ⟨l,cs,n,h1,h2,h3⟩:=hb
 obtain ⟨b',x,k1,k2,_⟩:=hr.own h1 h2
 rw [h3] at k1
 cases k1
 exact k2
omit [Dr] in
theorem Wf.grow {S:Stab} {w w':World} (hw:Wf S w) (hb:∀ b,b < w.heap.size→w'.heap[b]? = w.heap[b]?):Wf S w' :=
 fun b o v hv=>by rw [cell_of_heap (hb b (hw.lt hv))]; exact hw b o v hv
theorem left_wrap {S S':Stab} {β β':List Blk} {w w2 w' w'':World} {h h':Hp} (hg:Gro w w2) (hold:∀ b,b < w.heap.size→w2.heap[b]? = w.heap[b]?) (L:Left (HOwn β h) S β w2 S' β' w' h') (hg':Gro w' w'')
  (hsame:∀ b,¬ (w.heap.size≤b∧b < w2.heap.size)→w''.heap[b]? = w'.heap[b]?) (hw:Wf S w) (hh:HeapX S β w h):Left (HOwn β h) S β w S' β' w'' h':=by
 have hs:=hg.size
 refine ⟨L.le,L.ext,fun b o v hv=>?_,(hg.trans L.gro).trans hg',fun b hb hE=>?_,?_,fun b hb=>?_⟩
 ·by_cases hb:w.heap.size≤b∧b < w2.heap.size
  ·have hE:¬ HOwn β h b:=fun ho=>by have:=hh.low ho; omega
   have:=(L.keep b hb.2 hE).2 o
   rw [this,hw.none hb.1] at hv
   cases hv
  ·rw [cell_of_heap (hsame b hb)]
   exact L.wf b o v hv
 ·have h1:=L.keep b (by omega) hE
  exact ⟨by rw [hsame b (by omega),h1.1,hold b hb],h1.2⟩
 ·obtain ⟨hlen,ω,hr⟩:=L.heap
  refine ⟨hlen,ω,hr.rowsA (Stab.le_refl S') (Ext.refl β') hlen fun l cs hl hne=>.inl ⟨hl,fun b _ ⟨n,h1⟩ h3=>⟨h3,hsame b fun hb=>?_,fun o h=>h⟩⟩⟩
  rcases L.owned b ⟨l,cs,_,hl,hne,h1⟩ with ho | ho
  ·have:=hh.low ho; omega
  ·omega
 ·rcases L.owned b hb with ho | ho
  ·exact .inl ho
  ·exact .inr (by omega)
theorem Gro.setCell (w:World) (a:Addr) (v:Value):Gro w (w.setCell a v):=⟨by simp,rfl,rfl,rfl,fun _=>Nat.le_refl _⟩
omit [Dr] in
theorem setCell_heap {w:World} {a:Addr} {v:Value} {b:Nat} (h:b≠a.block):(w.setCell a v).heap[b]? = w.heap[b]?:=by
 simp only [World.setCell,Array.getElem?_modify]
 rw [if_neg (fun e=>h e.symm)]
end Go.Av

/- Arguments that a call leaves as0 they were are read again behind it. Conditions: the program's table of types. -/
namespace Go.Av
open Go.RowKit
section
variable {H:Type} {enc:TypeId×Value→H} {P:Program} {w w':World}
theorem trodAll_carry {base:Nat} {spare:Nat→Bool} {held:Bool}:∀ {ts:List TypeId} {vs:List Value} {ds:List (DataW H)} {ps:List MemPlace},DataW.TrodAll enc P w base spare held ts vs ds ps→(∀ p∈ps,w.sameAt w' p)→DataW.TrodAll enc P w' base spare held ts vs ds ps
 | [],[],[],_,h,_=>h
 | _ :: _,_ :: _,_ :: _,_,⟨p,q,⟨n,h1⟩,h2,e⟩,hs=>⟨p,q,⟨n,DataW.trod_carry n _ _ _ h1 (fun x hx=>hs x (by rw [e]; exact List.mem_append_left _ hx))⟩,trodAll_carry h2 (fun x hx=>hs x (by rw [e]; exact List.mem_append_right _ hx)),e⟩
theorem sameAt_below (hb:Below w.heap.size w w') {p:MemPlace} (hp:p.block < w.heap.size):w.sameAt w' p:=by
 cases p with
 | cell b off =>
  have:=hb.block b hp
  show w'.cell? ⟨b,off,none⟩=w.cell? ⟨b,off,none⟩
  simp only [World.cell?,this]
 | map b=>exact hb.block b hp
theorem args_again {T:TypeId→Prop} (K:Kids P T) (hz:∀ t e,T t→P.underlying t=some (.slice e)→0 < P.cellsOf e) {ts:List TypeId} {vs:List Value} {ds:List (DataW H)} {ps:List MemPlace} (hT:∀ t∈ts,T t)
  (h:DataW.TrodAll enc P w 0 (fun _=>true) true ts vs ds ps) (hlt:∀ p∈ps,p.block < w.heap.size) (hb:Below w.heap.size w w') (sp:Nat→Bool) (hsp:∀ p∈ps,sp p.block=true):DataW.TrodAll enc P w' 0 sp true ts vs ds ps :=
 (trodAll_carry h fun p hp=>sameAt_below hb (hlt p hp)).respare K hz hT hsp
end
theorem list_of {α:Type} (Q:Nat→α→Prop):∀ n,(∀ i,i < n→∃ x,Q i x)→∃ l:List α,l.length=n∧∀ i x,l[i]? = some x→Q i x
 | 0,_=>⟨[],rfl,fun i x h=>by simp at h⟩
 | n + 1,h=>by
  obtain ⟨l,h1,h2⟩:=list_of Q n fun i hi=>h i (by omega)
  obtain ⟨y,hy⟩:=h n (by omega)
  refine ⟨l++[y],by simp [h1],fun i x hx=>?_⟩
  by_cases hi:i < n
  ·rw [List.getElem?_append_left (by omega)] at hx
   exact h2 i x hx
  ·rw [List.getElem?_append_right (by omega)] at hx
   have hin:i - l.length=0:=by
    rcases Nat.eq_zero_or_pos (i - l.length) with h | h
    ·exact h
    ·rw [List.getElem?_eq_none (by simp; omega)] at hx; cases hx
   rw [hin] at hx
   simp only [List.getElem?_cons_zero,Option.some.injEq] at hx
   subst hx
   obtain rfl:i=n:=by omega
   exact hy
end Go.Av

/- Arguments of any shape, read as0 typed values. Conditions: the program's types, as0 each rule names them. -/
namespace Go.Av
open Go.RowKit Go.WideShapes Go.ChangeShapes
section
variable {H:Type} (enc:TypeId×Value→H) (P:Program) (W:World)
def Rd {α:Type} (N:Nat) (t:TypeId) (cells:α→List AV) (Ok:α→Prop):Prop:=∀ (base:Nat) (held:Bool) (n:Nat),n < N→∀ (cs:List Value) (x:DataW H×List MemPlace),DataW.trod enc P W base (fun _=>true) held n t cs=some x→(∀ k∈x.1.weights P t,k≤reachBytes)→∃ a:α,VRs (allS W) [] (cells a) cs∧Ok a
def RdFs {α:Type} (N:Nat) (tot:Nat) (o:Nat) (fs:List Field) (cells:α→List AV) (Ok:α→Prop):Prop:=∀ (base:Nat) (held:Bool) (n:Nat),n < N→∀ (cs:List Value) (xs:List (DataW H×List MemPlace)),cs.length=tot →
 xs.length=fs.length→(∀ (i:Nat) (f:Field),fs[i]? = some f→DataW.trod enc P W base (fun _=>true) held n f.type ((cs.drop f.offset).take (P.cellsOf f.type))=xs[i]?)→(∀ k∈DataW.weightsEach P (fs.map (·.type)) (xs.map (·.1)),k≤reachBytes)→∃ a:α,VRs (allS W) [] (cells a) (cs.drop o)∧Ok a
variable {enc P W} {α β:Type} {N:Nat} {t:TypeId}
theorem Rd.zero {cells:α→List AV} {Ok:α→Prop}:Rd enc P W 0 t cells Ok:=fun _ _ n hn=>absurd hn (by omega)
theorem Rd.le {cells:α→List AV} {Ok:α→Prop} (h:Rd enc P W N t cells Ok) {M:Nat} (hm:M≤N):Rd enc P W M t cells Ok:=fun b hd n hn=>h b hd n (by omega)
theorem Rd.map {cells:α→List AV} {Ok:α→Prop} (h:Rd enc P W N t cells Ok) (g:α→β) {cells':β→List AV} {Ok':β→Prop} (hc:∀ a,cells' (g a)=cells a) (ho:∀ a,Ok a→Ok' (g a)):Rd enc P W N t cells' Ok':=by
 intro b hd n hn cs x hx hw
 obtain ⟨a,h1,h2⟩:=h b hd n hn cs x hx hw
 exact ⟨g a,by rw [hc]; exact h1,ho a h2⟩
theorem rd_bool (ht:P.underlying t=some .bool):Rd enc P W N t (fun b:Bool=>[.bool b]) (fun _=>True):=by
 intro b hd n hn cs x hx hw
 obtain ⟨b,rfl,_⟩:=DataW.trod_bool ht hx
 exact ⟨b,by simp [VRs,VR],trivial⟩
theorem rd_int {k:IntKind} (ht:P.underlying t=some (.int k)):Rd enc P W N t (fun n:Int=>[.int k n]) (fun n=>(Lit.int k n).wf=true):=by
 intro b hd n hn cs x hx hw
 obtain ⟨b,rfl,_,hwf⟩:=DataW.trod_int ht hx
 exact ⟨b,by simp [VRs,VR],hwf⟩
theorem rd_str (ht:P.underlying t=some .string):Rd enc P W N t (fun s:List UInt8=>[.str s]) (fun s=>s.length≤reachBytes):=by
 intro b hd n hn cs x hx hw
 obtain ⟨s,rfl,rfl,_⟩:=DataW.trod_string ht hx
 exact ⟨s.data.toList,by simp [VRs,VR],hw _ (by simp [DataW.weights])⟩
def ElOf (cells:α→List AV) (ev:α→AV) (sz:Nat):Prop:=∀ (a:α) (S:Stab) (β:List Blk) (vs:List Value),VRs S β (cells a) vs→vs.length=sz→∃ v,VR S β (ev a) v∧v.cells.toList=vs
theorem elOf_agg' {cells:α→List AV} {ev:α→AV} {sz:Nat} (he:∀ a,ev a = .agg (cells a)):ElOf cells ev sz:=fun a S β vs h hl=>⟨.agg vs.toArray,by rw [he]; simp only [VR]; exact ⟨vs,rfl,h⟩,by simp [Value.cells]⟩
theorem elOf_one {ev:α→AV} (ho:∀ a,okCell (ev a)=true):ElOf (fun a=>[ev a]) ev 1:=fun a S β vs h hl=>by
 simp only [VRs] at h
 obtain ⟨v,_,rfl,h,rfl⟩:=h
 exact ⟨v,h,by rw [(okCell_ok (ho a) h).1]⟩
theorem weightsAll_mem {e:TypeId}:∀ {l:List (DataW H)} {d:DataW H},d∈l→∀ k∈d.weights P e,k∈DataW.weightsAll P e l
 | x :: l,d,hd,k,hk=>by
  simp only [DataW.weightsAll,List.mem_append]
  rcases List.mem_cons.1 hd with rfl | hd
  ·exact .inl hk
  ·exact .inr (weightsAll_mem hd k hk)
theorem rd_slice {e:TypeId} {cells:α→List AV} {Ok:α→Prop} (h:Rd enc P W N e cells Ok) (ht:P.underlying t=some (.slice e)) {sz by_:Nat} (hsz:P.cellsOf e=sz) (h0:0 < sz) (hby:P.bytesOf e=by_) {ev:α→AV} (hev:ElOf cells ev sz) :
  Rd enc P W N t (fun l:List α=>[.sl (l.map ev)]) (fun l=>l.length * by_≤reachBytes∧∀ a∈l,Ok a):=by
 intro base hd n hn cs x hx hw
 rcases DataW.trod_slice ht hx with ⟨rfl,rfl⟩ | ⟨a,len,cap,elems,rest,m,rfl,rfl,rfl,hb,hle,hm,hlen,hel,hsp,_⟩
 ·exact ⟨[],by simp only [VRs,List.map_nil,VR]; exact ⟨_,_,rfl,⟨none,0,rfl,Nat.le_refl _,fun _=>rfl,fun q hq=>by cases hq⟩,rfl⟩,by simp,fun a ha=>by cases ha⟩
 obtain ⟨hrl,hre⟩:=hsp rfl
 rw [hsz] at hel hre
 simp only [DataW.weights,ht,List.mem_cons,List.mem_append,hby] at hw
 have hspot:0 < cap→a.spot=none:=by
  intro hc
  have:∃ y,(W.cells? base (a.add 0) sz).bind (DataW.trod enc P W base (fun _=>true) hd m e)=some y:=by
   by_cases h1:0 < len
   ·have:=hel 0 h1
    rw [List.getElem?_eq_getElem (by omega)] at this
    exact ⟨_,by simpa using this⟩
   ·have:=hre 0 (by omega)
    rw [List.getElem?_eq_getElem (by omega)] at this
    obtain rfl:len=0:=by omega
    exact ⟨_,by simpa using this⟩
  obtain ⟨y,hy⟩:=this
  obtain ⟨cs,hcs,_⟩:=Option.bind_eq_some_iff.1 hy
  obtain ⟨_,hl,hc⟩:=World.cells?_some hcs
  have h2:=hc 0 h0
  rw [List.getElem?_eq_getElem (by omega)] at h2
  have h3:=World.cell?_spot h2
  have e:(a.add 0).add 0=a:=by unfold Addr.add; simp
  rwa [e] at h3
 have hx:∀ i,i < len→∃ y:α,(∃ v,VR (allS W) [] (ev y) v∧v.cells.size=sz∧cellsAt (allS W) a.block (a.off + i * sz) v.cells.toList)∧Ok y:=by
  intro i hi
  have h1:=hel i hi
  rw [List.getElem?_eq_getElem (by omega)] at h1
  obtain ⟨cs,hcs,htr⟩:=Option.bind_eq_some_iff.1 h1
  obtain ⟨y,hy,hok⟩:=h base hd m (by omega) cs _ htr (fun k hk=>hw k (.inr (.inl (weightsAll_mem (List.mem_map.2 ⟨_,List.getElem_mem _,rfl⟩) k hk))))
  obtain ⟨_,hl,hc⟩:=World.cells?_some hcs
  obtain ⟨v,hv,hvc⟩:=hev y _ _ cs hy hl
  refine ⟨y,⟨v,hv,by rw [← Array.length_toList,hvc,hl],fun j u hj=>?_⟩,hok⟩
  rw [hvc] at hj
  have hjl:j < sz:=by
   rcases Nat.lt_or_ge j cs.length with h | h
   ·omega
   ·rw [List.getElem?_eq_none h] at hj; cases hj
  have h2:=hc j hjl
  rw [hj] at h2
  unfold allS
  have hs:=hspot (by omega)
  have e:(a.add (i * sz)).add j=⟨a.block,a.off + i * sz + j,none⟩:=by
   obtain ⟨b,o,s⟩:=a
   simp only at hs
   subst hs
   rw [add_plain,add_plain]
  rw [← e]
  exact h2
 obtain ⟨l,hl1,hl2⟩:=list_of (fun i y=>(∃ v,VR (allS W) [] (ev y) v∧v.cells.size=sz∧cellsAt (allS W) a.block (a.off + i * sz) v.cells.toList)∧Ok y) len hx
 refine ⟨l,?_,?_,fun y hy=>?_⟩
 ·simp only [VRs,VR,List.length_map]
  refine ⟨_,_,rfl,⟨some a,cap,by rw [hl1],by omega,(fun e=>by cases e),fun q hq=>?_⟩,rfl⟩
  cases hq
  refine ⟨hspot,sz,.of_get fun i e he=>?_⟩
  rw [List.getElem?_map,Option.map_eq_some_iff] at he
  obtain ⟨y,hy,rfl⟩:=he
  exact (hl2 i y hy).1
 ·have:=hw _ (.inl rfl)
  simp only [List.length_map] at this
  have h3:=Nat.mul_le_mul_right by_ (show l.length≤elems.length + rest.length by omega)
  omega
 ·obtain ⟨i,hi,e⟩:=List.getElem_of_mem hy
  exact (hl2 i y (by rw [List.getElem?_eq_getElem hi,e])).2
theorem rdFs_nil {tot:Nat}:RdFs enc P W N tot tot [] (fun _:Unit=>[]) (fun _=>True):=fun base hd n hn cs xs hl _ _ _=>⟨(),by simp [VRs,← hl],trivial⟩
theorem rdFs_cons {tot o k:Nat} {f:Field} {fs:List Field} {c1:α→List AV} {Ok1:α→Prop} {c2:β→List AV} {Ok2:β→Prop} (h1:Rd enc P W N f.type c1 Ok1) (ho:f.offset=o) (hk:P.cellsOf f.type=k) (h2:RdFs enc P W N tot (o + k) fs c2 Ok2) :
  RdFs enc P W N tot o (f :: fs) (fun x:α×β=>c1 x.1++c2 x.2) (fun x=>Ok1 x.1∧Ok2 x.2):=by
 intro base hd n hn cs xs hl hx hf hw
 match xs,hx with
 | x :: xs,hx =>
  have hf0:=hf 0 f rfl
  rw [ho,hk] at hf0
  simp only [List.map_cons,DataW.weightsEach,List.mem_append] at hw
  obtain ⟨a,ha,oa⟩:=h1 base hd n hn _ x hf0 fun k hk=>hw k (.inl hk)
  obtain ⟨b,hb,ob⟩:=h2 base hd n hn cs xs hl (by simpa using hx) (fun i g hg=>by simpa using hf (i + 1) g (by simpa using hg)) fun k hk=>hw k (.inr hk)
  refine ⟨(a,b),?_,oa,ob⟩
  have:=ha.append hb
  rwa [← List.drop_drop,List.take_append_drop] at this
theorem rd_struct {fs:Array Field} {tot:Nat} {cells:α→List AV} {Ok:α→Prop} (ht:P.underlying t=some (.struct fs)) (hc:P.cellsOf t=tot) (h:RdFs enc P W N tot 0 fs.toList cells Ok):Rd enc P W (N + 1) t cells Ok:=by
 intro base hd n hn cs x hx hw
 obtain ⟨xs,m,rfl,rfl,hl,hxs,hf⟩:=DataW.trod_struct ht hx
 simp only [DataW.weights,ht] at hw
 obtain ⟨a,h1,h2⟩:=h base hd m (by omega) cs xs (by rw [hl,hc]) (by simpa using hxs) (fun i f hi=>hf i f (by simpa using hi)) hw
 exact ⟨a,by simpa using h1,h2⟩
theorem rd_arg {cells:α→List AV} {Ok:α→Prop} (h:∀ N,Rd enc P W N t cells Ok) {base:Nat} {held:Bool} {v:Value} {d:DataW H} {p:List MemPlace} (hd:DataW.Trod enc P W base (fun _=>true) held t v d p) (hw:∀ k∈d.weights P t,k≤reachBytes) :
  ∃ a:α,VRs (allS W) [] (cells a) v.cells.toList∧Ok a:=by
 obtain ⟨n,hn⟩:=hd
 exact h (n + 1) base held n (by omega) _ _ hn hw
theorem arg_struct {fs:Array Field} {r:Reach} {b0:Nat} {f:α→AV} {Ok:α→Prop} {cells:α→List AV} (h:∀ N,Rd enc P W N t cells Ok) (hf:∀ a,f a = .agg (cells a)) (ht:P.underlying t=some (.struct fs)) {base:Nat} {held:Bool} {v:Value} {d:DataW H} {p:List MemPlace} (hok:Value.okWide P W r b0 t v)
  (hd:DataW.Trod enc P W base (fun _=>true) held t v d p) (hw:∀ k∈d.weights P t,k≤reachBytes):∃ a:α,VR (allS W) [] (f a) v∧Ok a:=by
 obtain ⟨cs,rfl,_⟩:=okWide_struct ht hok
 obtain ⟨a,h1,h2⟩:=rd_arg h hd hw
 refine ⟨a,?_,h2⟩
 rw [hf]
 simp only [VR]
 exact ⟨cs.toList,by simp,h1⟩
theorem each_light {ts:List TypeId} {ds:List (DataW H)} (h:(DataW.weightsEach P ts ds).all (· ≤ reachBytes)=true) {j:Nat} {u:TypeId} {d:DataW H} (ht:ts[j]? = some u) (hd:ds[j]? = some d):∀ k∈d.weights P u,k≤reachBytes:=fun k hk=>by
 have:=List.all_eq_true.1 h _ (DataW.weights_mem_each ht hd k hk)
 simpa using this
end
end Go.Av

/- What can be reached in a program, as0 plain functions: the index, calls, the order in which functions are reached. No condition. -/
namespace Go.Av.Ap
open Go Go.Av
theorem getK_put {V:Type} (k r:Ref) (v:V):∀ l:List (Ref×V),getK (putK l k v) r=if k=r then some v else getK l r
 | []=>by simp [putK,getK]
 | x :: l=>by
  simp only [putK]
  by_cases h:x.1=k
  ·subst h
   simp only [if_true,getK]
   split <;> rfl
  ·simp only [h,if_false,getK,getK_put k r v l]
   by_cases h1:x.1=r
   ·have:¬ k=r:=fun e=>h (h1.trans e.symm)
    simp [h1,this]
   ·simp [h1]
theorem getK_mem {V:Type} {l:List (Ref×V)} {r:Ref} {v:V} (h:getK l r=some v):(r,v)∈l:=by
 induction l with
 | nil=>cases h
 | cons x l ih =>
  simp only [getK] at h
  split at h
  ·rename_i e; cases h; subst e; exact List.mem_cons_self
  ·exact List.mem_cons_of_mem _ (ih h)
theorem getK_none {V:Type} {l:List (Ref×V)} {r:Ref}:getK l r=none ↔ r ∉ l.map (·.1):=by
 induction l with
 | nil=>simp [getK]
 | cons x l ih =>
  simp only [getK,List.map_cons,List.mem_cons,not_or]
  by_cases h:x.1=r
  ·simp [h]
  ·have h':¬ r=x.1:=fun e=>h e.symm
   simp [h,h',ih]
theorem getK_nodup {V:Type} {l:List (Ref×V)} (hn:(l.map (·.1)).Nodup) {r:Ref} {v:V} (h:(r,v)∈l):getK l r=some v:=by
 induction l with
 | nil=>cases h
 | cons x l ih =>
  simp only [List.map_cons,List.nodup_cons] at hn
  simp only [getK]
  rcases List.mem_cons.1 h with rfl | h
  ·simp
  ·have:¬ x.1=r:=fun e=>hn.1 (by rw [e]; exact List.mem_map_of_mem (f:=(·.1)) h)
   simp [this,ih hn.2 h]
theorem putK_keys {V:Type} (k:Ref) (v:V):∀ l:List (Ref×V),(putK l k v).map (·.1)=if k∈l.map (·.1) then l.map (·.1) else l.map (·.1)++[k]
 | []=>rfl
 | x :: l=>by
  simp only [putK]
  by_cases h:x.1=k
  ·subst h; simp
  ·have h':¬ k=x.1:=fun e=>h e.symm
   simp only [h,if_false,List.map_cons,putK_keys k v l,List.mem_cons,h',false_or]
   split <;> rfl
theorem putK_nodup {V:Type} (k:Ref) (v:V) (l:List (Ref×V)) (h:(l.map (·.1)).Nodup):((putK l k v).map (·.1)).Nodup:=by
 rw [putK_keys]
 split
 ·exact h
 ·rename_i hk
  exact List.nodup_append.2 ⟨h,by simp,fun a ha b hb e=>by simp at hb; subst hb; subst e; exact hk ha⟩
theorem putK_mem {V:Type} (k r:Ref) (v:V) (l:List (Ref×V)):r∈(putK l k v).map (·.1) ↔ r=k∨r∈l.map (·.1):=by
 rw [putK_keys]
 split
 ·rename_i h
  constructor
  ·exact .inr
  ·rintro (rfl | h2); exact h; exact h2
 ·rw [List.mem_append,List.mem_singleton]; exact ⟨fun h=>h.symm,fun h=>h.symm⟩
def findG {V:Type} (l:List (Str×List (Str×V))) (r:Ref):Option V:=match l.find? (fun m=>m.1 == r.1) with
 | some m=>(m.2.find? fun f=>f.1 == r.2).map (·.2)
 | none=>none
theorem getK_idxF {V:Type} (m:Str) (r:Ref):∀ (l:List (Str×V)) (out:List (Ref×V)),getK (idxF m l out) r=if r.1=m then (match l.find? (fun f=>f.1 == r.2) with | some f=>some f.2 | none=>getK out r) else getK out r
 | [],out=>by simp [idxF]
 | f :: l,out=>by
  have ih:=getK_idxF m r l out
  show getK (putK (idxF m l out) (m,f.1) f.2) r=_
  rw [getK_put,ih]
  by_cases h1:r.1=m
  ·by_cases h2:f.1=r.2
   ·have e:((m,f.1):Ref)=r:=Prod.ext h1.symm h2
    simp [h1,h2,e,List.find?_cons]
    rw [← h1,← h2] at *
    simp [e]
   ·have e:¬ ((m,f.1):Ref)=r:=fun e=>h2 (by rw [← e])
    have e2:(f.1 == r.2)=false:=beq_eq_false_iff_ne.2 h2
    simp [h1,e,List.find?_cons,e2]
  ·have e:¬ ((m,f.1):Ref)=r:=fun e=>h1 (by rw [← e])
   simp [h1,e]
theorem idxF_keys {V:Type} (m:Str):∀ (l:List (Str×V)) (out:List (Ref×V)) (r:Ref),r∈(idxF m l out).map (·.1) ↔ (r.1=m∧r.2∈l.map (·.1))∨r∈out.map (·.1)
 | [],out,r=>by simp [idxF]
 | f :: l,out,r=>by
  show r∈(putK (idxF m l out) (m,f.1) f.2).map (·.1) ↔ _
  rw [putK_mem,idxF_keys m l out r]
  constructor
  ·rintro (rfl | ⟨h1,h2⟩ | h)
   ·exact .inl ⟨rfl,by simp⟩
   ·exact .inl ⟨h1,by simp [h2]⟩
   ·exact .inr h
  ·rintro (⟨h1,h2⟩ | h)
   ·rcases List.mem_cons.1 h2 with h2 | h2
    ·exact .inl (Prod.ext h1 h2)
    ·exact .inr (.inl ⟨h1,h2⟩)
   ·exact .inr (.inr h)
theorem getK_idxG {V:Type} (r:Ref):∀ (l:List (Str×List (Str×V))) (seen:List Str) (out:List (Ref×V)),(∀ k∈out.map (·.1),k.1∈seen)→getK (idxG l seen out) r=if r.1∈seen then getK out r else findG l r
 | [],seen,out,ho=>by
  simp only [idxG,findG,List.find?_nil]
  split
  ·rfl
  ·rename_i h
   exact getK_none.2 fun hk=>h (ho r hk)
 | m :: l,seen,out,ho=>by
  simp only [idxG]
  by_cases hm:m.1∈seen
  ·rw [if_pos hm,getK_idxG r l seen out ho]
   split
   ·rfl
   ·rename_i h
    have:(m.1 == r.1)=false:=beq_eq_false_iff_ne.2 fun e=>h (e ▸ hm)
    simp [findG,List.find?_cons,this]
  ·rw [if_neg hm,getK_idxG r l (seen++[m.1]) (idxF m.1 m.2 out) (fun k hk=>by
    rcases (idxF_keys m.1 m.2 out k).1 hk with ⟨h,_⟩ | h
    ·simp [h]
    ·simp [ho k h]),getK_idxF]
   by_cases hr:r.1=m.1
   ·have h1:r.1∈seen++[m.1]:=by simp [hr]
    have h2:¬ r.1∈seen:=by rw [hr]; exact hm
    have h3:getK out r=none:=getK_none.2 fun hk=>h2 (ho r hk)
    have h4:(m.1 == r.1)=true:=beq_iff_eq.2 hr.symm
    rw [if_pos h1,if_neg h2,if_pos hr,h3]
    simp only [findG,List.find?_cons,h4]
    cases m.2.find? (fun f=>f.1 == r.2) <;> rfl
   ·have h4:(m.1 == r.1)=false:=beq_eq_false_iff_ne.2 fun e=>hr e.symm
    have h1:r.1∈seen++[m.1] ↔ r.1∈seen:=by simp [hr]
    simp only [h1,hr,if_false,findG,List.find?_cons,h4]
theorem idxG_nodup {V:Type}:∀ (l:List (Str×List (Str×V))) (seen:List Str) (out:List (Ref×V)),(out.map (·.1)).Nodup→((idxG l seen out).map (·.1)).Nodup
 | [],_,_,h=>h
 | m :: l,seen,out,h=>by
  simp only [idxG]
  split
  ·exact idxG_nodup l seen out h
  ·refine idxG_nodup l _ _ ?_
   have:∀ (fs:List (Str×V)),((idxF m.1 fs out).map (·.1)).Nodup:=by
    intro fs
    induction fs with
    | nil=>exact h
    | cons f fs ih=>exact putK_nodup _ _ _ ih
   exact this m.2
theorem putK_map {V W:Type} (g:V→W) (k:Ref) (v:V):∀ l:List (Ref×V),putK (l.map fun x=>(x.1,g x.2)) k (g v)=(putK l k v).map fun x=>(x.1,g x.2)
 | []=>rfl
 | x :: l=>by
  simp only [List.map_cons,putK]
  split
  ·rfl
  ·rw [putK_map g k v l]; rfl
theorem idxF_map {V W:Type} (g:V→W) (m:Str) (out:List (Ref×V)):∀ l:List (Str×V),idxF m (l.map fun x=>(x.1,g x.2)) (out.map fun x=>(x.1,g x.2))=(idxF m l out).map fun x=>(x.1,g x.2)
 | []=>rfl
 | f :: l=>by
  show putK (idxF m (l.map fun x=>(x.1,g x.2)) (out.map fun x=>(x.1,g x.2))) (m,f.1) (g f.2)=_
  rw [idxF_map g m out l,putK_map]
  rfl
theorem idxG_map {V W:Type} (g:V→W):∀ (l:List (Str×List (Str×V))) (seen:List Str) (out:List (Ref×V)),idxG (l.map fun m=>(m.1,m.2.map fun x=>(x.1,g x.2))) seen (out.map fun x=>(x.1,g x.2))=(idxG l seen out).map fun x=>(x.1,g x.2)
 | [],_,_=>rfl
 | m :: l,seen,out=>by
  simp only [List.map_cons,idxG]
  split
  ·exact idxG_map g l seen out
  ·rw [idxF_map,idxG_map g l]
def partsM (m:Mod):Str×List (Str×Fun):=(m.name,m.funcs.map fun f=>(f.name,f))
def idxP (p:List Mod):List (Ref×Fun):=idxG (p.map partsM) [] []
def findR (p:List Mod) (r:Ref):Option Fun:=match p.find? (fun m=>m.name == r.1) with
 | some m=>m.funcs.find? fun f=>f.name == r.2
 | none=>none
theorem idx_get (p:List Mod) (r:Ref):getK (idxP p) r=findR p r:=by
 unfold idxP
 rw [getK_idxG r _ [] [] (by simp),if_neg (by simp)]
 unfold findG findR
 rw [List.find?_map]
 have:((fun m:Str×List (Str×Fun)=>m.1 == r.1) ∘ partsM)=fun m:Mod=>m.name == r.1:=rfl
 rw [this]
 cases p.find? (fun m=>m.name == r.1) with
 | none=>rfl
 | some m =>
  simp only [Option.map_some,partsM]
  rw [List.find?_map]
  have:((fun f:Str×Fun=>f.1 == r.2) ∘ fun f:Fun=>(f.name,f))=fun f:Fun=>f.name == r.2:=rfl
  rw [this]
  cases m.funcs.find? (fun f=>f.name == r.2) <;> rfl
theorem idx_nodup (p:List Mod):((idxP p).map (·.1)).Nodup:=idxG_nodup _ _ _ (by simp)
mutual
def nodesL:Exp→List Exp
 | .mk o n s m ns es=>.mk o n s m ns es :: nodesLs es
def nodesLs:List Exp→List Exp
 | []=>[]
 | e :: es=>nodesL e++nodesLs es
end
theorem nodesLs_flat:∀ l:List Exp,nodesLs l=l.flatMap nodesL
 | []=>rfl
 | e :: l=>by simp [nodesLs,nodesLs_flat l]
theorem nodesL_eq (e:Exp):nodesL e=e :: e.args.flatMap nodesL:=by
 cases e with
 | mk o n s m ns es=>simp only [nodesL,nodesLs_flat]; rfl
def zeroE:Exp:=.mk 0 0 [] [] [] []
def zeroF:Fun:=⟨[],false,[],.mk 0 [],0,zeroE⟩
def tgt (f:Ref) (e:Exp):Ref:=(if e.m = [] then f.1 else e.m,e.s)
def callB (p:List Mod) (f:Ref) (e:Exp):Bool:=e.op == 15&&(match findR p (tgt f e) with | some g=>e.m == []||g.pub | none=>false)
def bodyR (p:List Mod) (f:Ref):Exp:=((findR p f).getD zeroF).body
def foundS (p:List Mod) (f:Ref) (o:List (Ref×Bool)) (e:Exp):List (Ref×Bool):=if callB p f e then putK o (tgt f e) true else o
def found (p:List Mod) (f:Ref):List (Ref×Bool):=(nodesL (bodyR p f)).foldl (foundS p f) []
def callL (p:List Mod) (f:Ref):List Ref:=sortR ((found p f).map (·.1))
theorem found_mem (p:List Mod) (f r:Ref):∀ (l:List Exp) (o:List (Ref×Bool)),r∈(l.foldl (foundS p f) o).map (·.1) ↔ (∃ e∈l,callB p f e=true∧r=tgt f e)∨r∈o.map (·.1)
 | [],o=>by simp
 | e :: l,o=>by
  simp only [List.foldl_cons]
  rw [found_mem p f r l,foundS]
  by_cases h:callB p f e=true
  ·rw [if_pos h,putK_mem]
   constructor
   ·rintro (⟨e',h1,h2⟩ | rfl | h1)
    ·exact .inl ⟨e',by simp [h1],h2⟩
    ·exact .inl ⟨e,by simp,h,rfl⟩
    ·exact .inr h1
   ·rintro (⟨e',h1,h2,h3⟩ | h1)
    ·rcases List.mem_cons.1 h1 with rfl | h1
     ·exact .inr (.inl h3)
     ·exact .inl ⟨e',h1,h2,h3⟩
    ·exact .inr (.inr h1)
  ·rw [if_neg h]
   constructor
   ·rintro (⟨e',h1,h2⟩ | h1)
    ·exact .inl ⟨e',by simp [h1],h2⟩
    ·exact .inr h1
   ·rintro (⟨e',h1,h2,h3⟩ | h1)
    ·rcases List.mem_cons.1 h1 with rfl | h1
     ·exact absurd h2 h
     ·exact .inl ⟨e',h1,h2,h3⟩
    ·exact .inr h1
theorem found_nodup (p:List Mod) (f:Ref):∀ (l:List Exp) (o:List (Ref×Bool)),(o.map (·.1)).Nodup→((l.foldl (foundS p f) o).map (·.1)).Nodup
 | [],o,h=>h
 | e :: l,o,h=>by
  simp only [List.foldl_cons]
  refine found_nodup p f l _ ?_
  unfold foundS
  split
  ·exact putK_nodup _ _ _ h
  ·exact h
theorem mem_callL {p:List Mod} {f r:Ref}:r∈callL p f ↔ ∃ e∈nodesL (bodyR p f),callB p f e=true∧r=tgt f e:=by
 unfold callL
 rw [(sortR_perm _).mem_iff]
 unfold found
 rw [found_mem]
 simp
theorem callL_nodup (p:List Mod) (f:Ref):(callL p f).Nodup:=(sortR_perm _).nodup_iff.2 (found_nodup p f _ [] (by simp))
theorem callL_in {p:List Mod} {f r:Ref} (h:r∈callL p f):(findR p r).isSome=true:=by
 obtain ⟨e,_,h2,rfl⟩:=mem_callL.1 h
 unfold callB at h2
 cases hf:findR p (tgt f e) with
 | none=>rw [hf] at h2; simp at h2
 | some g=>rfl
def newD (C:Ref→List Ref) (D:List (Ref×List Ref)) (x:Ref) (c:List Ref):List (Ref×List Ref):=((C x).filter fun r=>!(D.map (·.1)).contains r).map fun r=>(r,c++[r])
def bfsD (C:Ref→List Ref):Nat→Nat→List (Ref×List Ref)→List (Ref×List Ref)
 | 0,_,D=>D
 | n + 1,k,D=>match D[k]? with
  | none=>D
  | some (x,c)=>bfsD C n (k + 1) (D++newD C D x c)
def reachD (p:List Mod) (f:Ref):List (Ref×List Ref):=if (findR p f).isSome then bfsD (callL p) ((idxP p).length + 1) 0 [(f,[f])] else []
end Go.Av.Ap

/- What is reached in its order: laws. No condition. -/
namespace Go.Av.Ap
open Go Go.Av
theorem len_le_of_sub {α:Type} [DecidableEq α]:∀ {l m:List α},l.Nodup→(∀ x∈l,x∈m)→l.length≤m.length
 | [],m,_,_=>Nat.zero_le _
 | x :: l,m,hn,hs=>by
  have hx:=hs x List.mem_cons_self
  have:=len_le_of_sub (l:=l) (m:=m.erase x) (List.nodup_cons.1 hn).2 (fun y hy=>by
   have hne:y≠x:=fun e=>(List.nodup_cons.1 hn).1 (e ▸ hy)
   exact (List.mem_erase_of_ne hne).2 (hs y (List.mem_cons_of_mem _ hy)))
  rw [List.length_erase_of_mem hx] at this
  have:=List.length_pos_of_mem hx
  simp only [List.length_cons]
  omega
def stepD (c:List Ref) (D:List (Ref×List Ref)) (r:Ref):List (Ref×List Ref):=if r∈D.map (·.1) then D else D++[(r,c++[r])]
theorem step_new (c:List Ref):∀ (l:List Ref) (D:List (Ref×List Ref)),l.Nodup→l.foldl (stepD c) D=D++((l.filter fun r=>!(D.map (·.1)).contains r).map fun r=>(r,c++[r]))
 | [],D,_=>by simp
 | r :: l,D,hn=>by
  obtain ⟨h1,h2⟩:=List.nodup_cons.1 hn
  simp only [List.foldl_cons]
  rw [step_new c l _ h2]
  unfold stepD
  by_cases hr:r∈D.map (·.1)
  ·have:(!(D.map (·.1)).contains r)=false:=by simpa using hr
   rw [if_pos hr,List.filter_cons_of_neg (p:=fun r=>!(D.map (·.1)).contains r) (by rw [this]; simp)]
  ·have h3:(!(D.map (·.1)).contains r)=true:=by simpa using hr
   rw [if_neg hr,List.filter_cons_of_pos (p:=fun r=>!(D.map (·.1)).contains r) h3]
   simp only [List.map_cons,List.append_assoc,List.cons_append,List.nil_append]
   congr 2
   congr 1
   apply List.filter_congr
   intro y hy
   have hne:y≠r:=fun e=>h1 (e ▸ hy)
   simp [hne]
theorem newD_eq (C:Ref→List Ref) (D:List (Ref×List Ref)) (x:Ref) (c:List Ref) (h:(C x).Nodup):(C x).foldl (stepD c) D=D++newD C D x c:=step_new c _ _ h
theorem newD_mem {C:Ref→List Ref} {D:List (Ref×List Ref)} {x:Ref} {c:List Ref} {e:Ref×List Ref}:e∈newD C D x c ↔ e.1∈C x∧e.1 ∉ D.map (·.1)∧e.2=c++[e.1]:=by
 unfold newD
 rw [List.mem_map]
 constructor
 ·rintro ⟨r,hr,rfl⟩
  rw [List.mem_filter] at hr
  exact ⟨hr.1,by simpa using hr.2,rfl⟩
 ·rintro ⟨h1,h2,h3⟩
  exact ⟨e.1,List.mem_filter.2 ⟨h1,by simpa using h2⟩,by rw [← h3]⟩
structure DInv (p:List Mod) (f:Ref) (k:Nat) (D:List (Ref×List Ref)):Prop where
 nodup:(D.map (·.1)).Nodup
 inn:∀ e∈D,(findR p e.1).isSome=true
 chain:∀ e∈D,e=(f,[f])∨∃ y c,(y,c)∈D∧e.1∈callL p y∧e.2=c++[e.1]
 closed:∀ i e,i < k→D[i]? = some e→∀ r∈callL p e.1,r∈D.map (·.1)
 start:(f,[f])∈D
theorem idx_keys (p:List Mod) (r:Ref):r∈(idxP p).map (·.1) ↔ (findR p r).isSome=true:=by
 have:=@getK_none Fun (idxP p) r
 rw [idx_get] at this
 cases h:findR p r with
 | none=>rw [h] at this; simpa using this.1 rfl
 | some g=>rw [h] at this; simpa using this
theorem DInv.len {p:List Mod} {f:Ref} {k:Nat} {D:List (Ref×List Ref)} (I:DInv p f k D):D.length≤(idxP p).length:=by
 have:=len_le_of_sub (l:=D.map (·.1)) (m:=(idxP p).map (·.1)) I.nodup (fun x hx=>by
  obtain ⟨e,he,rfl⟩:=List.mem_map.1 hx
  exact (idx_keys p _).2 (I.inn e he))
 simpa using this
theorem DInv.zero {p:List Mod} {f:Ref} (h:(findR p f).isSome=true):DInv p f 0 [(f,[f])] where
 nodup:=by simp
 inn:=fun e he=>by rw [List.mem_singleton.1 he]; exact h
 chain:=fun e he=>.inl (List.mem_singleton.1 he)
 closed:=fun i e hi=>by omega
 start:=List.mem_singleton.2 rfl
theorem DInv.step {p:List Mod} {f:Ref} {k:Nat} {D:List (Ref×List Ref)} (I:DInv p f k D) {x:Ref} {c:List Ref} (hk:D[k]? = some (x,c)):DInv p f (k + 1) (D++newD (callL p) D x c) where
 nodup:=by
  rw [List.map_append,List.nodup_append]
  refine ⟨I.nodup,?_,fun a ha b hb e=>?_⟩
  ·have:(newD (callL p) D x c).map (·.1)=(callL p x).filter fun r=>!(D.map (·.1)).contains r:=by
    unfold newD; rw [List.map_map]; exact List.map_id _
   rw [this]
   exact (callL_nodup p x).filter _
  ·obtain ⟨y,hy,rfl⟩:=List.mem_map.1 hb
   exact (newD_mem.1 hy).2.1 (e ▸ ha)
 inn:=fun e he=>by
  rcases List.mem_append.1 he with he | he
  ·exact I.inn e he
  ·exact callL_in (newD_mem.1 he).1
 chain:=fun e he=>by
  rcases List.mem_append.1 he with he | he
  ·rcases I.chain e he with h | ⟨y,c',h1,h2⟩
   ·exact .inl h
   ·exact .inr ⟨y,c',List.mem_append_left _ h1,h2⟩
  ·obtain ⟨h1,h2,h3⟩:=newD_mem.1 he
   exact .inr ⟨x,c,List.mem_append_left _ (List.mem_of_getElem? hk),h1,h3⟩
 closed:=fun i e hi he r hr=>by
  rw [List.map_append,List.mem_append]
  have hkl:k < D.length:=(List.getElem?_eq_some_iff.1 hk).1
  rw [List.getElem?_append_left (by omega)] at he
  by_cases h:i < k
  ·exact .inl (I.closed i e h he r hr)
  ·obtain rfl:i=k:=by omega
   rw [hk] at he
   cases he
   by_cases hm:r∈D.map (·.1)
   ·exact .inl hm
   ·exact .inr (List.mem_map.2 ⟨(r,c++[r]),newD_mem.2 ⟨hr,hm,rfl⟩,rfl⟩)
 start:=List.mem_append_left _ I.start
def preR (e:Ref×List Ref):Ref×Ref:=(e.1,e.2.dropLast.getLastD e.1)
theorem preR_cons (c:List Ref) (r y:Ref) (hc:c.getLast? = some y):preR (r,c++[r])=(r,y):=by
 simp [preR,List.getLastD_eq_getLast?,hc]
theorem DInv.last {p:List Mod} {f:Ref} {k:Nat} {D:List (Ref×List Ref)} (I:DInv p f k D) {e:Ref×List Ref} (he:e∈D):e.2.getLast? = some e.1:=by
 rcases I.chain e he with rfl | ⟨y,c,_,_,h⟩
 ·rfl
 ·rw [h]; simp
def rowD (D:List (Ref×List Ref)):List AV:=[.tup ((D.map preR).map (entA refA))]
end Go.Av.Ap

/- Steps on rows, and over maps. No condition. -/
namespace Go.Av.Ap
open Go Go.Av
theorem appHr {T:TT} {t e:Nat} {ti ei:TI} (ht:T t=some ti) (hk:ti.kind = .slice e) (he:T e=some ei) {x:AV} (hx:okEl ei.size x=true) (hb:0 < ei.bytes) (hs:0 < ei.size) {h:Hp} {q n:Nat} {cs:List AV} (h0:h[q]? = some cs) (hok:cs.all okCell=true)
  (hl:cs.length=n * ei.size) (hn:0 < n) (hc:(n + 1) * ei.bytes≤140737488355328):appH T t false (.hs q 0 n ei.size ei.agg) (.sl [x]) h = .ok (.hs h.length 0 (n + 1) ei.size ei.agg) ((h.set q [])++[cs++acells x]):=by
 have h1:okSz ei.size [x] = true:=by simp [okSz,hx]
 have h2:List.all cs okCell=true:=hok
 have h3:0 < n * ei.size:=Nat.mul_pos hn hs
 have h4:cs.take (n * ei.size)=cs:=by rw [← hl]; exact List.take_length
 simp only [appH,ht,hk,he,elsOf,h1,hb,hs,strOk,h0,h2,hl,decide_true,Bool.and_self,cond_true,beq_self_eq_true,List.length_singleton,List.isEmpty_cons,cond_false,List.flatMap_cons,List.flatMap_nil,List.append_nil,h3,h4,Nat.le_refl]
 rw [decide_eq_true hc]
 simp
theorem pos_back (qs:List Nat):(qs.map fun (i:Nat)=>AV.int .i64 i).map natOf=qs:=by
 induction qs with
 | nil=>rfl
 | cons q qs ih=>simp only [List.map_cons,ih]; rfl
theorem nxt_nil {l m:Nat} {n:Int} {c:AV} {kf kt:M AV} {h:Hp} {es:List AV} (hl:h[l]? = some [.tup [],.mp m,.int .i64 n,posA [],c]) (hm:h[m]? = some [.tup es]) (hn:(es.length:Int)=n):nxtM (.it l) kf kt h=kf (h.set l []):=by
 simp only [nxtM,hl,posA,hm,if_pos hn,pos_back]
theorem demM_eq {ps:List Nat} {k:Nat→M AV} {h:Hp} {r:R AV} (hne:ps≠[]) (hall:∀ q∈ps,k q h=r):demM ps k h=r:=by
 cases ps with
 | nil=>exact absurd rfl hne
 | cons p ps =>
  simp only [demM]
  rw [if_pos (fun q hq=>(hall q (List.mem_cons_of_mem _ hq)).trans (hall p List.mem_cons_self).symm)]
  exact hall p List.mem_cons_self
theorem nxt_cons {l m:Nat} {n:Int} {qs:List Nat} {c:AV} {kf kt:M AV} {h:Hp} {es:List AV} {r:R AV} (hl:h[l]? = some [.tup [],.mp m,.int .i64 n,posA qs,c]) (hm:h[m]? = some [.tup es]) (hn:(es.length:Int)=n) (hne:qs≠[])
  (hall:∀ q∈qs,kt (h.set l [.tup [],.mp m,.int .i64 n,posA (qs.filter fun r=>!(Nat.beq r q)),.int .i64 (q:Nat)])=r):nxtM (.it l) kf kt h=r:=by
 cases qs with
 | nil=>exact absurd rfl hne
 | cons p ps =>
  have h1:nxtM (.it l) kf kt h=demM (p :: ps) (fun q h=>kt (h.set l [.tup [],.mp m,.int .i64 n,posA ((p :: ps).filter fun r=>!(Nat.beq r q)),.int .i64 (q:Nat)])) h:=by
   simp only [nxtM,hl,posA,hm,if_pos hn,pos_back]
  rw [h1]
  exact demM_eq (k:=fun q h=>kt (h.set l [.tup [],.mp m,.int .i64 n,posA ((p :: ps).filter fun r=>!(Nat.beq r q)),.int .i64 (q:Nat)])) hne hall
theorem entry_at {l m q:Nat} {n:Int} {x k v:AV} {h:Hp} {es:List AV} (hl:h[l]? = some [.tup [],.mp m,.int .i64 n,x,.int .i64 (q:Nat)]) (hm:h[m]? = some [.tup es]) (hn:(es.length:Int)=n) (hq:es[q]? = some (.tup [k,v])):entryH (.it l) h = .ok (.tup [k,v]) h:=by
 simp only [entryH,hl,hm,if_pos hn,Int.toNat_natCast,hq]
theorem nbeq {a b:Nat} (h:¬ a=b):Nat.beq a b=false:=by
 cases hb:Nat.beq a b with
 | false=>rfl
 | true=>exact absurd (Nat.eq_of_beq_eq_true hb) h
theorem perm_filter {q:Nat}:∀ {qs:List Nat},qs.Nodup→q∈qs→qs.Perm (q :: qs.filter fun r=>!(Nat.beq r q))
 | [],_,h=>by cases h
 | x :: qs,hn,h=>by
  obtain ⟨h1,h2⟩:=List.nodup_cons.1 hn
  by_cases hx:x=q
  ·subst hx
   have e:qs.filter (fun r=>!(Nat.beq r x))=qs:=List.filter_eq_self.2 fun y hy=>by
    have:¬ y=x:=fun e=>h1 (e ▸ hy)
    simp [nbeq this]
   rw [List.filter_cons_of_neg (by simp),e]
  ·have hq:q∈qs:=by
    rcases List.mem_cons.1 h with h | h
    ·exact absurd h.symm hx
    ·exact h
   rw [List.filter_cons_of_pos (by simp [nbeq hx])]
   exact ((perm_filter h2 hq).cons x).trans (List.Perm.swap _ _ _)
theorem nodup_filter {q:Nat} {qs:List Nat} (h:qs.Nodup):(qs.filter fun r=>!(Nat.beq r q)).Nodup:=h.filter _
end Go.Av.Ap

/- References in rows. No condition. -/
namespace Go.Av.Ap
open Go Go.Av
def cellsR:List Ref→List AV
 | []=>[]
 | r :: l=>.str r.1 :: .str r.2 :: cellsR l
theorem cellsR_len:∀ l:List Ref,(cellsR l).length=l.length * 2
 | []=>rfl
 | r :: l=>by simp only [cellsR,List.length_cons,cellsR_len l]; omega
theorem cellsR_ok:∀ l:List Ref,(cellsR l).all okCell=true
 | []=>rfl
 | r :: l=>by simp only [cellsR,List.all_cons,cellsR_ok l,Bool.and_true]; rfl
theorem cellsR_app:∀ a b:List Ref,cellsR (a++b)=cellsR a++cellsR b
 | [],b=>rfl
 | r :: a,b=>by simp only [List.cons_append,cellsR,cellsR_app a b]
theorem cellsR_get:∀ (l:List Ref) (i:Nat) (h:i < l.length),((cellsR l).drop (i * 2)).take 2 = [.str l[i].1,.str l[i].2]
 | r :: l,0,_=>rfl
 | r :: l,i + 1,h=>by
  rw [show (i + 1) * 2=i * 2 + 1 + 1 by omega]
  simp only [cellsR,List.drop_succ_cons,List.getElem_cons_succ]
  exact cellsR_get l i (by simpa using h)
theorem frz_refs {h:Hp} {l:Nat} {P:List Ref} (hl:h[l]? = some (cellsR P)) (d:Nat):frz (d + 1) h (.hs l 0 P.length 2 true)=refsA P:=by
 have h1:(decide (0 + P.length * 2≤(cellsR P).length)&&decide (0 < 2)&&(true||(Nat.beq 2 1&&(cellsR P).all okCell)))=true:=by
  rw [cellsR_len]; simp
 simp only [frz,cl,hl,h1,cond_true]
 unfold refsA
 congr 1
 apply List.ext_getElem (by simp)
 intro i h2 h3
 simp at h2
 simp only [List.getElem_map,List.getElem_range,Nat.zero_add]
 rw [cellsR_get P i h2]
 cases d <;> rfl
theorem DInv.uniq {p:List Mod} {f:Ref} {k:Nat} {D:List (Ref×List Ref)} (I:DInv p f k D) {x:Ref} {c d:List Ref} (h1:(x,c)∈D) (h2:(x,d)∈D):c=d:=by
 have e1:=getK_nodup I.nodup h1
 have e2:=getK_nodup I.nodup h2
 rw [e1] at e2
 exact Option.some.inj e2
end Go.Av.Ap

/- Laws of what is reached: chains, closure, order. No condition. -/
namespace Go.Av.Ap
open Go Go.Av
def allR (p:List Mod):List Ref:=p.flatMap fun m=>m.funcs.map fun f=>(m.name,f.name)
theorem findR_mem {p:List Mod} {r:Ref} (h:(findR p r).isSome=true):r∈allR p:=by
 unfold findR at h
 split at h
 ·rename_i m hm
  cases hf:m.funcs.find? fun f=>f.name == r.2 with
  | none=>rw [hf] at h; cases h
  | some g =>
   have h1:=List.find?_some hm
   have h2:=List.find?_some hf
   refine List.mem_flatMap.2 ⟨m,List.mem_of_find?_eq_some hm,List.mem_map.2 ⟨g,List.mem_of_find?_eq_some hf,?_⟩⟩
   simp only [beq_iff_eq] at h1 h2
   rw [h1,h2]
 ·cases h
theorem allR_len (p:List Mod) {n:Nat} (h:∀ m∈p,m.funcs.length≤n):(allR p).length≤p.length * n:=by
 induction p with
 | nil=>simp [allR]
 | cons m p ih =>
  have h1:=ih (fun m hm=>h m (List.mem_cons_of_mem _ hm))
  have h2:=h m List.mem_cons_self
  have:(allR (m :: p)).length=m.funcs.length + (allR p).length:=by simp [allR]
  rw [this,List.length_cons,Nat.add_mul]
  omega
theorem idx_len (p:List Mod):(idxP p).length≤(allR p).length:=by
 have:=len_le_of_sub (l:=(idxP p).map (·.1)) (m:=allR p) (idx_nodup p) (fun x hx=>findR_mem ((idx_keys p x).1 hx))
 simpa using this
end Go.Av.Ap

/- A module more; functions one after another. No condition. -/
namespace Go.Av.Ap
open Go Go.Av
end Go.Av.Ap

/- The meaning of expressions, in plain terms. No condition. -/
namespace Go.Av.Ap
def asc:List Str→Bool
 | []=>true
 | [_]=>true
 | x :: y :: l=>strLess x y&&asc (y :: l)
def fitsP:Nat→Val→Bool
 | 0,_=>false
 | d + 1,v=>if (v.kind == 0||v.kind == 1)=true then v.names.length == 0&&v.values.length == 0&&(v.kind == 0||v.n == 0||v.n == 1)
  else v.kind == 2&&v.n == 0&&v.names.length == v.values.length&&decide (v.names.length≤8)&&asc v.names&&v.values.all (fitsP d)
def truthV (b:Bool):Val:=.mk 1 (if b then 1 else 0) [] []
def numV (n:Int):Val:=.mk 0 n [] []
def modAt (p:List Mod) (s:Str):Int:=idxAt (fun m=>m.name == s) p 0
def funAt (l:List Fun) (s:Str):Int:=idxAt (fun f=>f.name == s) l 0
def fldAt (l:List Fld) (s:Str):Int:=idxAt (fun f=>f.1 == s) l 0
structure Ms where
 fuel:Int
 frames:Int
 world:List Int
 deeds:List Deed
 calls:List Call
 state:List (List Val)
inductive Rs (α:Type) where
 | ok (a:α) (m:Ms)
 | er (e:Int) (m:Ms)
def X (α:Type):=Ms→Rs α
def X.ok {α:Type} (a:α):X α:=fun m=>.ok a m
def X.er {α:Type} (e:Int):X α:=fun m=>.er e m
def X.bind {α β:Type} (x:X α) (f:α→X β):X β:=fun m=>match x m with
 | .ok a m'=>f a m'
 | .er e m'=>.er e m'
def X.upd {α:Type} (f:Ms→Ms) (x:X α):X α:=fun m=>x (f m)
def X.get {α:Type} (f:Ms→X α):X α:=fun m=>f m m
def argsN (op:Int):Int :=
 if op=0∨op=1∨op=2∨op=17 then 0
 else if op=10∨op=14∨op=16∨op=18 then 1
 else if op=3∨op=4∨op=5∨op=6∨op=7∨op=8∨op=9∨op=12 then 2
 else if op=11 then 3
 else if op=13∨op=15 then -1
 else -2
def lookV:List Str→List Val→Str→Option Val
 | n :: ns,v :: vs,s=>match lookV ns vs s with
  | some x=>some x
  | none=>if n=s then some v else none
 | _,_,_=>none
def fieldV:List Str→List Val→Str→Option Val
 | n :: ns,v :: vs,s=>if n=s then some v else fieldV ns vs s
 | _,_,_=>none
def wr (n:Int):Int:=IntKind.i64.wrap n
def binX (op:Int) (a b:Val):X Val :=
 if op=7 then (if a.kind=b.kind∧a.kind≠2 then .ok (truthV (a.n == b.n)) else .er 13)
 else if a.kind=0∧b.kind=0 then
  (if op=3 then .ok (numV (wr (a.n + b.n))) else if op=4 then .ok (numV (wr (a.n - b.n))) else if op=5 then .ok (numV (wr (a.n * b.n))) else .ok (truthV (decide (a.n < b.n))))
 else .er 13
mutual
def levelV:Val→Nat
 | .mk _ _ _ vs=>levelsV vs + 1
def levelsV:List Val→Nat
 | []=>0
 | v :: vs=>max (levelV v) (levelsV vs)
end
abbrev Ev:=Int→List Str→List Val→Exp→X Val
def boolX (r:X Val):X Bool:=r.bind fun v=>if v.kind=1 then .ok (v.n == 1) else .er 13
def listX (r:Exp→X Val):List Exp→X (List Val)
 | []=>.ok []
 | e :: es=>(r e).bind fun v=>(listX r es).bind fun vs=>.ok (v :: vs)
def recordX (r:Exp→X Val) (e:Exp):X Val :=
 if e.names.length=e.args.length∧asc e.names=true then
  (if e.names.length≤8 then (listX r e.args).bind fun vs=>if levelV (.mk 2 0 e.names vs)≤4 then .ok (.mk 2 0 e.names vs) else .er 6 else .er 6)
 else .er 13
def funcX (p:List Mod) (at_:Int) (s:Str):Option Fun :=
 if at_ < 0 then none else (let l:=(p[at_.toNat]?.getD default).funcs; let i:=funAt l s; if i < 0 then none else l[i.toNat]?)
def enterX (p:List Mod) (r:Ev) (at_:Int) (f:Fun) (l:List Val):X Val :=
 .get fun m=>if m.frames < 60 then
  .upd (fun m=>{ m with calls:=if f.pub=true then m.calls++[⟨(p[at_.toNat]?.getD default).name,f.name,l⟩] else m.calls,frames:=m.frames + 1 })
   ((r at_ (f.params.map (·.1)) l f.body).bind fun v=>.upd (fun m=>{ m with frames:=m.frames - 1 }) (.ok v))
 else .er 6
def callX (p:List Mod) (r:Ev) (own:Int) (ns:List Str) (vs:List Val) (e:Exp):X Val :=
 let at_:=if e.m = [] then own else modAt p e.m
 match funcX p at_ e.s with
 | none=>.er 12
 | some f=>if e.m = []∨f.pub=true then
   (if e.args.length=f.params.length then (listX (r own ns vs) e.args).bind fun l=>enterX p r at_ f l else .er 13)
  else .er 12
def actX (r:X Val) (e:Exp):X Val :=
 r.bind fun v=>if v.kind=0 then
  (if e.n=1∨e.n=2∨e.n=4∨e.n=8 then
   .get fun m=>.upd (fun m=>{ m with world:=m.world.tail,deeds:=m.deeds++[⟨e.n,v.n,m.world.headD 0⟩] }) (.ok (numV (m.world.headD 0)))
  else .er 14)
 else .er 13
def setSt (st:List (List Val)) (i k:Nat) (v:Val):List (List Val):=st.modify i fun l=>l.set k v
def getSt (st:List (List Val)) (i k:Nat):Val:=(st.getD i []).getD k default
def varX (p:List Mod) (r:Exp→X Val) (own:Int) (e:Exp):X Val :=
 if own < 0 then .er 12 else
 let i:=fldAt (p[own.toNat]?.getD default).vars e.s
 if i < 0 then .er 12 else
 if e.op=18 then (r e.args[0]!).bind fun v=>.upd (fun m=>{ m with state:=setSt m.state own.toNat i.toNat v }) (.ok v)
 else .get fun m=>.ok (getSt m.state own.toNat i.toNat)
def stepX (p:List Mod) (r:Ev):Ev:=fun own ns vs e=>.get fun m =>
 if m.fuel≤0 then .er 16 else .upd (fun m=>{ m with fuel:=m.fuel - 1 }) <|
 let n:=argsN e.op
 if n = -2∨(n ≠ -1∧n≠e.args.length) then .er 13
 else if e.op=0 then .ok (numV e.n)
 else if e.op=1 then (if e.n=0∨e.n=1 then .ok (truthV (e.n == 1)) else .er 13)
 else if e.op=2 then (match lookV ns vs e.s with | some v=>.ok v | none=>.er 12)
 else if e.op=3∨e.op=4∨e.op=5∨e.op=6∨e.op=7 then (r own ns vs e.args[0]!).bind fun a=>(r own ns vs e.args[1]!).bind fun b=>binX e.op a b
 else if e.op=8∨e.op=9 then (boolX (r own ns vs e.args[0]!)).bind fun x=>if x=(e.op == 9) then .ok (truthV (e.op == 9)) else (boolX (r own ns vs e.args[1]!)).bind fun y=>.ok (truthV y)
 else if e.op=10 then (boolX (r own ns vs e.args[0]!)).bind fun x=>.ok (truthV !x)
 else if e.op=11 then (boolX (r own ns vs e.args[0]!)).bind fun x=>if x=true then r own ns vs e.args[1]! else r own ns vs e.args[2]!
 else if e.op=12 then (r own ns vs e.args[0]!).bind fun v=>r own (ns++[e.s]) (vs++[v]) e.args[1]!
 else if e.op=13 then recordX (r own ns vs) e
 else if e.op=14 then (r own ns vs e.args[0]!).bind fun v=>(match fieldV v.names v.values e.s with | some x=>if v.kind=2 then .ok x else .er 13 | none=>.er 13)
 else if e.op=15 then callX p r own ns vs e
 else if e.op=16 then actX (r own ns vs e.args[0]!) e
 else varX p (r own ns vs) own e
def evalX (p:List Mod):Nat→Ev
 | 0=>fun _ _ _ _=>.er 16
 | n + 1=>stepX p (evalX p n)
end Go.Av.Ap

/- Laws of evaluation: worlds, fuel, whose variables turn. No condition. -/
namespace Go.Av.Ap
def Rs.st {α:Type}:Rs α→Ms
 | .ok _ m=>m
 | .er _ m=>m
def Rs.on {α:Type} (f:Ms→Ms):Rs α→Rs α
 | .ok a m=>.ok a (f m)
 | .er e m=>.er e (f m)
def tickX {α:Type} (y:X α):X α:=.get fun m=>if m.fuel≤0 then .er 16 else .upd (fun m=>{ m with fuel:=m.fuel - 1 }) y
def act1 (n a:Int):X Val:=.get fun m=>.upd (fun m=>{ m with world:=m.world.tail,deeds:=m.deeds++[⟨n,a,m.world.headD 0⟩] }) (.ok (numV (m.world.headD 0)))
structure Closed (p:List Mod) (Q:Int→(α:Type)→X α→Prop):Prop where
 ok:∀ (o:Int) (α:Type) (a:α),Q o α (.ok a)
 er:∀ (o:Int) (α:Type) (e:Int),e≠0→Q o α (.er e)
 bind:∀ (o:Int) (α β:Type) (x:X α) (f:α→X β),Q o α x→(∀ a,Q o β (f a))→Q o β (x.bind f)
 tick:∀ (o:Int) (α:Type) (y:X α),Q o α y→Q o α (tickX y)
 act:∀ (o n a:Int),Q o Val (act1 n a)
 set:∀ (o:Int) (k:Nat) (v:Val),¬ o < 0→Q o Val (.upd (fun m=>{ m with state:=setSt m.state o.toNat k v }) (.ok v))
 get:∀ (o:Int) (k:Nat),Q o Val (.get fun m=>.ok (getSt m.state o.toNat k))
 enter:∀ (o a:Int) (r:Ev) (f:Fun) (l:List Val),¬ a < 0→a.toNat < p.length→f∈(p[a.toNat]?.getD default).funcs→(∀ o ns vs e,Q o Val (r o ns vs e))→Q o Val (enterX p r a f l)
theorem funcX_some {p:List Mod} {a:Int} {s:Str} {f:Fun} (h:funcX p a s=some f):¬ a < 0∧a.toNat < p.length∧f∈(p[a.toNat]?.getD default).funcs:=by
 unfold funcX at h
 by_cases h1:a < 0
 ·simp [h1] at h
 ·rw [if_neg h1] at h
  simp only at h
  split at h
  ·cases h
  ·have hm:=List.mem_of_getElem? h
   refine ⟨h1,?_,hm⟩
   rcases Nat.lt_or_ge a.toNat p.length with k | k
   ·exact k
   ·rw [List.getElem?_eq_none k] at hm
    cases hm
theorem ite_q {Q:Int→(α:Type)→X α→Prop} {o:Int} {α:Type} {c:Prop} [Decidable c] (x y:X α) (h1:Q o α x) (h2:Q o α y):Q o α (if c then x else y):=by
 split
 ·exact h1
 ·exact h2
section
variable {p:List Mod} {Q:Int→(α:Type)→X α→Prop} (C:Closed p Q)
include C
theorem Closed.boolX {o:Int} {r:X Val} (h:Q o Val r):Q o Bool (boolX r):=by
 refine C.bind _ _ _ _ _ h fun v=>?_
 split
 ·exact C.ok _ _ _
 ·exact C.er _ _ _ (by decide)
theorem Closed.listX {o:Int} {r:Exp→X Val} (h:∀ e,Q o Val (r e)):∀ l,Q o (List Val) (listX r l)
 | []=>C.ok _ _ _
 | e :: l=>C.bind _ _ _ _ _ (h e) fun _=>C.bind _ _ _ _ _ (Closed.listX h l) fun _=>C.ok _ _ _
theorem Closed.step {r:Ev} (h:∀ o ns vs e,Q o Val (r o ns vs e)) (o:Int) (ns:List Str) (vs:List Val) (e:Exp):Q o Val (stepX p r o ns vs e):=by
 unfold stepX
 refine C.tick _ _ _ ?_
 have B:=fun {α β:Type} {x:X α} {f:α→X β}=>C.bind o α β x f
 have I:=@ite_q Q o
 have er:=fun (α:Type) n (h:n≠0)=>C.er o α n h
 have ok:=fun (α:Type) (a:α)=>C.ok o α a
 refine I _ _ (er _ _ (by decide)) (I _ _ (ok _ _) (I _ _ (I _ _ (ok _ _) (er _ _ (by decide))) (I _ _ ?_ (I _ _ ?_ (I _ _ ?_ (I _ _ ?_ (I _ _ ?_ (I _ _ ?_ (I _ _ ?_ (I _ _ ?_ (I _ _ ?_ (I _ _ ?_ ?_))))))))))))
 ·split
  ·exact ok _ _
  ·exact er _ _ (by decide)
 ·refine B (h _ _ _ _) fun a=>B (h _ _ _ _) fun b=>?_
  unfold binX
  exact I _ _ (I _ _ (ok _ _) (er _ _ (by decide))) (I _ _ (I _ _ (ok _ _) (I _ _ (ok _ _) (I _ _ (ok _ _) (ok _ _)))) (er _ _ (by decide)))
 ·exact B (C.boolX (h _ _ _ _)) fun a=>I _ _ (ok _ _) (B (C.boolX (h _ _ _ _)) fun b=>ok _ _)
 ·exact B (C.boolX (h _ _ _ _)) fun a=>ok _ _
 ·exact B (C.boolX (h _ _ _ _)) fun a=>I _ _ (h _ _ _ _) (h _ _ _ _)
 ·exact B (h _ _ _ _) fun v=>h _ _ _ _
 ·unfold recordX
  exact I _ _ (I _ _ (B (C.listX (fun e=>h _ _ _ e) _) fun vs=>I _ _ (ok _ _) (er _ _ (by decide))) (er _ _ (by decide))) (er _ _ (by decide))
 ·refine B (h _ _ _ _) fun v=>?_
  split
  ·exact I _ _ (ok _ _) (er _ _ (by decide))
  ·exact er _ _ (by decide)
 ·unfold callX
  simp only
  split
  ·exact er _ _ (by decide)
  ·rename_i f hf
   obtain ⟨h1,h2,h3⟩:=funcX_some hf
   exact I _ _ (I _ _ (B (C.listX (fun e=>h _ _ _ e) _) fun l=>C.enter _ _ _ _ _ h1 h2 h3 h) (er _ _ (by decide))) (er _ _ (by decide))
 ·unfold actX
  exact B (h _ _ _ _) fun v=>I _ _ (I _ _ (C.act _ _ _) (er _ _ (by decide))) (er _ _ (by decide))
 ·unfold varX
  split
  ·exact er _ _ (by decide)
  ·rename_i ho
   exact I _ _ (er _ _ (by decide)) (I _ _ (B (h _ _ _ _) fun v=>C.set _ _ _ ho) (C.get _ _))
theorem Closed.eval:∀ (n:Nat) (o:Int) (ns:List Str) (vs:List Val) (e:Exp),Q o Val (evalX p n o ns vs e)
 | 0,_,_,_,_=>C.er _ _ _ (by decide)
 | n + 1,o,ns,vs,e=>C.step (fun o ns vs e=>Closed.eval n o ns vs e) o ns vs e
end
def entM (p:List Mod) (a:Int) (f:Fun) (l:List Val) (m:Ms):Ms:={ m with calls:=if f.pub=true then m.calls++[⟨(p[a.toNat]?.getD default).name,f.name,l⟩] else m.calls,frames:=m.frames + 1 }
end Go.Av.Ap

/- Laws of evaluation: whose variables turn, right values. No condition. -/
namespace Go.Av.Ap
def RightM (m:Ms):Prop:=(∀ l∈m.state,∀ v∈l,fitsP 4 v=true)∧(∀ c∈m.calls,∀ v∈c.args,fitsP 4 v=true)
def shapeM (m:Ms):List Nat:=m.state.map List.length
def RQ {α:Type} (x:X α) (Q:α→Prop):Prop:=∀ m,RightM m→RightM (x m).st∧shapeM (x m).st=shapeM m∧∀ a s,x m = .ok a s→Q a
theorem rq_ok {α:Type} {a:α} {Q:α→Prop} (h:Q a):RQ (.ok a) Q:=fun m hm=>⟨hm,rfl,fun b s e=>by cases e; exact h⟩
theorem rq_er {α:Type} {e:Int} {Q:α→Prop}:RQ (.er e) Q:=fun m hm=>⟨hm,rfl,fun b s e=>by cases e⟩
theorem rq_bind {α β:Type} {x:X α} {f:α→X β} {Q:α→Prop} {R:β→Prop} (hx:RQ x Q) (hf:∀ a,Q a→RQ (f a) R):RQ (x.bind f) R:=by
 intro m hm
 obtain ⟨h1,h2,h3⟩:=hx m hm
 cases hr:x m with
 | er e s =>
  rw [hr] at h1 h2
  simp only [X.bind,hr]
  exact ⟨h1,h2,fun b s e=>by cases e⟩
 | ok a s =>
  rw [hr] at h1 h2
  obtain ⟨g1,g2,g3⟩:=hf a (h3 a s hr) s h1
  simp only [X.bind,hr]
  exact ⟨g1,g2.trans h2,g3⟩
theorem rq_ite {α:Type} {c:Prop} [Decidable c] {x y:X α} {Q:α→Prop} (h1:c→RQ x Q) (h2:¬ c→RQ y Q):RQ (if c then x else y) Q:=by
 split
 ·exact h1 ‹_›
 ·exact h2 ‹_›
abbrev Rv (v:Val):Prop:=fitsP 4 v=true
theorem right_num (n:Int):Rv (numV n):=by simp [Rv,numV,fitsP,Val.names,Val.values,Val.kind]
theorem right_truth (b:Bool):Rv (truthV b):=by cases b <;> rfl
theorem levelsV_le:(l:List Val)→(d:Nat)→(levelsV l≤d ↔ ∀ v∈l,levelV v≤d)
 | [],d=>by simp [levelsV]
 | v :: l,d=>by
  simp only [levelsV,List.mem_cons,forall_eq_or_imp]
  rw [← levelsV_le l d]
  omega
theorem levelV_eq (v:Val):levelV v=levelsV v.values + 1:=by cases v; rfl
theorem fits_down:∀ (d:Nat) (v:Val),fitsP (d + 1) v=true→levelV v≤d→fitsP d v=true
 | 0,v,_,hl=>by rw [levelV_eq] at hl; omega
 | d + 1,v,h,hl=>by
  rw [levelV_eq] at hl
  unfold fitsP at h ⊢
  split at h
  ·rename_i hk
   rw [if_pos hk]; exact h
  ·rename_i hk
   rw [if_neg hk]
   simp only [Bool.and_eq_true,List.all_eq_true] at h ⊢
   exact ⟨h.1,fun x hx=>fits_down d x (h.2 x hx) ((levelsV_le v.values d).1 (by omega) x hx)⟩
theorem right_rec {ns:List Str} {vs:List Val} (hl:ns.length=vs.length) (ha:asc ns=true) (h8:ns.length≤8) (hv:∀ v∈vs,Rv v) (h4:levelV (.mk 2 0 ns vs)≤4):Rv (.mk 2 0 ns vs):=by
 have h3:levelsV vs≤3:=by
  rw [levelV_eq] at h4
  have:(Val.mk 2 0 ns vs).values=vs:=rfl
  rw [this] at h4
  omega
 have h5:=(levelsV_le vs 3).1 h3
 unfold Rv fitsP
 rw [if_neg (show ¬ (((Val.mk 2 0 ns vs).kind == 0||(Val.mk 2 0 ns vs).kind == 1)=true) by simp [Val.kind])]
 simp only [Val.kind_mk,Val.n_mk,Val.names_mk,Val.values_mk,Bool.and_eq_true,List.all_eq_true,beq_iff_eq]
 exact ⟨⟨⟨⟨⟨trivial,trivial⟩,hl⟩,decide_eq_true h8⟩,ha⟩,fun x hx=>fits_down 3 x (hv x hx) (h5 x hx)⟩
theorem fits_up:∀ (d:Nat) (v:Val),fitsP d v=true→fitsP (d + 1) v=true
 | 0,v,h=>by simp [fitsP] at h
 | d + 1,v,h=>by
  unfold fitsP at h ⊢
  split at h
  ·rename_i hk
   rw [if_pos hk]; exact h
  ·rename_i hk
   rw [if_neg hk]
   simp only [Bool.and_eq_true,List.all_eq_true] at h ⊢
   exact ⟨h.1,fun x hx=>fits_up d x (h.2 x hx)⟩
theorem right_field {v x:Val} (h:Rv v) (hx:x∈v.values):Rv x:=by
 unfold Rv fitsP at h
 split at h
 ·simp only [Bool.and_eq_true,beq_iff_eq] at h
  have:v.values = []:=List.eq_nil_of_length_eq_zero h.1.2
  rw [this] at hx
  cases hx
 ·simp only [Bool.and_eq_true,List.all_eq_true] at h
  exact fits_up 3 x (h.2 x hx)
theorem right_lens {v:Val} (h:Rv v):v.names.length=v.values.length:=by
 unfold Rv fitsP at h
 split at h
 ·simp only [Bool.and_eq_true,beq_iff_eq] at h
  rw [h.1.1,h.1.2]
 ·simp only [Bool.and_eq_true,beq_iff_eq] at h
  exact h.1.1.1.2
theorem look_mem:∀ (ns:List Str) (vs:List Val) (s:Str) (v:Val),lookV ns vs s=some v→v∈vs
 | n :: ns,w :: vs,s,v,h=>by
  unfold lookV at h
  split at h
  ·rename_i x hx
   cases h
   exact List.mem_cons_of_mem _ (look_mem ns vs s v hx)
  ·split at h
   ·cases h; exact List.mem_cons_self
   ·cases h
 | [],_,_,_,h=>by simp [lookV] at h
 | _ :: _,[],_,_,h=>by simp [lookV] at h
theorem fieldV_mem:∀ (ns:List Str) (vs:List Val) (s:Str) (v:Val),fieldV ns vs s=some v→v∈vs
 | n :: ns,w :: vs,s,v,h=>by
  unfold fieldV at h
  split at h
  ·cases h; exact List.mem_cons_self
  ·exact List.mem_cons_of_mem _ (fieldV_mem ns vs s v h)
 | [],_,_,_,h=>by simp [fieldV] at h
 | _ :: _,[],_,_,h=>by simp [fieldV] at h
def RightS (ns:List Str) (vs:List Val):Prop:=ns.length=vs.length∧∀ v∈vs,Rv v
theorem rq_bool {r:X Val} (h:RQ r Rv):RQ (boolX r) fun _=>True:=rq_bind h fun _ _=>rq_ite (fun _=>rq_ok trivial) (fun _=>rq_er)
theorem rq_list {r:Exp→X Val} (h:∀ e,RQ (r e) Rv):∀ l,RQ (listX r l) fun vs=>vs.length=l.length∧∀ v∈vs,Rv v
 | []=>rq_ok ⟨rfl,fun v hv=>by cases hv⟩
 | e :: l=>rq_bind (h e) fun v hv=>rq_bind (rq_list h l) fun vs hvs=>rq_ok ⟨by simp [hvs.1],fun w hw=>by
  rcases List.mem_cons.1 hw with rfl | hw
  ·exact hv
  ·exact hvs.2 w hw⟩
theorem getSt_right {st:List (List Val)} (h:∀ l∈st,∀ v∈l,Rv v) (i k:Nat) (hd:Rv default):Rv (getSt st i k):=by
 unfold getSt
 rw [List.getD_eq_getElem?_getD,List.getD_eq_getElem?_getD]
 cases h1:st[i]? with
 | none=>simpa using hd
 | some l =>
  simp only [Option.getD_some]
  cases h2:l[k]? with
  | none=>simpa using hd
  | some v=>exact h l (List.mem_of_getElem? h1) v (List.mem_of_getElem? h2)
theorem rq_enter {p:List Mod} {r:Ev} {a:Int} {f:Fun} {l:List Val} (hr:∀ o ns vs e,RightS ns vs→RQ (r o ns vs e) Rv) (hl:l.length=f.params.length) (hv:∀ v∈l,Rv v):RQ (enterX p r a f l) Rv:=by
 have e0:∀ m,enterX p r a f l m=if m.frames < 60 then ((r a (f.params.map (·.1)) l f.body).bind fun v=>.upd (fun m=>{ m with frames:=m.frames - 1 }) (.ok v)) (entM p a f l m) else .er 6 m:=fun m=>by
  unfold enterX X.get
  by_cases h:m.frames < 60
  ·simp only [h,if_true]; rfl
  ·simp only [h,if_false]; rfl
 intro m hm
 rw [e0]
 split
 ·have hb:RQ ((r a (f.params.map (·.1)) l f.body).bind fun v=>.upd (fun m=>{ m with frames:=m.frames - 1 }) (.ok v)) Rv :=
   rq_bind (hr _ _ _ _ ⟨by simp [hl],hv⟩) fun _ hv m hm=>⟨hm,rfl,fun a s e=>by cases e; exact hv⟩
  have hm':RightM (entM p a f l m):=by
   refine ⟨hm.1,fun c hc=>?_⟩
   simp only [entM] at hc
   split at hc
   ·rcases List.mem_append.1 hc with h | h
    ·exact hm.2 c h
    ·simp only [List.mem_singleton] at h
     subst h
     exact hv
   ·exact hm.2 c hc
  exact hb _ hm'
 ·exact ⟨hm,rfl,fun _ _ e=>by cases e⟩
theorem right_step {p:List Mod} {r:Ev} (hr:∀ o ns vs e,RightS ns vs→RQ (r o ns vs e) Rv) (o:Int) (ns:List Str) (vs:List Val) (e:Exp) (hs:RightS ns vs):RQ (stepX p r o ns vs e) Rv:=by
 have tick:∀ y:X Val,RQ y Rv→RQ (tickX y) Rv:=fun y hy m hm=>by
  unfold tickX X.get
  by_cases h:m.fuel≤0
  ·simp only [h,if_true]; exact ⟨hm,rfl,fun _ _ e=>by cases e⟩
  ·simp only [h,if_false]; exact hy { m with fuel:=m.fuel - 1 } hm
 have H:=fun e=>hr o ns vs e hs
 refine tick _ ?_
 refine rq_ite (fun _=>rq_er) fun _=>rq_ite (fun _=>rq_ok (right_num _)) fun _=>rq_ite (fun _=>rq_ite (fun _=>rq_ok (right_truth _)) fun _=>rq_er) fun _=>rq_ite (fun _=>?_) fun _ =>
  rq_ite (fun _=>?_) fun _=>rq_ite (fun _=>?_) fun _=>rq_ite (fun _=>?_) fun _=>rq_ite (fun _=>?_) fun _=>rq_ite (fun _=>?_) fun _=>rq_ite (fun _=>?_) fun _=>rq_ite (fun _=>?_) fun _ =>
  rq_ite (fun _=>?_) fun _=>rq_ite (fun _=>?_) fun _=>?_
 ·split
  ·rename_i v hv
   exact rq_ok (hs.2 v (look_mem _ _ _ _ hv))
  ·exact rq_er
 ·refine rq_bind (H _) fun a ha=>rq_bind (H _) fun b hb=>?_
  unfold binX
  exact rq_ite (fun _=>rq_ite (fun _=>rq_ok (right_truth _)) fun _=>rq_er) fun _=>rq_ite (fun _=>rq_ite (fun _=>rq_ok (right_num _)) fun _=>rq_ite (fun _=>rq_ok (right_num _)) fun _=>rq_ite (fun _=>rq_ok (right_num _)) fun _=>rq_ok (right_truth _)) fun _=>rq_er
 ·exact rq_bind (rq_bool (H _)) fun a _=>rq_ite (fun _=>rq_ok (right_truth _)) fun _=>rq_bind (rq_bool (H _)) fun b _=>rq_ok (right_truth _)
 ·exact rq_bind (rq_bool (H _)) fun a _=>rq_ok (right_truth _)
 ·exact rq_bind (rq_bool (H _)) fun a _=>rq_ite (fun _=>H _) fun _=>H _
 ·exact rq_bind (H _) fun v hv=>hr _ _ _ _ ⟨by simp [hs.1],fun w hw=>by
   rcases List.mem_append.1 hw with h | h
   ·exact hs.2 w h
   ·simp only [List.mem_singleton] at h; subst h; exact hv⟩
 ·unfold recordX
  exact rq_ite (fun h1=>rq_ite (fun h2=>rq_bind (rq_list H _) fun vs hvs=>rq_ite (fun h3=>rq_ok (right_rec (by rw [hvs.1]; exact h1.1) h1.2 h2 hvs.2 h3)) fun _=>rq_er) fun _=>rq_er) fun _=>rq_er
 ·refine rq_bind (H _) fun v hv=>?_
  split
  ·rename_i x hx
   exact rq_ite (fun _=>rq_ok (right_field hv (fieldV_mem _ _ _ _ hx))) fun _=>rq_er
  ·exact rq_er
 ·unfold callX
  simp only
  split
  ·exact rq_er
  ·rename_i f hf
   exact rq_ite (fun _=>rq_ite (fun h2=>rq_bind (rq_list H _) fun l hl=>rq_enter hr (by rw [hl.1,h2]) hl.2) fun _=>rq_er) fun _=>rq_er
 ·unfold actX
  exact rq_bind (H _) fun v hv=>rq_ite (fun _=>rq_ite (fun _ m hm=>⟨hm,rfl,fun a s e=>by cases e; exact right_num _⟩) fun _=>rq_er) fun _=>rq_er
 ·unfold varX
  refine rq_ite (fun _=>rq_er) fun ho=>?_
  simp only
  refine rq_ite (fun _=>rq_er) fun hi=>rq_ite (fun _=>rq_bind (H _) fun v hv m hm=>⟨⟨?_,hm.2⟩,?_,fun a s e=>by cases e; exact hv⟩) fun _ m hm=>⟨hm,rfl,fun a s e=>by cases e; exact getSt_right hm.1 _ _ (right_num 0)⟩
  ·intro l hl w hw
   simp only [X.upd,X.ok,Rs.st,setSt] at hl
   obtain ⟨j,hj⟩:=List.mem_iff_getElem?.1 hl
   rw [List.getElem?_modify] at hj
   cases h1:m.state[j]? with
   | none=>simp [h1] at hj
   | some l0 =>
    rw [h1] at hj
    simp only [Option.map_eq_map,Option.map_some,Option.some.injEq] at hj
    have hold:=hm.1 l0 (List.mem_of_getElem? h1)
    split at hj
    ·subst hj
     rcases List.mem_or_eq_of_mem_set hw with h | h
     ·exact hold w h
     ·subst h; exact hv
    ·subst hj
     exact hold w hw
  ·simp only [X.upd,X.ok,Rs.st,shapeM,setSt]
   apply List.ext_getElem?
   intro j
   rw [List.getElem?_map,List.getElem?_map,List.getElem?_modify]
   cases m.state[j]? with
   | none=>rfl
   | some l0 =>
    simp only [Option.map_some]
    split <;> simp
theorem right_eval {p:List Mod}:∀ (n:Nat) (o:Int) (ns:List Str) (vs:List Val) (e:Exp),RightS ns vs→RQ (evalX p n o ns vs e) Rv
 | 0,_,_,_,_,_=>rq_er
 | n + 1,o,ns,vs,e,hs=>right_step (fun o ns vs e h=>right_eval n o ns vs e h) o ns vs e hs
end Go.Av.Ap

/- Runs of programs, in plain terms, and their laws. No condition. -/
namespace Go.Av.Ap
def startM (world:List Int) (fuel:Int) (st:List (List Val)):Ms:=⟨fuel,0,world,[],[],st⟩
def expX (e:Exp) (ns:List Str) (vs:List Val):Rs Val :=
 if ns.length=vs.length∧vs.all (fitsP 4)=true then evalX [] 100000 (-1) ns vs e (startM [] 100000 []) else .er 1 (startM [] 100000 [])
def belongs (p:List Mod) (st:List Vars):Bool:=all2 (fun (m:Mod) (v:Vars)=>v.module == m.name&&(v.values.length == m.vars.length&&v.values.all (fitsP 4))) p st
def errO (e:Int):Out:=⟨e,default,[],[],[]⟩
def outOf (ns:List Str):Rs Val→Out
 | .ok v m=>⟨0,v,m.deeds,m.calls,List.zipWith Vars.mk ns m.state⟩
 | .er e m=>⟨e,default,m.deeds,m.calls,List.zipWith Vars.mk ns m.state⟩
inductive Runs (p:List Mod) (st:List Vars) (args:List Val) (world:List Int) (fuel:Int) (o:Out):Prop where
 | bad (e:Int) (h:o=errO e) (hall:e≠16)
 | go (a:Int) (f:Fun) (hf:f∈(p[a.toNat]?.getD default).funcs) (ha:¬ a < 0) (hl:a.toNat < p.length) (hargs:args.length=f.params.length) (hv:∀ v∈args,Rv v) (hb:belongs p st=true) (hfu:0≤fuel∧fuel≤100000)
   (h:o=outOf (st.map (·.module)) (enterX p (evalX p 100000) a f args (startM world fuel (st.map (·.values)))))
end Go.Av.Ap

/- What a run records can be reached: the plain law. No condition. -/
namespace Go.Av.Ap
open Go Go.Av
theorem idx_find {α:Type} {F:α→Bool}:∀ (l:List α) (i:Int),0≤i→(l.find? F=none∧idxAt F l i < 0)∨∃ (k:Nat) (h:k < l.length),idxAt F l i=i + k∧l.find? F=some l[k]
 | [],i,hi=>.inl ⟨rfl,by simp [idxAt]⟩
 | x :: l,i,hi=>by
  by_cases hx:F x=true
  ·exact .inr ⟨0,by simp,by simp [idxAt,hx],by simp [List.find?_cons,hx]⟩
  ·have hx':F x=false:=by simpa using hx
   rcases idx_find l (i + 1) (by omega) with ⟨h1,h2⟩ | ⟨k,hk,h1,h2⟩
   ·exact .inl ⟨by rw [List.find?_cons_of_neg (by simp [hx']),h1],by simp [idxAt,hx']; exact h2⟩
   ·exact .inr ⟨k + 1,by simpa using hk,by simp [idxAt,hx']; omega,by simp [List.find?_cons,hx',h2]⟩
section
variable (R:Ref→Prop) (E:Int→Prop)
def AddOK (m m':Ms):Prop:=(∀ c∈m'.calls,c∈m.calls∨R (c.module,c.func))∧(∀ d∈m'.deeds,d∈m.deeds∨E d.effect)
variable {R E}
theorem AddOK.refl (m:Ms):AddOK R E m m:=⟨fun c h=>.inl h,fun d h=>.inl h⟩
theorem AddOK.trans {a b c:Ms} (h1:AddOK R E a b) (h2:AddOK R E b c):AddOK R E a c:=⟨fun x hx=>by
 rcases h2.1 x hx with h | h
 ·exact h1.1 x h
 ·exact .inr h,fun x hx=>by
 rcases h2.2 x hx with h | h
 ·exact h1.2 x h
 ·exact .inr h⟩
end
def SubB (a b:BitVec 64):Prop:=a ||| b=b
theorem SubB.refl (a:BitVec 64):SubB a a:=BitVec.or_self
theorem SubB.trans {a b c:BitVec 64} (h1:SubB a b) (h2:SubB b c):SubB a c:=by
 unfold SubB at *
 rw [← h2,← BitVec.or_assoc,h1]
end Go.Av.Ap

/- Who was reached by a bad function, in plain terms. No condition. -/
namespace Go.Av.Ap
open Go Go.Av
def ordI (a b:Int):Int:=if a < b then -1 else if b < a then 1 else 0
def cmpV (v w:Ver):Int:=if v.a≠w.a then ordI v.a w.a else if v.b≠w.b then ordI v.b w.b else ordI v.c w.c
def inR (x:Rng) (v:Ver):Bool:=decide (cmpV x.lo v≤0)&&decide (cmpV v x.hi < 0)
def hasV (l:List Rng) (v:Ver):Bool:=l.any fun x=>inR x v
def badX (s:Seen) (a:Adv):Option Fun:=match funcX s.prog (modAt s.prog a.name) a.func with
 | none=>none
 | some f=>if (modAt s.prog a.name).toNat < s.vsns.length∧hasV a.ranges (s.vsns[(modAt s.prog a.name).toNat]?.getD default)=true then some f else none
def badRef (a:Adv):Ref:=(a.name,a.func)
def meetsX (f:Fun) (a:Adv) (c:Call):Bool×Bool :=
 if c.module=a.name∧c.func=a.func∧c.args.length=f.params.length then (match expX a.cond (f.params.map (·.1)) c.args with
  | .ok v _=>if v.kind=1 then (v.n == 1,false) else (false,true)
  | .er _ _=>(false,true))
 else (false,false)
def idxL {α:Type} (q:α→Bool):List α→Int→List Int
 | [],_=>[]
 | x :: l,k=>(if q x=true then [k] else [])++idxL q l (k + 1)
theorem idxL_nil {α:Type} {q:α→Bool}:∀ {l:List α} {k:Int},idxL q l k = [] ↔ ∀ x∈l,q x=false
 | [],k=>by simp [idxL]
 | x :: l,k=>by
  simp only [idxL,List.append_eq_nil_iff,idxL_nil (l:=l),List.mem_cons,forall_eq_or_imp]
  cases q x <;> simp
def didX (s:Seen) (a:Adv):List Int:=match badX s a with
 | none=>[]
 | some f=>idxL (fun c=>(meetsX f a c).1) s.calls 0
section
variable (U:List Mod→Ref→List Ref)
def couldX (s:Seen) (a:Adv):List Ref:=if (badX s a).isSome=true then U s.prog (badRef a) else []
def mayX (U:List Mod→Ref→List Ref) (s:Seen) (a:Adv) (f:Fun) (c:Call):Bool:=(meetsX f a c).2||(!f.pub&&decide ((c.module,c.func)∈couldX U s a))
def judgeX (s:Seen) (a:Adv):Int:=match badX s a with
 | none=>0
 | some f=>if s.calls.any (fun c=>(meetsX f a c).1)=true then 2 else if couldX U s a = [] then 0 else if s.whole=false then 1 else if s.calls.any (mayX U s a f)=true then 1 else 0
def askX (l:List Seen) (a:Adv):List Int:=idxL (fun s=>!s.whole&&judgeX U s a == 1) l 0
end
end Go.Av.Ap

/- How the state of an evaluation lies in the abstract heap. No condition. -/
namespace Go.Av.Ap
theorem bnd_ok {α β:Type} {m:M α} {f:α→M β} {h h':Hp} {a:α} (e:m h = .ok a h'):bnd m f h=f a h':=by simp only [bnd,e]
theorem bnd_pan {α β:Type} {m:M α} {f:α→M β} {h h':Hp} {v:AV} (e:m h = .pan v h'):bnd m f h = .pan v h':=by simp only [bnd,e]
def valCells (l:List Val):List AV:=l.flatMap fun v=>acells v.av
theorem valCells_len (l:List Val):(valCells l).length=l.length * 4:=by
 induction l with
 | nil=>rfl
 | cons v l ih=>simp only [valCells,List.flatMap_cons,List.length_append] at ih ⊢; rw [ih]; simp; omega
theorem valCells_get {l:List Val} {k:Nat} (h:k < l.length):((valCells l).drop (k * 4)).take 4=acells (l[k]).av:=by
 induction l generalizing k with
 | nil=>simp at h
 | cons v l ih =>
  cases k with
  | zero=>simp [valCells]
  | succ k =>
   have:=ih (k:=k) (by simpa using h)
   simp only [valCells,List.flatMap_cons] at this ⊢
   have e:(k + 1) * 4=(acells v.av).length + k * 4:=by simp; omega
   rw [e,List.drop_append,List.getElem_cons_succ]
   simp only [Nat.add_sub_cancel_left]
   rw [List.drop_of_length_le (by omega),List.nil_append]
   exact this
theorem valCells_set {l:List Val} {k:Nat} (h:k < l.length) (v:Val):setCells (valCells l) (k * 4) (acells v.av)=valCells (l.set k v):=by
 induction l generalizing k with
 | nil=>simp at h
 | cons w l ih =>
  cases k with
  | zero =>
   simp only [setCells,valCells,List.flatMap_cons,Nat.zero_mul,List.take_zero,List.nil_append,List.set_cons_zero]
   congr 1
   have:0 + (acells v.av).length=(acells w.av).length:=by simp
   rw [this,List.drop_left]
  | succ k =>
   have:=ih (k:=k) (by simpa using h)
   simp only [setCells,valCells,List.flatMap_cons,List.set_cons_succ] at this ⊢
   have e:(k + 1) * 4=(acells w.av).length + k * 4:=by simp; omega
   have e2:(acells w.av).length + k * 4 + (acells v.av).length - (acells w.av).length=k * 4 + (acells v.av).length:=by omega
   have e3:(acells w.av).length + k * 4 - (acells w.av).length=k * 4:=by omega
   rw [e,List.take_append,List.drop_append,e2,e3,List.take_of_length_le (by omega),List.drop_of_length_le (by omega)]
   simp only [List.nil_append,List.append_assoc]
   congr 1
   rw [← List.append_assoc]
   exact this
def deedCells (l:List Deed):List AV:=l.flatMap fun d=>[.int .i64 d.effect,.int .i64 d.arg,.int .i64 d.answer]
def ArgR (tag:Nat→Nat) (k:Nat) (h:Hp) (l:List Val) (v:AV):Prop:=v=vals l∨∃ r,v = .hs r 0 l.length 4 true∧tag r=k∧h[r]? = some (valCells l)
def CallsR (tag:Nat→Nat) (h:Hp):List Call→List AV→Prop
 | [],cs=>cs = []
 | c :: l,cs=>∃ av rest,cs = .str c.module :: .str c.func :: av :: rest∧ArgR tag 4 h c.args av∧CallsR tag h l rest
def StatesR (tag:Nat→Nat) (h:Hp):Nat→List Str→List (List Val)→List AV→Prop
 | _,[],[],cs=>cs = []
 | i,n :: ns,l :: st,cs=>∃ av rest,cs = .str n :: av :: rest∧((l = []∧av = .sl [])∨∃ r,av = .hs r 0 l.length 4 true∧tag r=6 + i∧h[r]? = some (valCells l))∧StatesR tag h (i + 1) ns st rest
 | _,_,_,_=>False
def SlR (tag:Nat→Nat) (k sz n:Nat) (cells:List AV→Prop) (v:AV) (h:Hp):Prop:=(n=0∧v = .hn)∨∃ q cs,v = .hs q 0 n sz true∧0 < n∧tag q=k∧h[q]? = some cs∧cs.length=n * sz∧cells cs
structure SNm where
 names:List Str
 sv:AV
 cells:List AV
 told:Bool
structure RepT (row:Ms→AV→AV→AV→List AV) (nm:SNm) (tag:Nat→Nat) (dv cv sv:AV) (m:Ms) (h:Hp):Prop where
 r0:h[0]? = some (row m dv cv sv)
 t0:tag 0=0
 ds:SlR tag 2 3 m.deeds.length (fun cs=>cs=deedCells m.deeds) dv h
 cs:SlR tag 3 3 m.calls.length (fun cs=>CallsR tag h m.calls cs) cv h
 st:SlR tag 5 2 m.state.length (fun cs=>cs=nm.cells∧StatesR tag h 0 nm.names m.state cs) sv h
 sve:sv=nm.sv
 wok:nm.told=true→m.world = []
def Rep (row:Ms→AV→AV→AV→List AV) (nm:SNm) (m:Ms) (h:Hp):Prop:=∃ tag dv cv sv,RepT row nm tag dv cv sv m h
def Kp (tag tag':Nat→Nat) (ks:Nat→Prop) (h h':Hp):Prop:=∀ r cs,h[r]? = some cs→¬ ks (tag r)→h'[r]? = some cs∧tag' r=tag r
theorem ArgR.keep {tag tag':Nat→Nat} {ks:Nat→Prop} {h h':Hp} (K:Kp tag tag' ks h h') {k:Nat} (hk:¬ ks k) {l:List Val} {v:AV} (H:ArgR tag k h l v):ArgR tag' k h' l v:=by
 rcases H with H | ⟨r,h1,h2,h3⟩
 ·exact .inl H
 ·have:=K r _ h3 (by rw [h2]; exact hk)
  exact .inr ⟨r,h1,this.2.trans h2,this.1⟩
theorem CallsR.keep {tag tag':Nat→Nat} {ks:Nat→Prop} {h h':Hp} (K:Kp tag tag' ks h h') (hk:¬ ks 4):{l:List Call} → {cs:List AV} → CallsR tag h l cs→CallsR tag' h' l cs
 | [],_,H=>H
 | _ :: _,_,⟨av,rest,h1,h2,h3⟩=>⟨av,rest,h1,h2.keep K hk,h3.keep K hk⟩
theorem StatesR.keep {tag tag':Nat→Nat} {ks:Nat→Prop} {h h':Hp} (K:Kp tag tag' ks h h') (hk:∀ i,¬ ks (6 + i)):{i:Nat} → {nm:List Str} → {st:List (List Val)} → {cs:List AV} → StatesR tag h i nm st cs→StatesR tag' h' i nm st cs
 | _,[],[],_,H=>H
 | i, _ :: _,_ :: _,_,⟨av,rest,h1,h2,h3⟩=>⟨av,rest,h1,by
   rcases h2 with h2 | ⟨r,g1,g2,g3⟩
   ·exact .inl h2
   ·have:=K r _ g3 (by rw [g2]; exact hk i)
    exact .inr ⟨r,g1,this.2.trans g2,this.1⟩,StatesR.keep K hk h3⟩
 | _,[],_ :: _,_,H=>H.elim
 | _,_ :: _,[],_,H=>H.elim
theorem SlR.keep {tag tag':Nat→Nat} {ks:Nat→Prop} {h h':Hp} (K:Kp tag tag' ks h h') {k sz n:Nat} {c c':List AV→Prop} {v:AV} (hk:¬ ks k) (hc:∀ cs,c cs→c' cs) (H:SlR tag k sz n c v h):SlR tag' k sz n c' v h':=by
 rcases H with H | ⟨q,cs,h1,h2,h3,h4,h5,h6⟩
 ·exact .inl H
 ·have:=K q _ h4 (by rw [h3]; exact hk)
  exact .inr ⟨q,cs,h1,h2,this.2.trans h3,this.1,h5,hc _ h6⟩
theorem RepT.set0 {row:Ms→AV→AV→AV→List AV} {nm:SNm} {tag:Nat→Nat} {dv cv sv:AV} {m m':Ms} {h:Hp} (R:RepT row nm tag dv cv sv m h) (h1:m'.deeds=m.deeds) (h2:m'.calls=m.calls) (h3:m'.state=m.state) (h4:m.world = []→m'.world = []) :
  RepT row nm tag dv cv sv m' (h.set 0 (row m' dv cv sv)):=by
 have hlt:0 < h.length:=(List.getElem?_eq_some_iff.1 R.r0).1
 have K:Kp tag tag (fun k=>k=0) h (h.set 0 (row m' dv cv sv)):=fun r cs hr hk=>by
  have:r≠0:=fun e=>hk (by rw [e]; exact R.t0)
  exact ⟨by rw [List.getElem?_set_ne (Ne.symm this)]; exact hr,rfl⟩
 refine ⟨by rw [List.getElem?_set_self hlt],R.t0,?_,?_,?_,R.sve,fun t=>h4 (R.wok t)⟩
 ·rw [h1]; exact R.ds.keep K (by decide) fun _ h=>h
 ·rw [h2]; exact R.cs.keep K (by decide) fun _ h=>h.keep K (by decide)
 ·rw [h3]; exact R.st.keep K (by decide) fun _ h=>⟨h.1,h.2.keep K (by omega)⟩
theorem RepT.more {row:Ms→AV→AV→AV→List AV} {nm:SNm} {tag:Nat→Nat} {dv cv sv:AV} {m:Ms} {h:Hp} (R:RepT row nm tag dv cv sv m h) (x:List AV) (k:Nat) :
  RepT row nm (fun i=>if i=h.length then k else tag i) dv cv sv m (h++[x])∧Kp tag (fun i=>if i=h.length then k else tag i) (fun _=>False) h (h++[x]):=by
 have K:Kp tag (fun i=>if i=h.length then k else tag i) (fun _=>False) h (h++[x]):=fun r cs hr _=>by
  have hlt:r < h.length:=(List.getElem?_eq_some_iff.1 hr).1
  exact ⟨by rw [List.getElem?_append_left hlt]; exact hr,by simp only; rw [if_neg (by omega)]⟩
 exact ⟨⟨(K 0 _ R.r0 id).1,(K 0 _ R.r0 id).2.trans R.t0,R.ds.keep K id fun _ h=>h,R.cs.keep K id fun _ h=>h.keep K id,R.st.keep K id fun _ h=>⟨h.1,h.2.keep K (fun _=>id)⟩,R.sve,R.wok⟩,K⟩
theorem Kp.kill {tag:Nat→Nat} {h:Hp} {q:Nat} {k:Nat} (hq:tag q=k) (x:List AV):Kp tag tag (fun j=>j=k) h (h.set q x):=fun r cs hr hk=>by
 have:r≠q:=fun e=>hk (by rw [e]; exact hq)
 exact ⟨by rw [List.getElem?_set_ne (Ne.symm this)]; exact hr,rfl⟩
theorem loadH_one {T:TT} {t:Nat} {ti:TI} (ht:T t=some ti) (ha:ti.agg=false) {h:Hp} {l k:Nat} {cs:List AV} {v:AV} (h0:h[l]? = some cs) (h1:cs[k]? = some v):loadH T t (.hp l k) h = .ok v h:=by
 simp [loadH,ht,h0,ha,h1]
theorem loadH_agg {T:TT} {t:Nat} {ti:TI} (ht:T t=some ti) (ha:ti.agg=true) {h:Hp} {l k:Nat} {cs:List AV} (h0:h[l]? = some cs) (hle:k + ti.size≤cs.length):loadH T t (.hp l k) h = .ok (.agg ((cs.drop k).take ti.size)) h:=by
 simp [loadH,ht,h0,ha,hle]
theorem storeH_ok {T:TT} {t:Nat} {ti:TI} (ht:T t=some ti) {h:Hp} {l k:Nat} {cs:List AV} {v:AV} (h0:h[l]? = some cs) (hv:okEl ti.size v=true) (hle:k + ti.size≤cs.length) (hp:0 < ti.size) :
  storeH T t (.hp l k) v h = .ok (.tup []) (h.set l (setCells cs k (acells v))):=by
 simp [storeH,ht,h0,hv,hle,hp]
theorem appH_nil {T:TT} {t e:Nat} {ti ei:TI} (ht:T t=some ti) (hk:ti.kind = .slice e) (he:T e=some ei) {x:AV} (hx:okEl ei.size x=true) (hb:0 < ei.bytes) (hs:0 < ei.size) (hc:ei.bytes≤140737488355328) (h:Hp) :
  appH T t false .hn (.sl [x]) h = .ok (.hs h.length 0 1 ei.size ei.agg) (h++[acells x]):=by
 have:okSz ei.size [x] = true:=by simp [okSz,hx]
 simp [appH,ht,hk,he,elsOf,this,hb,hs,strOk,hc]
theorem appH_row {T:TT} {t e:Nat} {ti ei:TI} (ht:T t=some ti) (hk:ti.kind = .slice e) (he:T e=some ei) {x:AV} (hx:okEl ei.size x=true) (hb:0 < ei.bytes) (hs:0 < ei.size) {h:Hp} {q n:Nat} {cs:List AV} (h0:h[q]? = some cs) (hok:cs.all okCell=true)
  (hl:cs.length=n * ei.size) (hn:0 < n) (hc:(n + 1) * ei.bytes≤140737488355328):appH T t false (.hs q 0 n ei.size ei.agg) (.sl [x]) h = .ok (.hs h.length 0 (n + 1) ei.size ei.agg) ((h.set q [])++[cs++acells x]):=by
 have h1:okSz ei.size [x] = true:=by simp [okSz,hx]
 have h2:List.all cs okCell=true:=hok
 simp only [appH,ht,hk,he,elsOf,h1,hb,hs,strOk,h0,h2,hl,hn,decide_true,Bool.and_self,cond_true,beq_self_eq_true,List.length_singleton,List.isEmpty_cons,cond_false,List.flatMap_cons,List.flatMap_nil,List.append_nil]
 have h5:cs.take (n * ei.size)=cs:=List.take_of_length_le (by omega)
 have h6:0 < n * ei.size:=Nat.mul_pos hn hs
 rw [decide_eq_true hc,h5]
 simp [h6]
theorem cloneH_vals {T:TT} {t e:Nat} {ti ei:TI} (ht:T t=some ti) (hk:ti.kind = .slice e) (he:T e=some ei) (h4:ei.size=4) (hag:ei.agg=true) (hb:0 < ei.bytes) (call:FuncId→List AV→M AV) (l:List Val) (hc:l.length * ei.bytes≤140737488355328) (h:Hp) :
  cloneH T t call [vals l] h=if l = [] then .ok (vals []) h else .ok (.hs h.length 0 l.length 4 true) (h++[valCells l]):=by
 have h1:okSz 4 (valsAv l)=true:=okSz_vals l
 have hlen:(valsAv l).length=l.length:=by simp [valsAv_map]
 have hfl:(valsAv l).flatMap acells=valCells l:=by simp [valsAv_map,valCells,List.flatMap_map]
 cases l with
 | nil=>simp [cloneH,appH,ht,hk,he,elsOf,hb,h4,strOk,vals,valsAv,okSz]
 | cons v l =>
  have hne:(valsAv (v :: l)).isEmpty=false:=rfl
  unfold cloneH vals appH
  simp only [ht,hk,he,elsOf,h4,h1,hb,strOk,decide_true,Bool.and_self,Bool.and_true,cond_true,hne,cond_false,hlen,hfl,hag]
  rw [decide_eq_true hc]
  simp
theorem CallsR.ok {tag:Nat→Nat} {h:Hp}:{l:List Call} → {cs:List AV} → CallsR tag h l cs→cs.all okCell=true∧cs.length=l.length * 3
 | [],cs,H=>by cases H; exact ⟨rfl,rfl⟩
 | c :: l,_,⟨av,rest,h1,h2,h3⟩=>by
  subst h1
  obtain ⟨g1,g2⟩:=h3.ok
  have:okCell av=true:=by
   rcases h2 with rfl | ⟨r,rfl,_⟩ <;> rfl
  refine ⟨?_,by simp [g2]; omega⟩
  rw [List.all_cons,List.all_cons,List.all_cons,this,g1]
  rfl
theorem CallsR.snoc {tag:Nat→Nat} {h:Hp} {c:Call} {av:AV} (ha:ArgR tag 4 h c.args av):{l:List Call} → {cs:List AV} → CallsR tag h l cs→CallsR tag h (l++[c]) (cs++[.str c.module,.str c.func,av])
 | [],cs,H=>by cases H; exact ⟨av,[],rfl,ha,rfl⟩
 | d :: l,_,⟨av',rest,h1,h2,h3⟩=>⟨av',rest++[.str c.module,.str c.func,av],by rw [h1]; rfl,h2,CallsR.snoc ha h3⟩
theorem deedCells_ok (l:List Deed):(deedCells l).all okCell=true:=by simp [deedCells,okCell]
theorem StatesR.at {tag:Nat→Nat} {h:Hp}:{i:Nat} → {nm:List Str} → {st:List (List Val)} → {cs:List AV} → StatesR tag h i nm st cs→∀ (j:Nat) (l:List Val),st[j]? = some l →
  ∃ av,cs[j * 2 + 1]? = some av∧((l = []∧av = .sl [])∨∃ r,av = .hs r 0 l.length 4 true∧tag r=6 + (i + j)∧h[r]? = some (valCells l))
 | _,[],[],_,_,j,l,hj=>by simp at hj
 | i,_ :: _,_ :: _,_,⟨av,rest,h1,h2,h3⟩,j,l,hj=>by
  subst h1
  cases j with
  | zero=>simp at hj; subst hj; exact ⟨av,rfl,h2⟩
  | succ j =>
   obtain ⟨av',g1,g2⟩:=h3.at j l (by simpa using hj)
   refine ⟨av',?_,?_⟩
   ·rw [show (j + 1) * 2 + 1=j * 2 + 1 + 2 by omega]; simpa using g1
   ·rw [show i + (j + 1)=i + 1 + j by omega]; exact g2
 | _,[],_ :: _,_,H,_,_,_=>H.elim
 | _,_ :: _,[],_,H,_,_,_=>H.elim
theorem StatesR.len {tag:Nat→Nat} {h:Hp}:{i:Nat} → {nm:List Str} → {st:List (List Val)} → {cs:List AV} → StatesR tag h i nm st cs→nm.length=st.length
 | _,[],[],_,_=>rfl
 | _,_ :: _,_ :: _,_,⟨_,_,_,_,h3⟩=>by simp [h3.len]
 | _,[],_ :: _,_,H=>H.elim
 | _,_ :: _,[],_,H=>H.elim
theorem StatesR.set {tag:Nat→Nat} {h:Hp} {r k:Nat} {v:Val}:{i:Nat} → {nm:List Str} → {st:List (List Val)} → {cs:List AV} → StatesR tag h i nm st cs→∀ (j:Nat) (l:List Val),st[j]? = some l→tag r=6 + (i + j)→h[r]? = some (valCells l)→cs[j * 2 + 1]? = some (.hs r 0 l.length 4 true) →
  k < l.length→StatesR tag (h.set r (valCells (l.set k v))) i nm (setSt st j k v) cs
 | _,[],[],_,_,j,l,hj,_,_,_,_=>by simp at hj
 | i, n :: ns,l0 :: st,_,⟨av,rest,h1,h2,h3⟩,j,l,hj,ht,hr,hc,hk=>by
  subst h1
  have hlt:r < h.length:=(List.getElem?_eq_some_iff.1 hr).1
  cases j with
  | zero =>
   simp only [List.getElem?_cons_zero,Option.some.injEq] at hj
   subst hj
   simp only [Nat.zero_mul,Nat.zero_add,List.getElem?_cons_succ,List.getElem?_cons_zero,Option.some.injEq] at hc
   have e:setSt (l0 :: st) 0 k v=l0.set k v :: st:=by simp [setSt]
   rw [e]
   refine ⟨av,rest,rfl,.inr ⟨r,by rw [hc,List.length_set],ht,List.getElem?_set_self hlt⟩,?_⟩
   have K:Kp tag tag (fun t=>t=6 + i) h (h.set r (valCells (l0.set k v))):=Kp.kill (by rw [ht]; rfl) _
   have key:∀ {i':Nat} {nm':List Str} {st':List (List Val)} {cs':List AV},i < i'→StatesR tag h i' nm' st' cs'→StatesR tag (h.set r (valCells (l0.set k v))) i' nm' st' cs':=by
    intro i' nm' st'
    induction st' generalizing i' nm' with
    | nil=>intro cs' hi H; cases nm' with
     | nil=>exact H
     | cons _ _=>exact H.elim
    | cons a st' ih=>intro cs' hi H; cases nm' with
     | nil=>exact H.elim
     | cons b nm' =>
      obtain ⟨av2,rest2,k1,k2,k3⟩:=H
      refine ⟨av2,rest2,k1,?_,ih (by omega) k3⟩
      rcases k2 with k2 | ⟨r2,g1,g2,g3⟩
      ·exact .inl k2
      ·have:=K r2 _ g3 (by rw [g2]; omega)
       exact .inr ⟨r2,g1,g2,this.1⟩
   exact key (Nat.lt_succ_self i) h3
  | succ j =>
   have e:setSt (l0 :: st) (j + 1) k v=l0 :: setSt st j k v:=by simp [setSt]
   rw [e]
   have hc':rest[j * 2 + 1]? = some (.hs r 0 l.length 4 true):=by
    rw [show (j + 1) * 2 + 1=j * 2 + 1 + 2 by omega] at hc
    simpa using hc
   refine ⟨av,rest,rfl,?_,h3.set j l (by simpa using hj) (by rw [ht]; omega) hr hc' hk⟩
   rcases h2 with h2 | ⟨r2,g1,g2,g3⟩
   ·exact .inl h2
   ·have:r2≠r:=fun e=>by rw [e,ht] at g2; omega
    exact .inr ⟨r2,g1,g2,by rw [List.getElem?_set_ne (Ne.symm this)]; exact g3⟩
 | _,[],_ :: _,_,H,_,_,_,_,_,_,_=>H.elim
 | _,_ :: _,[],_,H,_,_,_,_,_,_,_=>H.elim
theorem Kp.trans {a b c:Nat→Nat} {ks js:Nat→Prop} {h h1 h2:Hp} (K:Kp a b ks h h1) (J:Kp b c js h1 h2):Kp a c (fun k=>ks k∨js k) h h2:=fun r cs hr hk=>by
 obtain ⟨k1,k2⟩:=K r cs hr fun h=>hk (.inl h)
 obtain ⟨j1,j2⟩:=J r cs k1 fun h=>hk (.inr (by rwa [k2] at h))
 exact ⟨j1,j2.trans k2⟩
theorem Kp.new (tag:Nat→Nat) (h:Hp) (x:List AV) (k:Nat):Kp tag (fun i=>if i=h.length then k else tag i) (fun _=>False) h (h++[x]):=fun r cs hr _=>by
 have hlt:r < h.length:=(List.getElem?_eq_some_iff.1 hr).1
 exact ⟨by rw [List.getElem?_append_left hlt]; exact hr,by simp only; rw [if_neg (by omega)]⟩
theorem Kp.mono {a b:Nat→Nat} {ks js:Nat→Prop} {h h1:Hp} (K:Kp a b ks h h1) (hj:∀ k,ks k→js k):Kp a b js h h1:=fun r cs hr hk=>K r cs hr fun h=>hk (hj _ h)
theorem push_row {T:TT} {t e:Nat} {ti ei:TI} (ht:T t=some ti) (hk:ti.kind = .slice e) (he:T e=some ei) {sz:Nat} (h3:ei.size=sz) (hsz:0 < sz) (hag:ei.agg=true) (hb:0 < ei.bytes) {tag:Nat→Nat} {k n:Nat} {P:List AV→Prop} {v x:AV} {h:Hp}
  (H:SlR tag k sz n P v h) (hP0:n=0→P []) (hok:∀ cs,P cs→cs.all okCell=true) (hx:okEl sz x=true) (hc:(n + 1) * ei.bytes≤140737488355328) :
  ∃ h1 v' tag',appH T t false v (.sl [x]) h = .ok v' h1∧Kp tag tag' (fun j=>j=k) h h1∧SlR tag' k sz (n + 1) (fun cs'=>∃ cs,P cs∧cs'=cs++acells x) v' h1∧okCell v'=true:=by
 have hxl:(acells x).length=sz:=by
  unfold okEl at hx
  simp only [Bool.and_eq_true,beq_iff_eq] at hx
  have h1:=hx.1
  cases x <;> simp only [sizeA,Option.some.injEq,reduceCtorEq] at h1 <;> simp only [acells,List.length_singleton] <;> exact h1
 have hx':okEl ei.size x=true:=by rw [h3]; exact hx
 rcases H with ⟨hn,rfl⟩ | ⟨q,cs,rfl,hn,hq,hcs,hl,hp⟩
 ·subst hn
  refine ⟨_,_,_,appH_nil ht hk he hx' hb (by omega) (by omega) h,(Kp.new tag h (acells x) k).mono fun _ h=>h.elim,.inr ⟨h.length,acells x,by rw [h3,hag],by omega,by simp,by simp,by simpa using hxl,[],hP0 rfl,rfl⟩,rfl⟩
 ·have e1:=appH_row ht hk he hx' hb (by omega) hcs (hok cs hp) (by rw [h3]; exact hl) hn hc
  rw [h3,hag] at e1
  have K1:Kp tag tag (fun j=>j=k) h (h.set q []):=Kp.kill hq []
  have K2:=Kp.new tag (h.set q []) (cs++acells x) k
  refine ⟨_,_,_,e1,(K1.trans K2).mono fun j h=>h.elim id False.elim,.inr ⟨h.length,cs++acells x,rfl,by omega,by simp,?_,by rw [List.length_append,hl,hxl,Nat.add_mul,Nat.one_mul],cs,hp,rfl⟩,rfl⟩
  have:(h.set q []).length=h.length:=by simp
  rw [← this]
  simp
theorem RepT.pushDeed {row:Ms→AV→AV→AV→List AV} {nm:SNm} {tag tag':Nat→Nat} {dv dv' cv sv:AV} {m m':Ms} {h h1:Hp} {d:Deed} (R:RepT row nm tag dv cv sv m h) (K:Kp tag tag' (fun j=>j=2) h h1)
  (H:SlR tag' 2 3 (m.deeds.length + 1) (fun cs'=>∃ cs,cs=deedCells m.deeds∧cs'=cs++acells d.av) dv' h1) (hd:m'.deeds=m.deeds++[d]) (hc:m'.calls=m.calls) (hs:m'.state=m.state) (h4:m.world = []→m'.world = []):RepT row nm tag' dv' cv sv m' (h1.set 0 (row m' dv' cv sv)):=by
 obtain ⟨k1,k2⟩:=K 0 _ R.r0 (by rw [R.t0]; decide)
 have hlt:0 < h1.length:=(List.getElem?_eq_some_iff.1 k1).1
 have t0:=k2.trans R.t0
 have K0:Kp tag' tag' (fun j=>j=0) h1 (h1.set 0 (row m' dv' cv sv)):=Kp.kill t0 _
 refine ⟨List.getElem?_set_self hlt,t0,?_,?_,?_,R.sve,fun t=>h4 (R.wok t)⟩
 ·rw [hd,List.length_append]
  refine H.keep K0 (by decide) ?_
  rintro cs' ⟨cs,rfl,rfl⟩
  show deedCells m.deeds++[AV.int .i64 d.effect,.int .i64 d.arg,.int .i64 d.answer] = _
  simp [deedCells]
 ·rw [hc]
  exact (R.cs.keep K (c':=CallsR tag' h1 m.calls) (by decide) fun _ h=>h.keep K (by decide)).keep K0 (by decide) fun _ h=>h.keep K0 (by decide)
 ·rw [hs]
  exact (R.st.keep K (c':=fun cs=>cs=nm.cells∧StatesR tag' h1 0 nm.names m.state cs) (by decide) fun _ h=>⟨h.1,h.2.keep K (by omega)⟩).keep K0 (by decide) fun _ h=>⟨h.1,h.2.keep K0 (by omega)⟩
theorem RepT.pushCall {row:Ms→AV→AV→AV→List AV} {nm:SNm} {tag tag':Nat→Nat} {dv cv cv' sv:AV} {m m':Ms} {h h1:Hp} {c:Call} {av:AV} (R:RepT row nm tag dv cv sv m h) (K:Kp tag tag' (fun j=>j=3) h h1) (ha:ArgR tag 4 h c.args av)
  (H:SlR tag' 3 3 (m.calls.length + 1) (fun cs'=>∃ cs,CallsR tag h m.calls cs∧cs'=cs++[.str c.module,.str c.func,av]) cv' h1) (hd:m'.deeds=m.deeds) (hc:m'.calls=m.calls++[c]) (hs:m'.state=m.state) (h4:m.world = []→m'.world = []):RepT row nm tag' dv cv' sv m' (h1.set 0 (row m' dv cv' sv)):=by
 obtain ⟨k1,k2⟩:=K 0 _ R.r0 (by rw [R.t0]; decide)
 have hlt:0 < h1.length:=(List.getElem?_eq_some_iff.1 k1).1
 have t0:=k2.trans R.t0
 have K0:Kp tag' tag' (fun j=>j=0) h1 (h1.set 0 (row m' dv cv' sv)):=Kp.kill t0 _
 refine ⟨List.getElem?_set_self hlt,t0,?_,?_,?_,R.sve,fun t=>h4 (R.wok t)⟩
 ·rw [hd]
  exact (R.ds.keep K (c':=fun cs=>cs=deedCells m.deeds) (by decide) fun _ h=>h).keep K0 (by decide) fun _ h=>h
 ·rw [hc,List.length_append]
  refine H.keep K0 (by decide) ?_
  rintro cs' ⟨cs,hcs,rfl⟩
  exact ((hcs.keep K (by decide)).snoc (ha.keep K (by decide))).keep K0 (by decide)
 ·rw [hs]
  exact (R.st.keep K (c':=fun cs=>cs=nm.cells∧StatesR tag' h1 0 nm.names m.state cs) (by decide) fun _ h=>⟨h.1,h.2.keep K (by omega)⟩).keep K0 (by decide) fun _ h=>⟨h.1,h.2.keep K0 (by omega)⟩
theorem RepT.var {row:Ms→AV→AV→AV→List AV} {nm:SNm} {tag:Nat→Nat} {dv cv sv:AV} {m:Ms} {h:Hp} (R:RepT row nm tag dv cv sv m h) (hrow:∀ st,row { m with state:=st } dv cv sv=row m dv cv sv) {i:Nat} {l:List Val} (hl:m.state[i]? = some l) (hne:l≠[]) :
  ∃ q r,nm.sv = .hs q 0 m.state.length 2 true∧h[q]? = some nm.cells∧nm.cells[i * 2 + 1]? = some (.hs r 0 l.length 4 true)∧nm.cells.length=m.state.length * 2∧h[r]? = some (valCells l) ∧
   ∀ (k:Nat) (v:Val),k < l.length→RepT row nm tag dv cv sv { m with state:=setSt m.state i k v } (h.set r (valCells (l.set k v))):=by
 have hi:i < m.state.length:=(List.getElem?_eq_some_iff.1 hl).1
 rcases R.st with ⟨h0,_⟩ | ⟨q,cs,h1,h2,h3,h4,h5,rfl,h6⟩
 ·omega
 ·obtain ⟨av,g1,g2⟩:=h6.at i l hl
  rcases g2 with ⟨g2,_⟩ | ⟨r,rfl,g3,g4⟩
  ·exact absurd g2 hne
  ·rw [Nat.zero_add] at g3
   refine ⟨q,r,by rw [← R.sve,h1],h4,g1,h5,g4,fun k v hk=>?_⟩
   have K:Kp tag tag (fun j=>j=6 + i) h (h.set r (valCells (l.set k v))):=Kp.kill g3 _
   refine ⟨?_,R.t0,?_,?_,?_,R.sve,R.wok⟩
   ·rw [hrow]; exact (K 0 _ R.r0 (by rw [R.t0]; omega)).1
   ·exact R.ds.keep K (by omega) fun _ h=>h
   ·exact R.cs.keep K (by omega) fun _ h=>h.keep K (by omega)
   ·right
    have hq:r≠q:=fun e=>by rw [e,h3] at g3; omega
    refine ⟨q,nm.cells,by rw [h1]; simp [setSt],by simpa [setSt] using h2,h3,by rw [List.getElem?_set_ne hq]; exact h4,by simpa [setSt] using h5,rfl,?_⟩
    exact h6.set i l hl (by rw [Nat.zero_add]; exact g3) g4 g1 hk
theorem StatesR.snoc {tag:Nat→Nat} {h:Hp} {n:Str} {l:List Val} {av:AV}:{i:Nat} → {nm:List Str} → {st:List (List Val)} → {cs:List AV} → StatesR tag h i nm st cs →
  ((l = []∧av = .sl [])∨∃ r,av = .hs r 0 l.length 4 true∧tag r=6 + (i + st.length)∧h[r]? = some (valCells l))→StatesR tag h i (nm++[n]) (st++[l]) (cs++[.str n,av])
 | i,[],[],cs,H,ha=>by
  have H':cs = []:=H
  subst H'
  exact ⟨av,[],rfl,ha,rfl⟩
 | i,_ :: _,l0 :: st,_,⟨av',rest,h1,h2,h3⟩,ha=>by
  refine ⟨av',rest++[.str n,av],by rw [h1]; rfl,h2,h3.snoc ?_⟩
  rcases ha with ha | ⟨r,g1,g2,g3⟩
  ·exact .inl ha
  ·exact .inr ⟨r,g1,by rw [g2]; simp; omega,g3⟩
 | _,[],_ :: _,_,H,_=>H.elim
 | _,_ :: _,[],_,H,_=>H.elim
theorem StatesR.ok {tag:Nat→Nat} {h:Hp}:{i:Nat} → {nm:List Str} → {st:List (List Val)} → {cs:List AV} → StatesR tag h i nm st cs→cs.all okCell=true
 | _,[],[],cs,H=>by
  have H':cs = []:=H
  subst H'
  rfl
 | _,_ :: _,_ :: _,_,⟨av,rest,h1,h2,h3⟩=>by
  subst h1
  have:okCell av=true:=by
   rcases h2 with ⟨_,rfl⟩ | ⟨r,rfl,_⟩ <;> rfl
  rw [List.all_cons,List.all_cons,this,h3.ok]
  rfl
 | _,[],_ :: _,_,H=>H.elim
 | _,_ :: _,[],_,H=>H.elim
theorem CallsR.at {tag:Nat→Nat} {h:Hp}:{l:List Call} → {cs:List AV} → CallsR tag h l cs→∀ (i:Nat) (c:Call),l[i]? = some c→∃ av,(cs.drop (i * 3)).take 3 = [.str c.module,.str c.func,av]∧ArgR tag 4 h c.args av
 | [],_,_,i,c,hc=>by simp at hc
 | d :: l,_,⟨av,rest,h1,h2,h3⟩,i,c,hc=>by
  subst h1
  cases i with
  | zero=>simp at hc; subst hc; exact ⟨av,by simp,h2⟩
  | succ i =>
   obtain ⟨av',g1,g2⟩:=h3.at i c (by simpa using hc)
   refine ⟨av',?_,g2⟩
   rw [show (i + 1) * 3=i * 3 + 3 by omega]
   simpa using g1
theorem okCell_one {v:AV} (h:okCell v=true):okEl 1 v=true∧acells v = [v]∧sizeA v=some 1:=by
 cases v with
 | any=>cases h
 | agg _=>cases h
 | tup _=>cases h
 | nilb _=>cases h
 | byt _ _=>cases h
 | it _=>cases h
 | _=>exact ⟨rfl,rfl,rfl⟩
end Go.Av.Ap

/- Laws of evaluation: how much is recorded, frames. No condition. -/
namespace Go.Av.Ap
def mu (m:Ms):Int:=m.deeds.length + m.calls.length + m.fuel
def TQ (k:Int) {α:Type} (x:X α):Prop:=∀ m a s,0≤m.fuel→x m = .ok a s→mu s≤mu m + k∧s.fuel≤m.fuel∧0≤s.fuel∧s.frames=m.frames
theorem tq_ok {k:Int} {α:Type} {a:α} (hk:0≤k):TQ k (.ok a):=fun m b s h0 h=>by cases h; exact ⟨by omega,Int.le_refl _,h0,rfl⟩
theorem tq_er {k:Int} {α:Type} {e:Int}:TQ k (α:=α) (.er e):=fun m b s _ h=>by cases h
theorem tq_bind {j k:Int} {α β:Type} {x:X α} {f:α→X β} (hx:TQ j x) (hf:∀ a,TQ k (f a)):TQ (j + k) (x.bind f):=by
 intro m b s h0 h
 unfold X.bind at h
 cases hr:x m with
 | er e t=>rw [hr] at h; cases h
 | ok a t =>
  rw [hr] at h
  obtain ⟨h1,h2,h3,h4⟩:=hx m a t h0 hr
  obtain ⟨g1,g2,g3,g4⟩:=hf a t b s h3 h
  exact ⟨by omega,by omega,g3,g4.trans h4⟩
theorem tq_bind0 {k:Int} {α β:Type} {x:X α} {f:α→X β} (hx:TQ 0 x) (hf:∀ a,TQ k (f a)):TQ k (x.bind f):=by
 have:=tq_bind hx hf
 rwa [Int.zero_add] at this
theorem tq_mono {j k:Int} {α:Type} {x:X α} (h:TQ j x) (hk:j≤k):TQ k x:=fun m a s h0 e=>by
 obtain ⟨h1,h2⟩:=h m a s h0 e
 exact ⟨by omega,h2⟩
theorem tq_ite {k:Int} {α:Type} {c:Prop} [Decidable c] {x y:X α} (h1:TQ k x) (h2:TQ k y):TQ k (if c then x else y):=by
 split
 ·exact h1
 ·exact h2
theorem tq_bool {r:X Val} (h:TQ 0 r):TQ 0 (boolX r):=tq_bind0 h fun _=>tq_ite (tq_ok (Int.le_refl _)) tq_er
theorem tq_list {r:Exp→X Val} (h:∀ e,TQ 0 (r e)):∀ l,TQ 0 (listX r l)
 | []=>tq_ok (Int.le_refl _)
 | e :: l=>tq_bind0 (h e) fun _=>tq_bind0 (tq_list h l) fun _=>tq_ok (Int.le_refl _)
theorem enterX_eq (p:List Mod) (r:Ev) (a:Int) (f:Fun) (l:List Val) (m:Ms):enterX p r a f l m=if m.frames < 60 then ((r a (f.params.map (·.1)) l f.body).bind fun v=>.upd (fun m=>{ m with frames:=m.frames - 1 }) (.ok v)) (entM p a f l m) else .er 6 m:=by
 unfold enterX X.get
 by_cases h:m.frames < 60
 ·simp only [h,if_true]; rfl
 ·simp only [h,if_false]; rfl
theorem tq_enter {p:List Mod} {r:Ev} {a:Int} {f:Fun} {l:List Val} (hr:∀ o ns vs e,TQ 0 (r o ns vs e)):TQ 1 (enterX p r a f l):=by
 intro m v s h0 h
 rw [enterX_eq] at h
 split at h
 ·unfold X.bind at h
  cases hr':r a (f.params.map (·.1)) l f.body (entM p a f l m) with
  | er e t=>rw [hr'] at h; cases h
  | ok b t =>
   rw [hr'] at h
   cases h
   obtain ⟨h1,h2,h3,h4⟩:=hr _ _ _ _ (entM p a f l m) v t h0 hr'
   have hm:mu (entM p a f l m)≤mu m + 1:=by
    simp only [mu,entM]
    split
    ·simp; omega
    ·omega
   have h4':t.frames=m.frames + 1:=h4
   have h2':t.fuel≤m.fuel:=h2
   simp only [mu] at h1 hm ⊢
   exact ⟨by omega,h2',h3,by omega⟩
 ·cases h
theorem tq_step {p:List Mod} {r:Ev} (hr:∀ o ns vs e,TQ 0 (r o ns vs e)) (o:Int) (ns:List Str) (vs:List Val) (e:Exp):TQ 0 (stepX p r o ns vs e):=by
 have tick:∀ y:X Val,TQ 1 y→TQ 0 (tickX y):=fun y hy m a s h0 h=>by
  unfold tickX X.get at h
  by_cases hf:m.fuel≤0
  ·simp only [hf,if_true] at h; cases h
  ·simp only [hf,if_false] at h
   obtain ⟨h1,h2,h3,h4⟩:=hy { m with fuel:=m.fuel - 1 } a s (by simp only; omega) h
   simp only [mu] at h1 h2 ⊢
   exact ⟨by omega,by omega,h3,h4⟩
 have H:=fun e=>hr o ns vs e
 have ok1:∀ (α:Type) (a:α),TQ 1 (.ok a):=fun _ _=>tq_ok (by omega)
 have er1:∀ (α:Type) e,TQ 1 (α:=α) (.er e):=fun _ _=>tq_er
 have H1:=fun e=>tq_mono (H e) (show (0:Int)≤1 by omega)
 refine tick _ ?_
 refine tq_ite (er1 _ _) (tq_ite (ok1 _ _) (tq_ite (tq_ite (ok1 _ _) (er1 _ _)) (tq_ite ?_ (tq_ite ?_ (tq_ite ?_ (tq_ite ?_ (tq_ite ?_ (tq_ite ?_ (tq_ite ?_ (tq_ite ?_ (tq_ite ?_ (tq_ite ?_ ?_))))))))))))
 ·split
  ·exact ok1 _ _
  ·exact er1 _ _
 ·refine tq_bind0 (H _) fun a=>tq_bind0 (H _) fun b=>?_
  unfold binX
  exact tq_ite (tq_ite (ok1 _ _) (er1 _ _)) (tq_ite (tq_ite (ok1 _ _) (tq_ite (ok1 _ _) (tq_ite (ok1 _ _) (ok1 _ _)))) (er1 _ _))
 ·exact tq_bind0 (tq_bool (H _)) fun a=>tq_ite (ok1 _ _) (tq_bind0 (tq_bool (H _)) fun b=>ok1 _ _)
 ·exact tq_bind0 (tq_bool (H _)) fun a=>ok1 _ _
 ·exact tq_bind0 (tq_bool (H _)) fun a=>tq_ite (H1 _) (H1 _)
 ·exact tq_bind0 (H _) fun v=>tq_mono (hr _ _ _ _) (by omega)
 ·unfold recordX
  exact tq_ite (tq_ite (tq_bind0 (tq_list H _) fun vs=>tq_ite (ok1 _ _) (er1 _ _)) (er1 _ _)) (er1 _ _)
 ·refine tq_bind0 (H _) fun v=>?_
  split
  ·exact tq_ite (ok1 _ _) (er1 _ _)
  ·exact er1 _ _
 ·unfold callX
  simp only
  split
  ·exact er1 _ _
  ·exact tq_ite (tq_ite (tq_bind0 (tq_list H _) fun l=>tq_enter hr) (er1 _ _)) (er1 _ _)
 ·unfold actX
  refine tq_bind0 (H _) fun v=>tq_ite (tq_ite (fun m a s h0 h=>?_) (er1 _ _)) (er1 _ _)
  cases h
  simp only [mu]
  exact ⟨by simp; omega,Int.le_refl _,h0,trivial⟩
 ·unfold varX
  refine tq_ite (er1 _ _) ?_
  simp only
  refine tq_ite (er1 _ _) (tq_ite (tq_bind0 (H _) fun v m a s h0 h=>?_) fun m a s h0 h=>?_)
  ·cases h
   exact ⟨by simp only [mu]; omega,Int.le_refl _,h0,rfl⟩
  ·cases h
   exact ⟨by omega,Int.le_refl _,h0,rfl⟩
theorem tq_eval {p:List Mod}:∀ (n:Nat) (o:Int) (ns:List Str) (vs:List Val) (e:Exp),TQ 0 (evalX p n o ns vs e)
 | 0,_,_,_,_=>tq_er
 | n + 1,o,ns,vs,e=>tq_step (fun o ns vs e=>tq_eval n o ns vs e) o ns vs e
structure GoodM (p:List Mod) (m:Ms):Prop where
 right:RightM m
 bud:mu m≤1000000
 fr:0≤m.frames∧m.frames≤60
 fuel:0≤m.fuel
 shape:∀ (i:Nat) (x:Mod),p[i]? = some x→∃ l,m.state[i]? = some l∧l.length=x.vars.length
theorem GoodM.eval {p:List Mod} {n:Nat} {o:Int} {ns:List Str} {vs:List Val} {e:Exp} {m s:Ms} {v:Val} (G:GoodM p m) (hs:RightS ns vs) (h:evalX p n o ns vs e m = .ok v s):GoodM p s∧Rv v∧s.fuel≤m.fuel:=by
 obtain ⟨h1,h2,h3,h4⟩:=tq_eval n o ns vs e m v s G.fuel h
 obtain ⟨g1,g2,g3⟩:=right_eval (p:=p) n o ns vs e hs m G.right
 rw [h] at g1 g2
 refine ⟨⟨g1,by have:=G.bud; omega,by rw [h4]; exact G.fr,h3,fun i x hx=>?_⟩,g3 v s h,h2⟩
 obtain ⟨l,k1,k2⟩:=G.shape i x hx
 have:(shapeM s)[i]? = (shapeM m)[i]?:=by rw [show shapeM s=shapeM m from g2]
 simp only [shapeM,List.getElem?_map,k1,Option.map_some] at this
 cases hi:s.state[i]? with
 | none=>rw [hi] at this; cases this
 | some l' =>
  rw [hi] at this
  simp only [Option.map_some,Option.some.injEq] at this
  exact ⟨l',rfl,by omega⟩
theorem GoodM.bool {p:List Mod} {n:Nat} {o:Int} {ns:List Str} {vs:List Val} {e:Exp} {m s:Ms} {b:Bool} (G:GoodM p m) (hs:RightS ns vs) (h:boolX (evalX p n o ns vs e) m = .ok b s):GoodM p s∧s.fuel≤m.fuel:=by
 unfold boolX X.bind at h
 cases hr:evalX p n o ns vs e m with
 | er c t=>rw [hr] at h; cases h
 | ok v t =>
  rw [hr] at h
  simp only at h
  split at h
  ·cases h
   exact ⟨(G.eval hs hr).1,(G.eval hs hr).2.2⟩
  ·cases h
theorem right_len8 {v:Val} (h:Rv v):v.names.length≤8:=by
 unfold Rv fitsP at h
 split at h
 ·simp only [Bool.and_eq_true,beq_iff_eq] at h
  omega
 ·simp only [Bool.and_eq_true,decide_eq_true_eq] at h
  exact h.1.1.2
theorem fits_sz:∀ (d:Nat) (v:Val),fitsP d v=true→v.sz≤17 * 9 ^ d
 | 0,v,h=>by simp [fitsP] at h
 | d + 1,v,h=>by
  have hp:1≤9 ^ d:=Nat.one_le_pow _ _ (by decide)
  obtain ⟨k,n,ns,vs⟩:=v
  unfold fitsP at h
  simp only [Val.sz]
  split at h
  ·simp only [Bool.and_eq_true,beq_iff_eq,Val.names_mk,Val.values_mk] at h
   have h1:=h.1.1
   have h2:vs = []:=List.eq_nil_of_length_eq_zero h.1.2
   subst h2
   simp only [valsSz]
   rw [Nat.pow_succ]
   omega
  ·simp only [Bool.and_eq_true,beq_iff_eq,List.all_eq_true,Val.names_mk,Val.values_mk] at h
   have h8:=of_decide_eq_true h.1.1.2
   have hl:=h.1.1.1.2
   have hv:=h.2
   have key:∀ l:List Val,(∀ v∈l,fitsP d v=true)→valsSz l≤l.length * (17 * 9 ^ d):=by
    intro l
    induction l with
    | nil=>intro _; simp [valsSz]
    | cons v l ih =>
     intro h
     have h1:=fits_sz d v (h v List.mem_cons_self)
     have h2:=ih fun w hw=>h w (List.mem_cons_of_mem _ hw)
     simp only [valsSz,List.length_cons]
     rw [Nat.add_mul]
     omega
   have h3:=key vs hv
   have h4:vs.length * (17 * 9 ^ d)≤8 * (17 * 9 ^ d):=Nat.mul_le_mul_right _ (by omega)
   rw [Nat.pow_succ]
   omega
theorem right_sz {v:Val} (h:Rv v):v.sz≤200000:=Nat.le_trans (fits_sz 4 v h) (by decide)
end Go.Av.Ap

/- The reference's lists in order: plain functions and their laws. No condition. -/
namespace Go.Av.Ap
open Go Go.Av
def Ord (l:List Ref):Prop:=l.Pairwise fun a b=>ltR a b=true
theorem ord_nodup {l:List Ref} (h:Ord l):l.Nodup:=h.imp fun {a b} hab e=>by
 subst e; rw [ltR_irr] at hab; cases hab
def putL:List Ref→Ref→List Ref
 | [],r=>[r]
 | x :: l,r=>if ltR x r=true then x :: putL l r else if x=r then r :: l else r :: x :: l
theorem mem_putL (r y:Ref):∀ l:List Ref,y∈putL l r ↔ y=r∨y∈l
 | []=>by simp [putL]
 | x :: l=>by
  simp only [putL]
  split
  ·simp only [List.mem_cons,mem_putL r y l]
   exact ⟨fun h=>by rcases h with h | h | h; exact .inr (.inl h); exact .inl h; exact .inr (.inr h),fun h=>by rcases h with h | h | h; exact .inr (.inl h); exact .inl h; exact .inr (.inr h)⟩
  ·split
   ·rename_i e; subst e; simp
   ·simp
theorem putL_ord (r:Ref):∀ {l:List Ref},Ord l→Ord (putL l r)
 | [],_=>List.pairwise_singleton _ _
 | x :: l,h=>by
  obtain ⟨h1,h2⟩:=List.pairwise_cons.1 h
  simp only [putL]
  split
  ·rename_i hx
   refine List.pairwise_cons.2 ⟨fun y hy=>?_,putL_ord r h2⟩
   rcases (mem_putL r y l).1 hy with rfl | hy
   ·exact hx
   ·exact h1 y hy
  ·split
   ·rename_i e; subst e; exact h
   ·rename_i hx hne
    have hrx:=ltR_tot (by simpa using hx) hne
    refine List.pairwise_cons.2 ⟨fun y hy=>?_,h⟩
    rcases List.mem_cons.1 hy with rfl | hy
    ·exact hrx
    ·exact ltR_tr hrx (h1 y hy)
def stepW (p:List Mod) (f:Ref) (o:List Ref) (e:Exp):List Ref:=if callB p f e=true then putL o (tgt f e) else o
def GoodO (p:List Mod) (o:List Ref):Prop:=Ord o∧∀ x∈o,(findR p x).isSome=true
theorem GoodO.len {p:List Mod} {o:List Ref} (h:GoodO p o):o.length≤(idxP p).length:=by
 have:=len_le_of_sub (m:=(idxP p).map (·.1)) (ord_nodup h.1) (fun x hx=>(idx_keys p x).2 (h.2 x hx))
 simpa using this
theorem callB_found {p:List Mod} {f:Ref} {e:Exp} (h:callB p f e=true):(findR p (tgt f e)).isSome=true:=by
 unfold callB at h
 cases hf:findR p (tgt f e) with
 | none=>rw [hf] at h; simp at h
 | some g=>rfl
theorem GoodO.put {p:List Mod} {o:List Ref} (h:GoodO p o) {r:Ref} (hr:(findR p r).isSome=true):GoodO p (putL o r):=⟨putL_ord r h.1,fun x hx=>by
 rcases (mem_putL r x o).1 hx with rfl | hx
 ·exact hr
 ·exact h.2 x hx⟩
theorem GoodO.step {p:List Mod} {f:Ref} {o:List Ref} (h:GoodO p o) (e:Exp):GoodO p (stepW p f o e):=by
 unfold stepW
 split
 ·rename_i hc; exact h.put (callB_found hc)
 ·exact h
end Go.Av.Ap
