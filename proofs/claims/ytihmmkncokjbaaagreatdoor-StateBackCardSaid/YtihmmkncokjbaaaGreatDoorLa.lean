/- The abstract evaluator of the model and plain laws, part 1: its soundness holds for every program whose table of types is the evaluator's. No further condition. -/
import Derived.Calls
import Derived.Lib.ItoaNum
import Derived.WalkKit
set_option linter.defProp false
set_option linter.unusedSimpArgs false
set_option linter.unusedVariables false
namespace Go
abbrev FU:=@Option.some.injEq
abbrev FV:=@Bool.and_eq_true
abbrev FW:=@cond_true
abbrev FX:=@congrArg
abbrev FY:=@if_pos
abbrev FZ:=@Nat.le_refl
abbrev F0:=@cond_false
abbrev F5:=@decide_eq_true_eq
abbrev F6:=@Nat.eq_of_beq_eq_true
abbrev F7:=@Bool.false_eq_true
abbrev F8:=@List.getElem?_eq_none
abbrev F9:=@List.all_eq_true
abbrev Ga:=@List.getElem?_cons_zero
abbrev Gb:=@List.getElem?_append_left
abbrev Gc:=@Nat.mul_le_mul_right
abbrev Gd:=@Nat.lt_or_ge
abbrev Ge:=@List.length_cons
abbrev Gf:=@List.getElem?_eq_getElem
abbrev Gg:=@List.getElem?_take
abbrev Gh:=@List.length_append
abbrev Gi:=@List.eq_nil_of_length_eq_zero
abbrev Gj:=@List.getElem?_append_right
abbrev Gk:=@decide_eq_true
abbrev Gl:=@if_false
abbrev Gm:=@if_true
abbrev Gn:=@Array.getD_eq_getD_getElem?
abbrev Gp:=@List.mem_cons
abbrev Gq:=@List.drop_eq_getElem_cons
abbrev Gr:=@decide_eq_false
abbrev Gs:=@List.getElem_mem
abbrev Gt:=@List.mem_append
abbrev Gu:=@Nat.lt_of_lt_of_le
abbrev Gv:=@List.getD_eq_getElem?_getD
abbrev Gw:=@Int.toNat_natCast
abbrev Gx:=@List.getElem?_cons_succ
abbrev Gy:=@Nat.add_mul
abbrev Gz:=@Array.getElem?_eq_none
abbrev GA:=@Bool.not_true
abbrev GC:=@Array.getElem?_eq_some_iff
abbrev GD:=@Array.length_toList
abbrev GE:=@Bool.or_eq_true
abbrev GF:=@Nat.eq_zero_or_pos
abbrev GG:=@beq_iff_eq
abbrev GH:=@List.cons_append
abbrev GI:=@Bool.not_eq_true'
abbrev GJ:=@Array.getElem?_toList
abbrev GK:=@getElem!_pos
abbrev GL:=@List.map_cons
abbrev GM:=@List.length_nil
abbrev GN:=@Prod.mk.injEq
abbrev GO:=@List.getElem?_drop
abbrev GP:=@Nat.zero_add
abbrev GQ:=@List.getElem?_toArray
abbrev GR:=@List.all_cons
abbrev GT:=@List.mem_of_getElem?
abbrev GU:=@List.mem_singleton
abbrev GV:=@Bool.not_false
abbrev GW:=@List.getElem?_map
abbrev GX:=@Nat.add_zero
abbrev GY:=@List.nil_append
abbrev GZ:=@Bool.eq_iff_iff
abbrev G0:=@Option.map_eq_some_iff
abbrev G1:=@List.drop_eq_nil_of_le
abbrev G2:=@Array.getElem?_eq_getElem
abbrev G3:=@Bool.eq_false_iff
abbrev G4:=@Nat.zero_le
abbrev G5:=@List.mem_cons_self
abbrev G6:=@decide_eq_false_iff_not
abbrev G7:=@List.mem_cons_of_mem
abbrev G8:=@List.getElem?_set
abbrev G9:=@beq_eq_false_iff_ne
abbrev Ha:=@Option.map_some
abbrev Hb:=@Bool.true_and
abbrev Hc:=@Bool.or_eq_false_iff
abbrev Hd:=@List.length_take
abbrev He:=@Nat.le_trans
abbrev Hf:=@List.append_assoc
abbrev Hg:=@Array.getElem?_setIfInBounds
abbrev Hh:=@List.getElem?_append
abbrev Hi:=@List.getElem?_eq_some_iff
abbrev Hj:=@List.map_congr_left
abbrev Hk:=@Array.getElem?_setIfInBounds_ne
abbrev Hl:=@Array.ext'
abbrev Hm:=@Option.mem_toList
abbrev Hn:=@of_decide_eq_true
abbrev Ho:=@Bool.and_eq_false_iff
abbrev Hq:=@List.sizeOf_lt_of_mem
abbrev Hr:=@List.mem_of_mem_take
abbrev Hs:=@beq_self_eq_true
abbrev Ht:=@Option.bind_some
abbrev Hu:=@List.mem_iff_getElem
abbrev Hv:=@List.length_pos_iff
abbrev Hw:=@Nat.min_eq_left
abbrev Hy:=@List.length_map
abbrev Hz:=@Nat.sub_self
abbrev HC:=@Nat.zero_mul
abbrev HD:=@List.mem_map
abbrev HE:=@List.mem_filterMap
abbrev HF:=@List.take_take
abbrev HG:=@Bool.false_and
abbrev HH:=@List.take_of_length_le
abbrev HJ:=@Nat.mul_pos
abbrev HK:=@List.zipWith_cons_cons
abbrev HL:=@List.take_append
abbrev HM:=@List.length_tail
abbrev HO:=@decide_eq_decide
abbrev HP:=@List.drop_length
abbrev HQ:=@List.take_succ_eq_append_getElem
abbrev HR:=@Classical.choose_spec
abbrev HS:=@List.contains_iff_mem
abbrev HT:=@List.cons.injEq
abbrev HU:=@List.getElem?_of_mem
abbrev HV:=@List.length_set
abbrev HW:=@List.takeWhile_cons
abbrev HX:=@and_self
abbrev HY:=@List.take_zero
abbrev HZ:=@Nat.sub_mul
abbrev H1:=@ne_eq
abbrev H3:=@Bool.not_eq_false'
abbrev H4:=@List.pairwise_cons
abbrev H5:=@UInt8.toNat_ofNat'
abbrev H6:=@Array.getElem?_append_left
abbrev H7:=@Bool.and_self
abbrev H8:=@List.ext_getElem?
abbrev H9:=@List.flatMap_cons
abbrev Ia:=@Array.toList_push
abbrev Ib:=@List.pairwise_map
abbrev Ic:=@Classical.byContradiction
abbrev Ie:=@List.extract_eq_take_drop
abbrev Ig:=@Array.mapM_eq_mapM_toList
abbrev Ih:=@Nat.beq_refl
abbrev Ii:=@Nat.lt_succ_self
abbrev Ij:=@Array.getElem?_replicate
abbrev Ik:=@List.take_length
abbrev Il:=@List.isEmpty_iff
abbrev Im:=@Nat.le_mul_of_pos_right
abbrev Io:=@Option.bind_eq_some_iff
abbrev Ip:=@List.length_eq_zero_iff
abbrev Iq:=@List.map_append
abbrev Ir:=@List.nodup_cons
abbrev Is:=@List.mem_filter
abbrev It:=@List.append_nil
abbrev Iu:=@Bool.and_false
abbrev Iv:=@List.drop_zero
abbrev Iw:=@true_and
abbrev Ix:=@and_true
abbrev Iy:=@Bool.and_true
end Go
namespace Go.Av
inductive AV where
 |any
 |bool (b:Bool)
 |int (k:IntKind) (n:Int)
 |str (s:List UInt8)
 |nilp|nilf|nili
 |agg (cs:List AV)
 |tup (vs:List AV)
 |sl (es:List AV)
 |ip (cs:List AV)
 |hp (l off:Nat)
 |hs (l off len sz:Nat) (ag:Bool)
 |hn
 |fn (f:Fn) (first captured:List AV)
 |iface (t:TypeId) (v:AV)
 |mp (l:Nat)
 |nilm
 |nilb (t:Nat)
 |byt (t:Nat) (n:Int)
 |it (l:Nat)
 deriving Inhabited
abbrev a7:=Nat×Nat
abbrev am:=Nat->Nat->Option Value
def c6(S:am)(b off:Nat)(vs:List Value):Prop:=∀(j:Nat)(v:Value),vs[j]? = some v->S b (off+j)=some v
mutual
def VR(S:am)(β:List a7):AV->Value->Prop
 |.any,_=>True
 |.bool b,v=>v= .bool b
 |.int k n,v=>v= .int k n
 |.str s,v=>∃x:ByteArray,v= .string x/\x.data.toList=s
 |.nilp,v=>v= .pointer none
 |.nilf,v=>v= .nilFunc
 |.nili,v=>v= .nilIface
 |.agg cs,v=>∃vs:List Value,v= .agg vs.toArray/\aP S β cs vs
 |.tup cs,v=>∃vs:List Value,v= .tuple vs.toArray/\aP S β cs vs
 | .sl es,v=>∃a cap,v= .slice a es.length cap/\es.length<=cap/\
   (a=none->cap=0)/\∀q,a=some q->(0<cap->q.spot=none)/\∃sz,bi S β es q.block q.off sz
 |.ip cs,v=>∃b off vs,v= .pointer (some ⟨b,off,none⟩)/\aP S β cs vs/\c6 S b off vs
 |.hp l off,v=>∃b:a7,β[l]? = some b/\b.2≠0/\v= .pointer (some ⟨b.1,off,none⟩)
 |.hs l off len sz _,v=>(∃(b:a7)(cap:Nat),β[l]? = some b/\b.2≠0/\v= .slice (some ⟨b.1,off,none⟩) len cap/\len<=cap/\off+cap*sz<=b.2)\/(len=0/\∃q,v= .slice (some q) 0 0)
 |.hn,v=>v= .slice none 0 0
 |.fn f a c,v=>∃x y:List Value,v= .func f x.toArray y.toArray/\aP S β a x/\aP S β c y
 |.iface t a,v=>∃x,v= .iface t x/\VR S β a x
 |.mp l,v=>∃b:a7,β[l]? = some b/\b.2=0/\v= .map (some b.1)
 |.nilm,v=>v= .map none
 |.nilb _,v=>v= .pointer none
 |.byt _ n,v=>v= .int .u8 n
 |.it l,v=>∃b:a7,β[l]? = some b/\b.2=0/\v= .pointer (some ⟨b.1,0,none⟩)
def aP(S:am)(β:List a7):List AV->List Value->Prop
 |[],vs=>vs=[]
 |c:: cs,vs=>∃x xs,vs=x:: xs/\VR S β c x/\aP S β cs xs
def bi(S:am)(β:List a7):List AV->Nat->Nat->Nat->Prop
 |[],_,_,_=>True
 |e:: es,b,off,sz=>(∃v,VR S β e v/\v.cells.size=sz/\c6 S b off v.cells.toList)/\bi S β es b (off+sz) sz
end
def ab:AV->List AV
 |.agg cs=>cs
 |.any=>[]
 |x=>[x]
def bS:AV->Option Nat
 |.any=>none
 |.agg cs=>some cs.length
 |_=>some 1
def am.le(S S':am):Prop:=∀b o v,S b o=some v->S' b o=some v
def am.le_refl(S:am):S.le S:=fun _ _ _ h=>h
def am.le_trans{S T U:am}(h:S.le T)(g:T.le U):S.le U:=fun b o v x=>g b o v (h b o v x)
def c6.mono{S S':am}(h:S.le S'){b off:Nat}{vs:List Value}(c:c6 S b off vs):c6 S' b off vs:=
 fun j v x=>h _ _ _ (c j v x)
def dm(β β':List a7):Prop:=∀(l:Nat)(b:a7),β[l]? = some b->β'[l]? = some b
def dm.refl(β:List a7):dm β β:=fun _ _ h=>h
def dm.nil(β:List a7):dm [] β:=fun l b h=>by simp at h
def dm.trans{a b c:List a7}(h:dm a b)(g:dm b c):dm a c:=fun l x y=>g l x (h l x y)
mutual
theorem VR.mono{S S':am}{β β':List a7}(h:S.le S')(g:dm β β'):(a:AV)->(v:Value)->VR S β a v->VR S' β' a v
 |.any,_,_=>by simp[VR]
 |.bool _,_,x=>by simpa [VR]using x
 |.int _ _,_,x=>by simpa [VR]using x
 |.str _,_,x=>by simpa [VR]using x
 |.nilp,_,x=>by simpa [VR]using x
 |.nilf,_,x=>by simpa [VR]using x
 |.nili,_,x=>by simpa [VR]using x
 |.agg cs,v,x=>by
  simp only[VR]at x |-;obtain⟨vs,rfl,y⟩:=x;exact⟨vs,rfl,aP.mono h g cs vs y⟩
 |.tup cs,v,x=>by
  simp only[VR]at x |-;obtain⟨vs,rfl,y⟩:=x;exact⟨vs,rfl,aP.mono h g cs vs y⟩
 |.sl es,v,x=>by
  simp only[VR]at x |-;obtain⟨a,cap,rfl,hc,hn,hq⟩:=x;refine⟨a,cap,rfl,hc,hn,fun q e=>?_⟩;obtain⟨hs,sz,he⟩:=hq q e;exact⟨hs,sz,bi.mono h g es _ _ _ he⟩
 |.ip cs,v,x=>by
  simp only[VR]at x |-;obtain⟨b,off,vs,rfl,y,z⟩:=x;exact⟨b,off,vs,rfl,aP.mono h g cs vs y,z.mono h⟩
 |.hp l off,v,x=>by
  simp only[VR]at x |-;obtain⟨b,hb,h0,rfl⟩:=x;exact⟨b,g l b hb,h0,rfl⟩
 |.hn,_,x=>by simpa [VR]using x
 |.hs l off len _ _,v,x=>by
  simp only[VR]at x |-;rcases x with⟨b,cap,hb,h0,rfl,hc,hs⟩|x
  ·exact .inl ⟨b,cap,g l b hb,h0,rfl,hc,hs⟩
  ·exact .inr x
 |.fn f a c,v,x=>by
  simp only[VR]at x |-;obtain⟨x,y,rfl,hx,hy⟩:=x;exact⟨x,y,rfl,aP.mono h g a x hx,aP.mono h g c y hy⟩
 |.iface t a,v,x=>by
  simp only[VR]at x |-;obtain⟨y,rfl,hy⟩:=x;exact⟨y,rfl,VR.mono h g a y hy⟩
 |.mp l,v,x=>by
  simp only[VR]at x |-;obtain⟨b,hb,h0,rfl⟩:=x;exact⟨b,g l b hb,h0,rfl⟩
 |.nilm,_,x=>by simpa [VR]using x
 |.nilb _,_,x=>by simpa [VR]using x
 |.byt _ _,_,x=>by simpa [VR]using x
 |.it l,v,x=>by
  simp only[VR]at x |-;obtain⟨b,hb,h0,rfl⟩:=x;exact⟨b,g l b hb,h0,rfl⟩
theorem aP.mono{S S':am}{β β':List a7}(h:S.le S')(g:dm β β'):(cs:List AV)->(vs:List Value)->aP S β cs vs->aP S' β' cs vs
 |[],_,x=>by simpa [aP]using x
 |c:: cs,vs,x=>by
  simp only[aP]at x |-;obtain⟨y,ys,rfl,hy,hys⟩:=x;exact⟨y,ys,rfl,VR.mono h g c y hy,aP.mono h g cs ys hys⟩
theorem bi.mono{S S':am}{β β':List a7}(h:S.le S')(g:dm β β'):(es:List AV)->(b off sz:Nat)->bi S β es b off sz->bi S' β' es b off sz
 |[],_,_,_,_=>by simp[bi]
 |e:: es,b,off,sz,x=>by
  simp only[bi]at x |-;obtain⟨⟨v,hv,hs,hc⟩,hes⟩:=x;exact⟨⟨v,VR.mono h g e v hv,hs,hc.mono h⟩,bi.mono h g es b (off+sz) sz hes⟩
end
theorem aP.length{S:am}{β:List a7}:{cs:List AV} ->{vs:List Value} ->aP S β cs vs->vs.length=cs.length
 |[],_,h=>by simp[aP]at h;simp[h]
 |c:: cs,vs,h=>by
  simp only[aP]at h;obtain⟨y,ys,rfl,_,hys⟩:=h;simp[aP.length hys]
theorem aP.get{S:am}{β:List a7}:{cs:List AV} ->{vs:List Value} ->aP S β cs vs->∀ {i:Nat} {c:AV},cs[i]? = some c->∃v,vs[i]? = some v/\VR S β c v
 |[],_,_,i,c,h=>by simp at h
 |c:: cs,vs,h,i,d,hd=>by
  simp only[aP]at h;obtain⟨y,ys,rfl,hy,hys⟩:=h;cases i with
  |zero=>simp at hd;subst hd;exact⟨y,by simp,hy⟩
  |succ i=>simpa using aP.get hys (by simpa using hd)
theorem aP.of_get{S:am}{β:List a7}:{cs:List AV} ->{vs:List Value} ->vs.length=cs.length->
  (∀(i:Nat)(c:AV)(v:Value),cs[i]? = some c->vs[i]? = some v->VR S β c v)->aP S β cs vs
 |[],vs,h,_=>by simp[aP];simpa using h
 |c:: cs,[],h,_=>by simp at h
 |c:: cs,v:: vs,h,g=>by
  simp only[aP];exact⟨v,vs,rfl,g 0 c v (by simp) (by simp),aP.of_get (by simpa using h) fun i c' v' h1 h2=>g (i+1) c' v' (by simpa using h1) (by simpa using h2)⟩
def aP.drop{S:am}{β:List a7}{cs:List AV}{vs:List Value}(h:aP S β cs vs)(n:Nat):aP S β (cs.drop n) (vs.drop n):=by
 refine .of_get (by simp[h.length]) fun i c v hc hv=>?_;rw[GO]at hc hv;obtain⟨v',hv',hr⟩:=h.get hc;rw[hv]at hv';cases hv';exact hr
def aP.take{S:am}{β:List a7}{cs:List AV}{vs:List Value}(h:aP S β cs vs)(n:Nat):aP S β (cs.take n) (vs.take n):=by
 refine .of_get (by simp[h.length]) fun i c v hc hv=>?_;rw[Gg]at hc hv;split at hc
 ·rename_i hlt;rw[FY hlt]at hv;obtain⟨v',hv',hr⟩:=h.get hc;rw[hv]at hv';cases hv';exact hr
 ·simp at hc
def aP.append{S:am}{β:List a7}{cs ds:List AV}{vs ws:List Value}(h:aP S β cs vs)(g:aP S β ds ws):aP S β (cs++ds) (vs++ws):=by
 induction cs generalizing vs with
 |nil=>simp[aP]at h;subst h;simpa using g
 |cons c cs ih=>
  simp only[aP,GH]at h|-;obtain⟨y,ys,rfl,hy,hys⟩:=h;exact⟨y,ys++ws,rfl,hy,ih hys⟩
def VR.cells{S:am}{β:List a7}{a:AV}{v:Value}(h:VR S β a v){n:Nat}(hn:bS a=some n):v.cells.size=n/\aP S β (ab a) v.cells.toList/\(ab a).length=n:=by
 cases a<;>simp only[bS,FU,reduceCtorEq]at hn<;>subst hn<;>simp only[VR]at h<;>simp only[ab,aP,VR]
 case agg cs=>
  obtain⟨vs,rfl,hv⟩:=h;simp[Value.cells,hv,hv.length]
 case bool=>subst h;simp[Value.cells]
 case hn=>subst h;simp[Value.cells]
 case int=>subst h;simp[Value.cells]
 case nilp=>subst h;simp[Value.cells]
 case nilf=>subst h;simp[Value.cells]
 case nili=>subst h;simp[Value.cells]
 case str=>obtain⟨x,rfl,hx⟩:=h;simp[Value.cells,hx]
 case tup=>obtain⟨x,rfl,hx⟩:=h;simp[Value.cells,hx]
 case hp=>obtain⟨b,hb,h0,rfl⟩:=h;exact⟨by simp[Value.cells],⟨_,_,rfl,⟨b,hb,h0,rfl⟩,rfl⟩,rfl⟩
 case mp=>obtain⟨b,hb,h0,rfl⟩:=h;exact⟨by simp[Value.cells],⟨_,_,rfl,⟨b,hb,h0,rfl⟩,rfl⟩,rfl⟩
 case it=>obtain⟨b,hb,h0,rfl⟩:=h;exact⟨by simp[Value.cells],⟨_,_,rfl,⟨b,hb,h0,rfl⟩,rfl⟩,rfl⟩
 case nilm=>subst h;simp[Value.cells]
 case nilb=>subst h;simp[Value.cells]
 case byt=>subst h;simp[Value.cells]
 case hs=>
  rcases h with⟨b,c,hb,h0,rfl,hc⟩|⟨h0,q,rfl⟩
  ·exact⟨by simp[Value.cells],⟨_,_,rfl,.inl ⟨b,c,hb,h0,rfl,hc⟩,rfl⟩,rfl⟩
  ·exact⟨by simp[Value.cells],⟨_,_,rfl,.inr ⟨h0,q,rfl⟩,rfl⟩,rfl⟩
 case iface=>obtain⟨x,rfl,hx⟩:=h;simp[Value.cells,hx]
 case fn=>obtain⟨x,y,rfl,hx,hy⟩:=h;exact⟨by simp[Value.cells],⟨_,_,rfl,⟨x,y,rfl,hx,hy⟩,rfl⟩,rfl⟩
 case ip=>obtain⟨b,o,vs,rfl,hx,hc⟩:=h;exact⟨by simp[Value.cells],⟨_,_,rfl,⟨b,o,vs,rfl,hx,hc⟩,rfl⟩,rfl⟩
 case sl=>obtain⟨x,c,rfl,h1,h2,h3⟩:=h;exact⟨by simp[Value.cells],⟨_,_,rfl,⟨x,c,rfl,h1,h2,h3⟩,rfl⟩,rfl⟩
def VR.acells{S:am}{β:List a7}{a:AV}{v:Value}(h:VR S β a v):∃vs:List Value,aP S β (ab a) vs/\∀(j:Nat)(x:Value),vs[j]? = some x->v.cells.toList[j]? = some x:=by
 cases hs:bS a with
 |some n=>exact⟨_,(h.cells hs).2.1,fun _ _ h=>h⟩
 |none=>
  cases a<;>simp[bS]at hs;exact⟨[],by simp[Av.ab,aP],fun j x h=>by simp at h⟩
theorem bi.get{S:am}{β:List a7}{sz b:Nat}:{es:List AV} ->{off:Nat} ->bi S β es b off sz->∀ {i:Nat} {e:AV},es[i]? = some e->
  ∃v,VR S β e v/\v.cells.size=sz/\c6 S b (off+i*sz) v.cells.toList
 |[],_,_,i,e,h=>by simp at h
 | d:: es,off,h,i,e,he=>by
  simp only[bi]at h;obtain⟨⟨v,hv,hs,hc⟩,hes⟩:=h;cases i with
  |zero=>simp at he;subst he;exact⟨v,hv,hs,by simpa using hc⟩
  |succ i=>
   obtain⟨v',hv',hs',hc'⟩:=bi.get hes (i:=i) (by simpa using he);exact⟨v',hv',hs',by rw[show off+(i+1)*sz=off+sz+i*sz by rw[Nat.succ_mul];omega];exact hc'⟩
theorem bi.of_get{S:am}{β:List a7}{sz b:Nat}:{es:List AV} ->{off:Nat} ->
  (∀i e,es[i]? = some e->∃v,VR S β e v/\v.cells.size=sz/\c6 S b (off+i*sz) v.cells.toList)->bi S β es b off sz
 |[],_,_=>by simp[bi]
 |d:: es,off,h=>by
  simp only[bi];refine⟨by simpa using h 0 d (by simp),.of_get fun i e he=>?_⟩;obtain⟨v',hv',hs',hc'⟩:=h (i+1) e (by simpa using he);exact⟨v',hv',hs',by rw[show off+sz+i*sz=off+(i+1)*sz by rw[Nat.succ_mul];omega];exact hc'⟩
def bi.drop{S:am}{β:List a7}{es:List AV}{b off sz:Nat}(h:bi S β es b off sz)(n:Nat):bi S β (es.drop n) b (off+n*sz) sz:=by
 refine .of_get fun i e he=>?_;rw[GO]at he;obtain⟨v,h1,h2,h3⟩:=h.get he;exact⟨v,h1,h2,by rw[show off+n*sz+i*sz=off+(n+i)*sz by rw[Gy];omega];exact h3⟩
def bi.take{S:am}{β:List a7}{es:List AV}{b off sz:Nat}(h:bi S β es b off sz)(n:Nat):bi S β (es.take n) b off sz:=by
 refine .of_get fun i e he=>?_;rw[Gg]at he;split at he
 ·exact h.get he
 ·simp at he
def bi.append{S:am}{β:List a7}{es fs:List AV}{b off sz:Nat}(h:bi S β es b off sz)(g:bi S β fs b (off+es.length*sz) sz):bi S β (es++fs) b off sz:=by
 refine .of_get fun i e he=>?_;rw[Hh]at he;split at he
 ·exact h.get he
 ·rename_i hlt;obtain⟨v,h1,h2,h3⟩:=g.get he;refine⟨v,h1,h2,?_⟩;rw[show off+i*sz=off+es.length*sz+(i-es.length)*sz by rw[HZ];have:=Gc sz (Nat.le_of_not_lt hlt);omega];exact h3
def VR.hs_some{S:am}{β:List a7}{l off len sz:Nat}{ag:Bool}{v:Value}(h:VR S β (.hs l off len sz ag) v):∃q cap,v= .slice (some q) len cap/\len<=cap:=by
 simp only[VR]at h;rcases h with⟨b,cap,_,_,h,hc,_⟩|⟨h0,q,h⟩
 ·exact⟨_,cap,h,hc⟩
 ·exact⟨q,0,by rw[h,h0],by omega⟩
def VR.hs_pos{S:am}{β:List a7}{l off len sz:Nat}{ag:Bool}{v:Value}(h:VR S β (.hs l off len sz ag) v)(h0:0<len):∃(b:a7)(cap:Nat),β[l]? = some b/\b.2≠0/\v= .slice (some ⟨b.1,off,none⟩) len cap/\len<=cap/\off+cap*sz<=b.2:=by
 simp only[VR]at h;rcases h with h|⟨h1,_⟩
 ·exact h
 ·omega
abbrev Hp:=List (List AV)
inductive R (α:Type) where
 |ok (a:α) (h:Hp)
 |pan (v:AV) (h:Hp)
 |fail
def M(α:Type):=Hp->R α
def M.pure{α:Type}(a:α):M α:=fun h=>.ok a h
def ae{α β:Type}(m:M α)(f:α->M β):M β:=fun h=>
 match m h with
 |.ok a h'=>f a h'
 |.pan v h'=>.pan v h'
 |.fail=>.fail
def M.fail{α:Type}:M α:=fun _=>.fail
def ah{α:Type}(o:Option α):M α:=fun h=>match o with|some a=>.ok a h|none=>.fail
def dy{α:Type}(v:AV):M α:=fun h=>.pan v h
def aB{α:Type}(c:AV)(x y:M α):M α:=match c with
 |.bool true=>x
 |.bool false=>y
 |_=>M.fail
def jn{α:Type}(k:List AV->M α)(m:(List AV->M α)->M α):M α:=m k
def au(c:AV)(want:Bool)(n:Nat)(m:M (List AV)):M (List AV):=match c with
 |.bool b=>bif b== want then m else M.pure (List.replicate n (.tup []))
 |.tup []=>M.pure (List.replicate n (.tup []))
 |_=>M.fail
def bZ{α:Type}:Nat->((List AV->M α)->List AV->M α)->List AV->M α
 |0,_,_=>M.fail
 |n+1,F,vs=>F (bZ n F) vs
def nth(l:List AV)(i:Nat):AV:=l.getD i .any
theorem aw{α β:Type}(a:α)(f:α->M β):ae (M.pure a) f=f a:=rfl
theorem ay{α β:Type}(a:α)(f:α->M β):ae (ah (some a)) f=f a:=rfl
theorem wb{α β:Type}(f:α->M β):ae (M.fail) f=M.fail:=rfl
theorem ub{α β:Type}(v:AV)(f:α->M β):ae (dy v) f=dy v:=rfl
def cR{α β γ:Type}(m:M α)(f:α->M β)(g:β->M γ):ae (ae m f) g=ae m fun a=>ae (f a) g:=by
 funext h;simp only[ae];cases m h<;>rfl
def wd{α:Type}(m:M α):ae m M.pure=m:=by
 funext h;simp only[ae];cases hm:m h<;>rfl
def gN:Nat:=4
structure GOKw (w:World):Prop where
 max:∃m,w.cell? ⟨1,0,none⟩=some (.int .i64 m)
 pow:∃t fr,w.heap[0]? = some (.cells (Lib.pow10Tab.map fun z=>Value.int .u64 z).toArray t fr)
 syn:∃t p,w.cell? ⟨2,0,none⟩=some (.iface t p)
 rng:∃t p,w.cell? ⟨3,0,none⟩=some (.iface t p)
def GOKw.mono{w w':World}(hk:∀b,b<gN->w'.heap[b]? = w.heap[b]?)(h:GOKw w):GOKw w':=by
 have hc:∀b,b<gN->∀o,w'.cell? ⟨b,o,none⟩=w.cell? ⟨b,o,none⟩:=fun b hb o=>by simp[World.cell?,hk b hb]
 exact⟨by rw[hc 1 (by decide)];exact h.max,by rw[hk 0 (by decide)];exact h.pow,by rw[hc 2 (by decide)];exact h.syn,by rw[hc 3 (by decide)];exact h.rng⟩
def GOKw.lt{w:World}(h:GOKw w):gN<=w.heap.size:=by
 obtain⟨t,p,hc⟩:=h.rng;rcases Gd 3 w.heap.size with hl|hl
 ·exact hl
 ·simp[World.cell?,Gz hl]at hc
def tk:Nat->Option (List AV):=fun _=>none
def zg{w:World}(_:GOKw w):∀g cs,tk g=some cs->∃vs,aP (fun b o=>w.cell? ⟨b,o,none⟩) [] cs vs/\c6 (fun b o=>w.cell? ⟨b,o,none⟩) g 0 vs:=fun _ _ h=>by cases h
end Go.Av
namespace Go.Av
inductive TK where
 |other|bool|int (k:IntKind)|str|slice (elem:Nat)|struct|array (len elem:Nat)|iface|ptr|func|map (key elem:Nat)
structure TI where
 agg:Bool
 size:Nat
 bytes:Nat
 kind:TK
 offs:List (Nat×Nat×Bool):=[]
 zero:List AV:=[]
 eqok:Bool:=false
abbrev TT:=Nat->Option TI
def s5:Value->AV
 |.bool b=>.bool b
 |.int k n=>.int k n
 |.string s=>.str s.data.toList
 |.pointer none=>.nilp
 |.slice none 0 0=>.sl []
 |.nilFunc=>.nilf
 |.nilIface=>.nili
 |.map none=>.nilm
 |_=>.any
def cA:Value->AV
 |.agg cs=>.agg (cs.toList.map s5)
 |.tuple vs=>bif vs.isEmpty then .tup []else .any
 |v=>s5 v
def kj(ti:TI)(cs:List AV)(off:Nat):Option AV:=
 bif ti.agg then some (.agg ((cs.drop off).take ti.size))else cs[off]?
mutual
def wz(T:TT):Nat->Nat->AV->AV->Option Bool
 |0,_,_,_=>none
 | d+1,t,x,y=>match T t with
  |none=>none
  |some ti=>match ti.kind,x,y with
   |.bool,.bool a,.bool b=>some (a== b)
   |.int _,.int k a,.int k' b=>if k=k' then some (a== b)else none
   |.str,.str a,.str b=>some (a== b)
   |.ptr,.nilp,.nilp=>some true
   |.ptr,.nilp,.ip _=>some false
   |.ptr,.ip _,.nilp=>some false
   |.ptr,.nilp,.hp _ _=>some false
   |.ptr,.hp _ _,.nilp=>some false
   |.iface,.nili,.iface _ _=>some false
   |.iface,.iface _ _,.nili=>some false
   |.struct,.agg xs,.agg ys=>bif ti.eqok then rQ T d ti.offs xs ys else none
   |.slice _,.hn,.hn=>some true
   |.slice _,.sl (_:: _),.hn=>some false
   |.slice _,.hs _ _ _ _ _,.hn=>some false
   |.iface,.nili,.nili=>some true
   |_,_,_=>none
def rQ(T:TT):Nat->List (Nat×Nat×Bool)->List AV->List AV->Option Bool
 |_,[],_,_=>some true
 |0,_:: _,_,_=>none
 | d + 1,(o,t,named):: fs,xs,ys=>
  bif named then
   match T t with
   |none=>none
   | some ti=>match kj ti xs o,kj ti ys o with
    |some a,some b=>match wz T d t a b with
     |some true=>rQ T d fs xs ys
     |some false=>some false
     |none=>none
    |_,_=>none
  else rQ T d fs xs ys
end
def aV:List UInt8->List UInt8->Bool
 |_,[]=>false
 |[],_:: _=>true
 |a:: x,b:: y=>a<b||(a== b&&aV x y)
def Di(op:BinOp)(k:IntKind)(a b:Int):Option AV:=
 match op with
 |.add=>some (.int k (k.wrap (a+b)))
 |.sub=>some (.int k (k.wrap (a-b)))
 |.mul=>some (.int k (k.wrap (a*b)))
 |.quo=>if b=0 then none else some (.int k (k.wrap (a.tdiv b)))
 |.rem=>if b=0 then none else some (.int k (a.tmod b))
 |.and=>some (.int k (k.wrap (BitVec.ofInt k.bits a &&& BitVec.ofInt k.bits b).toNat))
 |.or=>some (.int k (k.wrap (BitVec.ofInt k.bits a ||| BitVec.ofInt k.bits b).toNat))
 |.xor=>some (.int k (k.wrap (BitVec.ofInt k.bits a ^^^ BitVec.ofInt k.bits b).toNat))
 |.andNot=>some (.int k (k.wrap (BitVec.ofInt k.bits a &&& ~~~ BitVec.ofInt k.bits b).toNat))
 |.eql=>some (.bool (a== b))
 |.neq=>some (.bool (a != b))
 |.lss=>some (.bool (a<b))
 |.leq=>some (.bool (a<=b))
 |.gtr=>some (.bool (a>b))
 |.geq=>some (.bool (a >= b))
 |_=>none
def DN(op:BinOp)(a b:List UInt8):Option AV:=
 match op with
 |.add=>if a.length+b.length<=4611686018427387904 then some (.str (a++b))else none
 |.eql=>some (.bool (a== b))
 |.neq=>some (.bool !(a== b))
 |.lss=>some (.bool (aV a b))
 |.leq=>some (.bool (aV a b||a== b))
 |.gtr=>some (.bool !(aV a b||a== b))
 |.geq=>some (.bool !(aV a b))
 |_=>none
def Fo(op:BinOp)(k:IntKind)(a b:Int):Option AV:=
 if b<0 then none else
 match op with
 |.shl=>some (.int k (k.wrap (a*2 ^ (min b.toNat k.bits))))
 |.shr=>some (.int k (a.fdiv (2 ^ (min b.toNat k.bits))))
 |_=>none
def oL:BinOp->Bool
 |.shl|.shr=>true
 |_=>false
def ao(T:TT)(op:BinOp)(t:TypeId)(x y:AV):Option AV:=
 match x,y with
 |.int k a,.int k' b=>bif oL op then Fo op k a b else if k=k' then Di op k a b else none
 |.str a,.str b=>DN op a b
 |x,y=>match op with
  |.eql=>(wz T 20 t x y).map .bool
  |.neq=>(wz T 20 t x y).map fun b=>.bool !b
  |_=>none
def iz(op:UnOp)(x:AV):Option AV:=
 match op,x with
 |.not,.bool b=>some (.bool !b)
 |.neg,.int k n=>some (.int k (k.wrap (0-n)))
 |_,_=>none
def zT(T:TT)(src dst:TypeId)(x:AV):Option AV:=none
def aa(T:TT)(t:TypeId)(x:AV)(f:Nat):Option AV:=
 match T t with
 |none=>none
 | some ti=>match ti.offs[f]? with
  |none=>none
  | some (o,ft,_)=>match T ft with
   |none=>none
   |some fi=>if fi.size=0 then none else
    match x with
    |.ip cs=>some (.ip (cs.drop o))
    |.hp l off=>some (.hp l (off+o))
    |_=>none
def ax(T:TT)(t:TypeId)(x i:AV):Option AV:=
 match T t,i with
 | some ti,.int _ n=>match ti.kind,x with
  | .slice e,.sl es=>match T e with
   |some ei=>if n<0 then none else match es[n.toNat]? with
    |some a=>if bS a=some ei.size then some (.ip (ab a))else none
    |none=>none
   |none=>none
  |.slice e,.hs l off len _ _=>match T e with
   |some ei=>if 0<=n/\n<len then some (.hp l (off+n.toNat*ei.size))else none
   |none=>none
  |.array m e,.ip cs=>match T e with
   |some ei=>if 0<=n/\n<m then some (.ip (cs.drop (n.toNat*ei.size)))else none
   |none=>none
  |.array m e,.hp l off=>match T e with
   |some ei=>if 0<=n/\n<m then some (.hp l (off+n.toNat*ei.size))else none
   |none=>none
  |_,_=>none
 |_,_=>none
def ak(T:TT)(t:TypeId)(x:AV):Option AV:=
 match T t,x with
 |some ti,.ip cs=>bif ti.agg then(if ti.size<=cs.length then some (.agg (cs.take ti.size))else none)else cs.head?
 |_,_=>none
def db:AV->Option AV
 |.ip cs=>some (.ip cs)
 |.hp l off=>some (.hp l off)
 |.iface t v=>some (.iface t v)
 |.fn (.func f) a c=>some (.fn (.func f) a c)
 |_=>none
def da(T:TT)(t:TypeId)(x i:AV):Option AV:=
 match T t,i with
 | some ti,.int _ n=>match ti.kind,x with
  |.str,.str s=>if n<0 then none else s[n.toNat]?.map fun b=>.int .u8 b.toNat
  |.array m e,.agg cs=>match T e with
   |some ei=>if 0<=n/\n<m then kj ei cs (n.toNat*ei.size)else none
   |none=>none
  |_,_=>none
 |_,_=>none
def rV(T:TT)(t:TypeId)(x:AV)(f:Nat):Option AV:=
 match T t,x with
 | some ti,.agg cs=>match ti.kind,ti.offs[f]? with
  |.struct,some (o,ft,_)=>match T ft with
   |some fi=>kj fi cs o
   |none=>none
  |_,_=>none
 |_,_=>none
def bI(x:Option AV)(dflt most:Nat):Option Nat:=
 match x with
 |none=>some dflt
 |some (.int _ n)=>if 0<=n/\n<=most then some n.toNat else none
 |some _=>none
def be:AV->Bool
 |.any|.agg _|.tup _|.nilb _|.byt _ _|.it _=>false
 |_=>true
def bq(sz:Nat)(e:AV):Bool:=bS e== some sz&&(ab e).all be
def cJ(sz:Nat)(es:List AV):Bool:=es.all (bq sz)
def r7:AV->Bool
 |.str _=>true
 |_=>false
def eb(T:TT)(t:TypeId)(x:AV)(lo hi mx:Option AV):Option AV:=
 match T t with
 |none=>none
 | some ti=>match ti.kind,x with
  | .str,.str s=>match mx with
   |some _=>none
   | none=>match bI hi s.length s.length with
    |none=>none
    |some h=>match bI lo 0 h with
     |none=>none
     |some l=>some (.str ((s.take h).drop l))
  | .slice e,.sl es=>match T e with
   |none=>none
   | some ei=>match bI hi es.length es.length with
    |none=>none
    | some h=>match bI lo 0 h with
     |none=>none
     | some l=>bif decide (l=0)||cJ ei.size es then
      (match mx with
      |none=>some (.sl ((es.take h).drop l))
      |some m=>match hi,bI (some m) 0 es.length with
       |some _,some m'=>if m'=h then some (.sl ((es.take h).drop l))else none
       |_,_=>none)
      else none
  | .slice e,.hn=>match T e with
   |none=>none
   | some _=>match mx with
    |some _=>none
    | none=>match bI hi 0 0 with
     |none=>none
     |some h=>match bI lo 0 h with
      |none=>none
      |some _=>some .hn
  | .slice e,.hs l0 off len sz ag=>match T e with
   |none=>none
   | some ei=>match mx with
    |some _=>none
    | none=>match bI hi len len with
     |none=>none
     |some h=>match bI lo 0 h with
      |none=>none
      |some l=>if ei.size=sz then(if l<h then some (.hs l0 (off+l*sz) (h-l) sz ag)else some (.sl []))else none
  |.array m e,.ip cs=>match T e,lo,hi,mx with
   |some ei,none,none,none=>if ei.size=1/\cs.length=m/\0<m/\cs.all r7=true then some (.sl cs)else none
   |_,_,_,_=>none
  |_,_=>none
def sI(T:TT)(t:TypeId)(x:AV)(lo hi mx:Option AV):Option AV:=none
def Bd(T:TT)(t:TypeId)(x:AV)(lo:Option AV):Option AV:=match x with
 |.sl es=>eb T t (.sl es) lo none none
 |_=>none
def setCells(cs:List AV)(off:Nat)(xs:List AV):List AV:=cs.take off++xs++cs.drop (off+xs.length)
def m9(place:Nat->Option (Nat×Nat))(cs:List AV):List (Nat×AV)->Option (List AV)
 |[]=>some cs
 |(i,v):: rest=>match place i with
  |none=>none
  |some (off,size)=>if bS v=some size/\off+size<=cs.length then m9 place (setCells cs off (ab v)) rest else none
def eV(T:TT):List (Nat×Nat×Bool)->Option (List (Nat×Nat))
 |[]=>some []
 |(o,t,_):: fs=>match T t,eV T fs with
  |some ti,some r=>some ((o,ti.size):: r)
  |_,_=>none
def cy(told:Bool)(ti:TI):List AV:=bif told then ti.zero.map (fun|.sl []=>.hn|x=>x)else ti.zero
def bW(T:TT)(told:Bool)(t:TypeId)(parts:List (Nat×AV)):Option AV:=
 match T t with
 |none=>none
 | some ti=>match ti.kind with
  |.struct=>match eV T ti.offs with
   |none=>none
   |some pl=>(m9 (fun i=>pl[i]?) (cy told ti) parts).map .agg
  |.array _ e=>match T e with
   |none=>none
   |some ei=>(m9 (fun i=>some (i*ei.size,ei.size)) (cy told ti) parts).map .agg
  |_=>none
def gI(ti:TI):AV:=bif ti.agg then .agg ti.zero else nth ti.zero 0
def iH(sz:Nat)(es:List AV):List (Nat×AV)->Option (List AV)
 |[]=>some es
 |(i,v):: rest=>if bS v=some sz/\i<es.length then iH sz (es.set i v) rest else none
def bp(T:TT)(t:TypeId)(len:Nat)(parts:List (Nat×AV)):Option AV:=
 match T t with
 |none=>none
 | some ti=>match ti.kind with
  |.slice e=>match T e with
   |none=>none
   |some ei=>if len*ei.size<=16777216/\bS (gI ei)=some ei.size then(iH ei.size (List.replicate len (gI ei)) parts).map .sl else none
  |_=>none
def iu(T:TT)(t:TypeId)(len cap:AV):Option AV:=none
def g7:AV->Option (List AV)
 |.sl es=>some es
 |.hn=>some []
 |.hs _ _ 0 _ _=>some []
 |.str s=>some (s.map fun b=>.int .u8 b.toNat)
 |_=>none
def mq:AV->Nat->Bool
 |.str _,n=>Nat.beq n 1
 |_,_=>true
def cZ(T:TT)(t:TypeId)(x y:AV):Option AV:=
 match T t with
 |none=>none
 | some ti=>match ti.kind with
  | .slice e=>match T e with
   |none=>none
   |some ei=>match x,g7 y with
    |.sl as,some bs=>bif cJ ei.size as&&cJ ei.size bs&&decide ((as.length+bs.length)*ei.bytes<=140737488355328)&&decide (0<ei.bytes)&&mq y ei.size then some (.sl (as++bs))else none
    |_,_=>none
  |_=>none
def aY(T:TT)(t:TypeId)(x:AV):Option AV:=
 match T t with
 |none=>none
 |some ti=>match ti.kind,x with
  |.slice _,.sl es=>some (.int .i64 es.length)
  |.slice _,.hs _ _ n _ _=>some (.int .i64 n)
  |.slice _,.hn=>some (.int .i64 0)
  |.str,.str s=>some (.int .i64 s.length)
  |.array n _,_=>some (.int .i64 n)
  |_,_=>none
def xk(big:Bool):AV->AV->Option AV
 |.int k x,.int _ y=>some (.int k (bif big then(if y>x then y else x)else(if y<x then y else x)))
 |_,_=>none
def fZ(big:Bool):List AV->Option AV
 |[]=>none
 |[x]=>some x
 |x:: y:: r=>match xk big x y with
  |some z=>fZ big (z:: r)
  |none=>none
 termination_by l=>l.length
def cg(x:AV)(i:Nat):Option AV:=match x with
 |.tup vs=>vs[i]?
 |_=>none
def aO(c a b:AV):Option AV:=match c with
 |.bool true=>some a
 |.bool false=>some b
 |_=>none
def dK(T:TT)(t:TypeId)(x:AV):Option AV:=match T t with
 |none=>none
 |some ti=>match ti.kind with
  |.iface=>none
  |_=>some (.iface t x)
def ra:AV->Option Nat
 |.nilb t=>some t
 |.byt t _=>some t
 |_=>none
def lM(a:AV):Bool:=(ra a).isSome
def newH(cs:List AV):M AV:=fun h=>bif cs.isEmpty||cs.any lM then .fail else .ok (.hp h.length 0) (h++[cs])
def y1(t:Nat)(cs:List AV):M AV:=fun _=>.fail
def eK(T:TT)(t:TypeId)(x:AV):M AV:=fun h=>
 match x with
 | .hp l off=>match T t,h[l]? with
  | some ti,some cs=>bif ti.agg then(if off+ti.size<=cs.length then .ok (.agg ((cs.drop off).take ti.size)) h else .fail)
   else match cs[off]? with
    |some v=>.ok v h
    |none=>.fail
  |_,_=>.fail
 |x=>match ak T t x with
  |some v=>.ok v h
  |none=>.fail
def fo(T:TT)(t:TypeId)(x v:AV):M AV:=fun h=>
 match x,T t with
 |.hp l off,some ti=>match h[l]? with
  |some cs=>bif bq ti.size v&&decide (off+ti.size<=cs.length)&&decide (0<ti.size)then .ok (.tup []) (h.set l (setCells cs off (ab v)))else .fail
  |none=>.fail
 |_,_=>.fail
def appH(T:TT)(t:TypeId)(z:Bool)(x y:AV):M AV:=fun h=>
 match T t with
 |none=>.fail
 | some ti=>match ti.kind with
  | .slice e=>match T e with
   |none=>.fail
   | some ei=>match g7 y with
    |none=>.fail
    | some bs=>bif cJ ei.size bs&&decide (0<ei.bytes)&&decide (0<ei.size)&&mq y ei.size then
      match x with
      |.hn=>bif bs.isEmpty then .ok .hn h else
       bif decide (bs.length*ei.bytes<=140737488355328)then .ok (.hs h.length 0 bs.length ei.size ei.agg) (h++[bs.flatMap ab])else .fail
      |.sl []=>bif z then(bif bs.isEmpty then .ok (.sl []) h else
       bif decide (bs.length*ei.bytes<=140737488355328)then .ok (.hs h.length 0 bs.length ei.size ei.agg) (h++[bs.flatMap ab])else .fail)else .fail
      | .hs l 0 len sz ag=>match h[l]? with
       |none=>.fail
       | some cs=>bif sz== ei.size&&ag== ei.agg&&cs.all be&&decide (len*sz<=cs.length)&&decide (0<cs.length)&&decide ((len+bs.length)*ei.bytes<=140737488355328)then
         (bif bs.isEmpty then .ok (.hs l 0 len sz ag) h
         else .ok (.hs h.length 0 (len+bs.length) sz ag) ((h.set l [])++[cs.take (len*sz)++bs.flatMap ab]))
        else .fail
      |_=>.fail
     else .fail
  |_=>.fail
def yg(T:TT)(t:TypeId)(x y:AV):M AV:=fun _=>.fail
def ov(T:TT)(t:TypeId)(len:Nat)(parts:List (Nat×AV)):M AV:=fun _=>.fail
def tz(T:TT)(t:TypeId)(len cap:AV):M AV:=fun _=>.fail
def fc(ag:Bool)(sz:Nat):Nat->List AV->List AV
 |0,_=>[]
 |n+1,cs=>(bif ag then .agg (cs.take sz)else nth cs 0):: fc ag sz n (cs.drop sz)
def mN(h:Hp):AV->Option (List AV)
 |.hs l off len sz ag=>match h[l]? with
  |some cs=>bif (ag||Nat.beq sz 1)&&decide (off+len*sz<=cs.length)&&((cs.drop off).take (len*sz)).all be then some (fc ag sz len (cs.drop off))else none
  |none=>none
 |.hn=>some []
 |.sl es=>some es
 |_=>none
def pw(T:TT)(t:TypeId)(x y:AV):M AV:=fun h=>match mN h y with
 |some es=>(match cZ T t x (.sl es)with
  |some v=>.ok v h
  |none=>.fail)
 |none=>.fail
def oz(T:TT)(t:TypeId)(x:AV):M AV:=fun _=>.fail
def uj(T:TT):Nat->Nat->AV->Bool
 |0,_,_=>false
 | d + 1,t,x=>match T t with
  |none=>false
  | some ti=>match ti.kind,x with
   |.bool,_=>true
   |.int _,_=>true
   |.str,_=>true
   |.ptr,_=>true
   | .struct,.agg cs=>ti.offs.all fun f=>match T f.2.1 with
    |none=>false
    |some fi=>match kj fi cs f.1 with
     |some y=>uj T d f.2.1 y
     |none=>false
   |_,_=>false
def tO:AV->AV->Bool
 |.bool a,.bool b=>a== b
 |.int k a,.int k' b=>decide (k=k')&&a== b
 |.str a,.str b=>a== b
 |_,_=>false
def oY:List AV->List AV->Bool
 |[],[]=>true
 |x:: xs,y:: ys=>tO x y&&oY xs ys
 |_,_=>false
def tP:AV->AV->Bool
 |.agg xs,.agg ys=>oY xs ys
 |x,y=>tO x y
def iI(T:TT)(kt:Nat)(k:AV):List AV->Nat->Option (Option (Nat×AV×AV))
 |[],_=>some none
 |.tup [k',v]:: es,i=>match wz T 20 kt k k' with
  |some true=>some (some (i,k',v))
  |some false=>iI T kt k es (i+1)
  |none=>none
 |_:: _,_=>none
def lW(T:TT)(t:Nat):Option (Nat×Nat):=match T t with
 |some ti=>(match ti.kind with|.map k e=>some (k,e)|_=>none)
 |none=>none
def oS:M AV:=fun h=>.ok (.mp h.length) (h++[[.tup []]])
def jS(h:Hp):AV->Option (List AV)
 |.mp l=>match h[l]? with
  |some [.tup es]=>some es
  |_=>none
 |.nilm=>some []
 |_=>none
def nG(T:TT)(t:TypeId)(es:List AV)(k:AV)(ok:Bool):Option AV:=match lW T t with
 |none=>none
 | some (kt,et)=>bif uj T 20 kt k then(match T et with
  |none=>none
  |some ei=>match iI T kt k es 0 with
   |some (some (_,_,v))=>some (bif ok then .tup [v,.bool true]else v)
   |some none=>some (bif ok then .tup [gI ei,.bool false]else gI ei)
   |none=>none)else none
def kg(T:TT)(t:TypeId)(x k:AV)(ok:Bool):M AV:=fun h=>match jS h x with
 |none=>.fail
 |some es=>match nG T t es k ok with
  |some v=>.ok v h
  |none=>.fail
def y6(T:TT)(kt:Nat)(es:List AV)(k v:AV):Option (List AV):=match iI T kt k es 0 with
 |some (some (i,k',_))=>bif tP k' k then some (es.set i (.tup [k,v]))else none
 |some none=>some (es++[.tup [k,v]])
 |none=>none
def xu(T:TT)(t:TypeId)(x k v:AV):M AV:=fun h=>match lW T t with
 |none=>.fail
 | some (kt,_)=>bif uj T 20 kt k then(match x with
  | .mp l=>(match h[l]? with
   |some [.tup es]=>(match y6 T kt es k v with
    |some es'=>.ok (.tup []) (h.set l [.tup es'])
    |none=>.fail)
   |_=>.fail)
  |_=>.fail)else .fail
def Dw(ps:List Nat):AV:=.sl (ps.map fun(i:Nat)=>.int .i64 i)
def oX(T:TT)(t:TypeId)(x:AV):M AV:=fun _=>.fail
def lq(x:AV):M AV:=fun _=>.fail
mutual
def cl(g:Nat->Nat->Nat->Nat->Bool->AV):AV->AV
 |.agg cs=>.agg (di g cs)
 |.tup cs=>.tup (di g cs)
 |.sl es=>.sl (di g es)
 |.ip cs=>.ip (di g cs)
 |.hp _ _=>.any
 |.hs l off len sz ag=>g l off len sz ag
 |.hn=>.sl []
 |.fn f a c=>.fn f (di g a) (di g c)
 |.iface t v=>.iface t (cl g v)
 |.any=>.any
 |.bool b=>.bool b
 |.int k n=>.int k n
 |.str s=>.str s
 |.nilp=>.nilp
 |.nilf=>.nilf
 |.nili=>.nili
 |.mp _=>.any
 |.nilm=>.nilm
 |.nilb _=>.nilp
 |.byt _ n=>.int .u8 n
 |.it _=>.any
def di(g:Nat->Nat->Nat->Nat->Bool->AV):List AV->List AV
 |[]=>[]
 |c:: cs=>cl g c:: di g cs
end
def az:Nat->Nat->Nat->Nat->Bool->AV:=fun _ _ _ _ _=>.any
def ka:Nat->Hp->AV->AV
 |0,_,a=>cl az a
 | d + 1,h,a=>cl (fun l off len sz ag=>match h[l]? with
   | some cs=>bif decide (off+len*sz<=cs.length)&&decide (0<sz)&&(ag||(Nat.beq sz 1&&cs.all be))then
     .sl ((List.range len).map fun i=>ka d h (bif ag then .agg ((cs.drop (off+i*sz)).take sz)else nth cs (off+i*sz)))else .any
   |none=>.any) a
inductive SV where
 |val (a:AV)
 |loc (B off:Nat)
structure Ent where
 v:SV
 g:Option Nat
def Ent.none:Ent:=⟨.val .any,.none⟩
def bg:List (Nat×Ent)->Nat->Ent
 |[],_=>Ent.none
 |(k,e):: r,t=>bif Nat.beq k t then e else bg r t
structure Env where
 sl:List (Nat×Ent)
 al:List (Nat×Option Nat)
 nx:Nat
 lb:List (Nat×Nat)
def Env.get(e:Env)(t:Nat):Ent:=bg e.sl t
def Env.set(e:Env)(t:Nat)(x:Ent):Env:={ e with sl:=(t,x):: e.sl }
def Ent.av(x:Ent):AV:=match x.v with
 |.val a=>a
 |.loc _ _=>.any
def Env.av(e:Env)(t:Nat):AV:=(e.get t).av
def opnd(e:Env):Operand->AV
 |.tmp t=>e.av t
 |.const v=>cA v
 |.func f=>.fn (.func f) [] []
 |.global g=>(match tk g with|some cs=>.ip cs|none=>.any)
inductive Kind where
 |F|L|H|S|B
 deriving DecidableEq
structure JA where
 vals:List (Nat×Option Nat)
 locs:List (Nat×Nat×Nat):=[]
 lbs:List (Nat×Nat):=[]
 fz:Bool:=false
structure Ann where
 iso:Bool:=true
 kinds:List (Nat×Kind):=[]
 hl:List Nat:=[]
 ha:List Nat:=[]
 hb:List Nat:=[]
 joins:List (Nat×JA):=[]
 loops:List (Nat×JA):=[]
 ords:List (Nat×List Nat):=[]
 nils:List (Nat×List Nat):=[]
 fz:List Nat:=[]
 no:List Nat:=[]
 nl:List Nat:=[]
 lw:List Nat:=[]
 rz:Bool:=false
 so:List Nat:=[]
 deriving Inhabited
def bv(l:List (Nat×Kind))(t:Nat)(dflt:Kind):Kind:=match l with
 |[]=>dflt
 |(k,x):: r=>bif Nat.beq k t then x else bv r t dflt
def jY(l:List (Nat×JA))(t:Nat):Option JA:=match l with
 |[]=>none
 |(k,x):: r=>bif Nat.beq k t then some x else jY r t
def wE(l:List (Nat×List Nat))(t:Nat):Option (List Nat):=match l with
 |[]=>none
 |(k,x):: r=>bif Nat.beq k t then some x else wE r t
def dw(l:List Nat)(t:Nat):Bool:=match l with
 |[]=>false
 |k:: r=>bif Nat.beq k t then true else dw r t
def bd(l:List Nat):Option Nat->Bool
 |some t=>dw l t
 |none=>false
structure Cx where
 T:TT
 call:FuncId->List AV->M AV
 own:FuncId->Option Nat
 iso:FuncId->Bool
 nw:FuncId->Bool:=fun _=>false
 nt:Nat
 ann:Ann
def aA(al:List (Nat×Option Nat))(g:Nat):Option (Option Nat):=match al with
 |[]=>none
 |(k,x):: r=>bif Nat.beq k g then some x else aA r g
def m5(al:List (Nat×Option Nat))(g:Nat):List (Nat×Option Nat):=match al with
 |[]=>[]
 |(k,x):: r=>bif Nat.beq k g then m5 r g else(k,x):: m5 r g
def aT(d:Nat):Nat:=1000*(d+1)
def iM(e:Env)(B:Nat):Nat->List AV
 |0=>[]
 |n+1=>iM e B n++[e.av (B+n)]
def aW(l:List (Nat×Nat))(B:Nat):Option Nat:=match l with
 |[]=>none
 |(k,x):: r=>bif Nat.beq k B then some x else aW r B
def gW(e:Env)(B off n:Nat):Bool:=match aW e.lb B with
 |some m=>decide (off+n<=m)&&decide (1000<=B)
 |none=>false
def fJ(n:Nat)(x:AV):Option (List AV):=bif bq n x then some (ab x)else none
def b7(call:FuncId->List AV->M AV)(f:AV)(args:List AV):M AV:=match f with
 |.fn (.func g) a c=>call g (a++args++c)
 |_=>M.fail
def bV(T:TT)(t:TypeId):Option Nat:=match T t with
 |some ti=>match ti.kind with
  |.slice e=>(T e).map (·.size)
  |_=>none
 |none=>none
def aN:Operand->Bool
 |.const (.slice none 0 0)=>true
 |_=>false
def iY(e:Env)(x:Operand):AV:=bif aN x then .hn else opnd e x
def kh(told:Bool)(e:Env)(x:Operand):AV:=bif told then iY e x else opnd e x
structure Upd where
 ent:Ent
 ls:List (Nat×Ent):=[]
 drop:Option Nat:=none
 add:List (Nat×Option Nat):=[]
 lb:Option (Nat×Nat):=none
 unlb:Option Nat:=none
def Upd.ofV(a:AV):Upd:={ ent:=⟨.val a,none⟩ }
def Upd.own(a:AV)(gid:Nat)(sz:Option Nat):Upd:={ ent:=⟨.val a,some gid⟩,add:=[(gid,sz)] }
def cS(al:List (Nat×Option Nat)):Option Nat->List (Nat×Option Nat)
 |some g=>m5 al g
 |none=>al
def gZ(l:List (Nat×Nat))(B:Nat):List (Nat×Nat):=match l with
 |[]=>[]
 |(k,x):: r=>bif Nat.beq k B then gZ r B else(k,x):: gZ r B
def cH(l:List (Nat×Nat)):Option Nat->List (Nat×Nat)
 |some B=>gZ l B
 |none=>l
def ib{α:Type}(l:List α):Option α->List α
 |some x=>x:: l
 |none=>l
def mD(d:Option Tmp)(x:Ent)(r:List (Nat×Ent)):List (Nat×Ent):=match d with
 |some t=>(t,x):: r
 |none=>r
def Env.upd(e:Env)(d:Option Tmp)(u:Upd):Env:=
 { sl:=mD d u.ent (u.ls++e.sl),al:=u.add++cS e.al u.drop,nx:=e.nx,lb:=ib (cH e.lb u.unlb) u.lb }
inductive Act1 where
 |bad
 |stat (u:Upd)
 |dyn (m:M AV) (sh:AV->Upd)
 |thr (v:AV)
def gz(B:Nat)(cs:List AV)(offs:List Nat)(gid n:Nat):List (Nat×Ent):=
 (List.range n).map fun i=>(B+i,bif dw offs i then⟨.val (.sl []),some (gid+i)⟩else⟨.val (nth cs i),none⟩)
def kA(offs:List Nat)(gid:Nat):List (Nat×Option Nat):=offs.map fun i=>(gid+i,none)
def Bl:AV->Bool
 |.hn=>true
 |_=>false
def fP(cs:List AV)(offs:List Nat)(n:Nat):Bool:=offs.all fun i=>decide (i<n)&&Bl (nth cs i)
def dC(l:List (Nat×List Nat))(t:Nat):List Nat:=match wE l t with
 |some x=>x
 |none=>[]
def aL(l:List (Nat×Ent))(B:Nat):Bool:=l.all fun x=>match x.2.v with
 |.loc C _=>!(Nat.beq C B)
 |.val _=>true
def eF(T:TT)(t:Nat):Bool:=match T t with
 |some ti=>(match ti.kind with|.slice _|.str=>true|_=>false)
 |none=>false
def o9(z:Option Nat)(s:Option Nat):Bool:=match z with
 |none=>true
 |some n=>(match s with|some m=>Nat.beq n m|none=>false)
def bT(n:Nat)(x:AV):M AV:=ah ((fJ n x).map .agg)
def dJ(x:AV):M AV:=ah (bif be x then some x else none)
def aU(n:Nat)(offs:List Nat)(x:AV):M AV:=ah (match fJ n x with
 |some cs=>bif fP cs offs n then some (.agg cs)else none
 |none=>none)
def tj(v:AV):M AV:=fun h=>.ok (ka 6 h v) (h.map fun _=>[])
def eM(e:Env):Operand->Bool
 |.tmp s=>(match (e.get s).g with
  |some g=>(match aA e.al g with|some none=>true|_=>false)
  |none=>false)
 |_=>false
def dM(cx:Cx)(e:Env)(gid:Nat)(o:Oper)(c:Call):Act1:=
 match c.callee with
 |.value (.func f)=>bif bd cx.ann.fz o.dst then(bif !(cx.iso f)&&!(cx.nw f)&&(cx.own f).isNone then .dyn (ae (cx.call f (c.args.toList.map (opnd e))) tj) .ofV else .bad)else
  .dyn (cx.call f (c.args.toList.map (kh (bd cx.ann.hb o.dst) e))) fun v=>match cx.own f with|some sz=>.own v gid (some sz)|none=>.ofV v
 |.value f=>.dyn (b7 cx.call (opnd e f) (c.args.toList.map (opnd e))) .ofV
 |.builtin .len=>match c.argTypes.toList,c.args.toList with
  |t:: _,x:: _=>.dyn (ah (aY cx.T t (opnd e x))) .ofV
  |_,_=>.bad
 |.builtin .clear=>match c.argTypes.toList,c.args.toList with
  |t:: _,x:: _=>.dyn (oz cx.T t (opnd e x)) .ofV
  |_,_=>.bad
 |.builtin .min=>.dyn (ah (fZ false (c.args.toList.map (opnd e)))) .ofV
 |.builtin .max=>.dyn (ah (fZ true (c.args.toList.map (opnd e)))) .ofV
 | .builtin .append=>match c.argTypes.toList,c.args.toList with
  | [t, u],[x,y]=>
   bif !(eF cx.T u)then .bad else
   bif bd cx.ann.ha o.dst then .dyn (bif bd cx.ann.hb o.dst then yg cx.T t (opnd e x) (opnd e y)else appH cx.T t (eM e x) (opnd e x) (opnd e y)) .ofV
   else bif aN x then .dyn (bif bd cx.ann.hl o.dst then pw cx.T t (.sl []) (opnd e y)else ah (cZ cx.T t (.sl []) (opnd e y))) fun v=>.own v gid (bV cx.T t)
   else match x with
    | .tmp s=>match (e.get s).g with
     |none=>.bad
     | some g=>match aA e.al g with
      |none=>.bad
      | some z=>bif o9 z (bV cx.T t)then
        .dyn (bif bd cx.ann.hl o.dst then pw cx.T t (opnd e x) (opnd e y)else ah (cZ cx.T t (opnd e x) (opnd e y))) fun v=>{ Upd.own v gid (bV cx.T t)with drop:=some g }
       else .bad
    |_=>.bad
  |_,_=>.bad
 |_=>.bad
def cK(cx:Cx)(e:Env)(d:Option Tmp)(t:TypeId)(p:Nat):Act1:=
 match (e.get p).v with
 | .loc B off=>match cx.T t with
  |none=>.bad
  | some ti=>bif gW e B off ti.size then
    (bif ti.agg then .stat (.ofV (.agg (iM e (B+off) ti.size)))else bif decide (ti.size=1)then .stat { ent:=e.get (B+off) }else .bad)
   else .bad
 |.val a=>bif bd cx.ann.hl d then .dyn (eK cx.T t a) .ofV else .dyn (ah (ak cx.T t a)) .ofV
def BW:Act1->Act1
 |.bad=>.bad
 |.stat u=>.dyn (tj u.ent.av) .ofV
 |.dyn m sh=>.dyn (ae m fun v=>tj (sh v).ent.av) .ofV
 |.thr v=>.thr v
def uF:Kind->Bool
 |.S=>true
 |_=>false
def iy(e:Env)(B off p n:Nat):Bool:=Nat.beq off 0&&Nat.beq B (aT p)&&(match aW e.lb B with
 |some m=>Nat.beq m n
 |none=>false)
def dN(cx:Cx)(e:Env)(gid:Nat)(t:TypeId)(p:Nat)(y:Operand):Act1:=
 match (e.get p).v with
 | .loc B off=>match cx.T t with
  |none=>.bad
  | some ti=>bif gW e B off ti.size then
    (bif uF (bv cx.ann.kinds p .L)then(bif iy e B off p ti.size then
      .dyn (bT ti.size (opnd e y)) fun v=>{ Upd.ofV (.tup [])with ls:=[(p,⟨.val (.ip (ab v)),none⟩)],unlb:=some B }
     else .bad)
    else
    bif ti.agg then
     (match dC cx.ann.nils p with
     |offs=>.dyn (aU ti.size offs (opnd e y)) fun v=>{ Upd.ofV (.tup [])with ls:=gz (B+off) (ab v) offs gid ti.size,add:=kA offs gid })
    else bif decide (ti.size=1)then(match y with
     |.tmp s=>match (e.get s).v with
      |.val a=>.dyn (dJ a) fun _=>{ Upd.ofV (.tup [])with ls:=[(B+off,e.get s)] }
      |.loc _ _=>.bad
     |y=>bif aN y then .stat { Upd.ofV (.tup [])with ls:=[(B+off,⟨.val (.sl []),some gid⟩)],add:=[(gid,none)] }
      else .dyn (dJ (opnd e y)) fun v=>{ Upd.ofV (.tup [])with ls:=[(B+off,⟨.val v,none⟩)] })else .bad)
   else .bad
 |.val a=>.dyn (fo cx.T t a (opnd e y)) .ofV
def eN(cx:Cx)(e:Env)(t:TypeId)(p f:Nat):Act1:=
 match (e.get p).v with
 | .loc B off=>match cx.T t with
  |none=>.bad
  | some ti=>match ti.offs[f]? with
   |none=>.bad
   |some (o',ft,_)=>match cx.T ft with
    |none=>.bad
    |some fi=>bif decide (fi.size=0)then .bad else .stat { ent:=⟨.loc B (off+o'),none⟩ }
 |.val a=>.dyn (ah (aa cx.T t a f)) .ofV
def ln:Operand->Option Int
 |.const (.int _ n)=>some n
 |_=>none
def cp(cx:Cx)(e:Env)(t:TypeId)(p:Nat)(i:Operand):Act1:=
 match (e.get p).v with
 | .loc B off=>match cx.T t,ln i with
  | some ti,some n=>match ti.kind with
   |.array m el=>match cx.T el with
    |none=>.bad
    |some ei=>bif decide (0<=n/\n<m)then .stat { ent:=⟨.loc B (off+n.toNat*ei.size),none⟩ }else .bad
   |_=>.bad
  |_,_=>.bad
 |.val a=>.dyn (ah (ax cx.T t a (opnd e i))) .ofV
def dL(cx:Cx)(e:Env)(gid s:Nat)(t:TypeId):Act1:=
 match cx.T t with
 |none=>.bad
 | some ti=>match bv cx.ann.kinds s .L with
  |.F=>.stat (.ofV (.ip ti.zero))
  |.H=>.dyn (newH (cy (dw cx.ann.hb s) ti)) .ofV
  |.B=>.dyn (y1 t (cy true ti)) .ofV
  |_=>match dC cx.ann.nils s with
   | offs=>bif decide (ti.size<1000)&&aL e.sl (aT s)&&fP (cy true ti) offs ti.size then
     .stat { ent:=⟨.loc (aT s) 0,none⟩,ls:=gz (aT s) (cy (dw cx.ann.hb s) ti) offs gid ti.size,add:=kA offs gid,lb:=some (aT s,ti.size) }else .bad
def gC(cx:Cx)(e:Env)(s:Nat)(t:TypeId)(x:Operand):Act1:=
 match bv cx.ann.kinds s .F with
 |.F=>.stat (.ofV (.ip (ab (opnd e x))))
 |.H=>.dyn (newH (ab (opnd e x))) .ofV
 |.B=>.bad
 | _=>match cx.T t with
  |none=>.bad
  | some ti=>bif decide (ti.size<1000)&&aL e.sl (aT s)then
    .dyn (bT ti.size (opnd e x)) fun v=>{ ent:=⟨.loc (aT s) 0,none⟩,ls:=gz (aT s) (ab v) [] 0 ti.size,lb:=some (aT s,ti.size) }
   else .bad
def e8(told:Bool)(e:Env)(gid:Nat)(x:Operand):Act1:=match x with
 |.tmp t=>.stat { ent:=e.get t }
 |x=>bif aN x then(bif told then .stat (.ofV .hn)else .stat (.own (.sl []) gid none))else .stat (.ofV (opnd e x))
def eZ(x:Ent):Bool:=match x.v with
 |.loc _ _=>true
 |.val _=>false
def sr:AV->M AV
 |.iface t v=>dy (.iface t v)
 |_=>M.fail
def isLit:Operand->Bool
 |.const _=>true
 |_=>false
def lG(T:TT)(op:BinOp)(t:TypeId)(x y:Operand):Bool:=
 (match op with|.eql|.neq=>true|_=>false)&&(match T t with|some ti=>(match ti.kind with|.iface=>true|_=>false)|none=>false)&&!(isLit x)&&!(isLit y)
def gD(cx:Cx)(e:Env)(d:Option Tmp)(t:TypeId)(m k x:Operand):Act1:=match d with
 |none=>.dyn (xu cx.T t (opnd e m) (opnd e k) (opnd e x)) .ofV
 |some _=>.bad
def rN(T:TT)(t:TypeId)(z:Nat):Bool:=match bV T t with
 |some m=>Nat.beq z m
 |none=>false
def iX(cx:Cx)(e:Env)(gid:Nat)(t:TypeId)(x:Operand)(lo hi mx:Option Operand):Act1:=match x with
 | .tmp s=>(match (e.get s).g with
  |none=>.bad
  | some g=>(match aA e.al g with
   | some (some z)=>bif rN cx.T t z&&hi.isNone&&mx.isNone then
     .dyn (ah (Bd cx.T t (opnd e x) (lo.map (opnd e)))) fun v=>{ Upd.own v gid (some z)with drop:=some g }
    else .bad
   |_=>.bad))
 |_=>.bad
def dG(cx:Cx)(e:Env)(gid:Nat)(o:Oper):Act1:=
 match o.op with
 |.move x=>e8 (bd cx.ann.hb o.dst) e gid x
 |.assign x=>e8 (bd cx.ann.hb o.dst) e gid x
 |.pick c a b=>.dyn (ah (aO (opnd e c) (opnd e a) (opnd e b))) .ofV
 |.box t x=>match o.dst with
  |none=>.bad
  |some s=>gC cx e s t x
 |.alloc t=>match o.dst with
  |none=>.bad
  |some s=>dL cx e gid s t
 |.load t x=>match x with
  |.tmp p=>bif bd cx.ann.nl o.dst&&eZ (e.get p)then .bad else bif bd cx.ann.fz o.dst then BW (cK cx e o.dst t p)else cK cx e o.dst t p
  |_=>.bad
 |.store t x y=>match x,o.dst with
  |.tmp p,none=>bif dw cx.ann.lw p&&!(eZ (e.get p))then .bad else dN cx e gid t p y
  |_,_=>.bad
 |.build t parts=>.dyn (ah (bW cx.T (bd cx.ann.hb o.dst) t (parts.toList.map fun p=>(p.1,opnd e p.2)))) .ofV
 |.buildSlice t n parts=>bif bd cx.ann.ha o.dst then .dyn (ov cx.T t n (parts.toList.map fun p=>(p.1,opnd e p.2))) .ofV else .dyn (ah (bp cx.T t n (parts.toList.map fun p=>(p.1,opnd e p.2)))) fun v=>bif bd cx.ann.no o.dst then .ofV v else .own v gid none
 | .nilCheck x=>match x with
  |.tmp p=>match (e.get p).v with
   |.loc _ _=>.stat { ent:=e.get p }
   |.val a=>.dyn (ah (db a)) .ofV
  |_=>.bad
 |.binOp op t x y _=>bif lG cx.T op t x y then .bad else .dyn (ah (ao cx.T op t (iY e x) (iY e y))) .ofV
 |.unOp op _ x=>.dyn (ah (iz op (opnd e x))) .ofV
 |.convert s t x=>.dyn (ah (zT cx.T s t (opnd e x))) .ofV
 |.makeInterface t x=>.dyn (ah (dK cx.T t (opnd e x))) .ofV
 |.makeFunc f a c=>.stat (.ofV (.fn f (a.toList.map (opnd e)) (c.toList.map (opnd e))))
 |.makeSlice t n c=>bif bd cx.ann.ha o.dst then .dyn (tz cx.T t (opnd e n) (opnd e c)) .ofV else .dyn (ah (iu cx.T t (opnd e n) (opnd e c))) fun v=>.own v gid (bV cx.T t)
 |.slice t x lo hi mx=>bif bd cx.ann.so o.dst then iX cx e gid t x lo hi mx else
  .dyn (ah (bif bd cx.ann.hb o.dst then sI cx.T t (opnd e x) (lo.map (opnd e)) (hi.map (opnd e)) (mx.map (opnd e))else eb cx.T t (opnd e x) (lo.map (opnd e)) (hi.map (opnd e)) (mx.map (opnd e)))) fun v=>bif mx.isSome then .own v gid none else .ofV v
 |.fieldAddr t x f=>match x with
  |.tmp p=>eN cx e t p f
  |_=>.bad
 |.indexAddr t x i=>match x with
  |.tmp p=>cp cx e t p i
  |.global g=>.dyn (ah (ax cx.T t (opnd e (.global g)) (opnd e i))) .ofV
  |_=>.bad
 |.field t x f=>.dyn (ah (rV cx.T t (opnd e x) f)) .ofV
 |.index t x i=>.dyn (ah (da cx.T t (opnd e x) (opnd e i))) .ofV
 |.extract x i=>.dyn (ah (cg (opnd e x) i)) .ofV
 |.panic x=>.dyn (sr (opnd e x)) .ofV
 |.call c=>dM cx e gid o c
 |.makeMap _ r=>bif r.isSome then .bad else .dyn oS .ofV
 |.lookup t x i ok=>.dyn (kg cx.T t (opnd e x) (opnd e i) ok) .ofV
 |.mapUpdate t m k x=>gD cx e o.dst t m k x
 |.insert t m k x=>gD cx e o.dst t m k x
 |.range t x=>.dyn (oX cx.T t (opnd e x)) .ofV
 |.entry x=>.dyn (lq (opnd e x)) .ofV
 |_=>.bad
def aG(e:Env)(d:Option Tmp):Act1->M Env
 |.bad=>M.fail
 |.stat u=>M.pure (e.upd d u)
 |.dyn m sh=>ae m fun v=>M.pure (e.upd d (sh v))
 |.thr v=>dy v
def aX(cx:Cx)(e:Env)(gid:Nat)(o:Oper):M Env:=aG e o.dst (dG cx e gid o)
def guardOf(ops:Array Oper)(i:Nat):Option (Nat×Bool):=match ops[i]? with
 |some o=>o.guard
 |none=>none
def tQ:Option (Nat×Bool)->Option (Nat×Bool)->Bool
 |none,none=>true
 |some (a,x),some (b,y)=>Nat.beq a b&&(x== y)
 |_,_=>false
def ck(ops:Array Oper):List Nat->List (Option (Nat×Bool)×List Nat)
 |[]=>[]
 |i:: is=>match ck ops is with
  |(g,js):: r=>bif tQ (guardOf ops i) g then(g,i:: js):: r else(guardOf ops i,[i]):: (g,js):: r
  |[]=>[(guardOf ops i,[i])]
def fm(o:Oper):List Nat:=o.op.operands.toList.filterMap fun|.tmp t=>some t|_=>none
def bY(ops:Array Oper)(i:Nat):List Nat:=match ops[i]? with
 |none=>[]
 |some o=>(match o.guard with
  |some (j,_)=>(match (ops[j]?).bind (·.dst)with|some t=>[t]|none=>[])
  |none=>[])++fm o
def cf(ops:Array Oper)(i:Nat):Option Nat:=(ops[i]?).bind (·.dst)
def bO(ops:Array Oper)(is:List Nat):List Nat:=is.filterMap (cf ops)
def sT(ops:Array Oper)(gs:List (Option (Nat×Bool)×List Nat))(t:Nat):Bool:=
 gs.any fun g=>g.2.any fun i=>dw (bY ops i) t
def b5(ops:Array Oper)(is:List Nat)(gs:List (Option (Nat×Bool)×List Nat)):List Nat:=(bO ops is).filter (sT ops gs)
def forget(e:Env):List Nat->Env
 |[]=>e
 |t:: ts=>(forget e ts).set t Ent.none
def dO(e:Env)(vs:List AV)(i:Nat):List Nat->Env
 |[]=>e
 |t:: ts=>(dO e vs (i+1) ts).set t ⟨.val (nth vs i),none⟩
structure Foot where
 rl:Bool:=false
 wl:Bool:=false
 rh:Bool:=false
 wh:Bool:=false
 piv:Bool:=false
 ad:Bool:=false
 dr:Bool:=false
 nw:Bool:=false
def aj(cx:Cx)(o:Oper):Foot:=match o.op with
 |.move x=>{ ad:=aN x }
 |.assign x=>{ ad:=aN x }
 |.load ..=>{ rl:=!(bd cx.ann.nl o.dst),rh:=bd cx.ann.hl o.dst,wh:=bd cx.ann.fz o.dst }
 |.store _ x y=>{ wl:=true,wh:=!(match x with|.tmp p=>dw cx.ann.lw p|_=>false),ad:=(match x with|.tmp p=>!(dC cx.ann.nils p).isEmpty|_=>false)||aN y }
 |.alloc _=>match o.dst with
  |some s=>(match bv cx.ann.kinds s .L with|.F=>{}|.H=>{ wh:=true }|.B=>{ wh:=true }|_=>{ wl:=true,ad:=!(dC cx.ann.nils s).isEmpty })
  |none=>{}
 |.box ..=>match o.dst with
  |some s=>(match bv cx.ann.kinds s .F with|.F=>{}|.H=>{ wh:=true }|.B=>{ wh:=true }|_=>{ wl:=true })
  |none=>{}
 |.buildSlice ..=>bif bd cx.ann.ha o.dst then{ wh:=true }else{ ad:=!(bd cx.ann.no o.dst) }
 |.makeSlice ..=>bif bd cx.ann.ha o.dst then{ wh:=true }else{ ad:=true }
 |.slice _ _ _ _ mx=>bif bd cx.ann.so o.dst then{ ad:=true,dr:=true }else{ ad:=mx.isSome }
 |.panic _=>{ wh:=true,piv:=true }
 |.makeMap ..=>{ wh:=true }
 |.lookup ..=>{ rh:=true }
 |.mapUpdate ..=>{ wh:=true }
 |.insert ..=>{ wh:=true }
 |.range ..=>{ wh:=true }
 |.entry ..=>{ rh:=true }
 |.call c=>match c.callee with
  |.builtin .clear=>{ wh:=true }
  |.value (.func f)=>bif cx.iso f then{ ad:=(cx.own f).isSome }else{ wh:=true,piv:=true,nw:=cx.nw f,ad:=(cx.own f).isSome }
  |.value _=>{ wh:=true,piv:=true }
  |.builtin .append=>bif bd cx.ann.ha o.dst then{ wh:=true,dr:=true }else{ ad:=true,rh:=bd cx.ann.hl o.dst,dr:=match c.args.toList with|x:: _=>!aN x|[]=>false }
  |_=>{}
 |_=>{}
def bw(o:Oper):Option Nat:=match o.op with
 |.store _ (.tmp p) _=>some p
 |_=>none
def df(cx:Cx)(o:Oper):Bool:=!(aj cx o).wl&&!(aj cx o).dr
def ec(u:Upd):Upd:={ ent:=⟨u.ent.v,none⟩ }
def eI:Act1->Act1
 |.bad=>.bad
 |.stat u=>.stat (ec u)
 |.dyn m sh=>.dyn m fun v=>ec (sh v)
 |.thr v=>.thr v
def iq(x:Ent):Bool:=match x.v with
 |.val _=>true
 |.loc _ _=>false
section
variable {ρ:Type}
def iE(e:Env)(d:Option Tmp)(a:Act1)(k:Env->M ρ):M ρ:=match a with
 |.bad=>M.fail
 |.stat u=>k (e.upd d u)
 |.dyn m sh=>ae m fun v=>k (e.upd d (sh v))
 |.thr v=>dy v
def fg(cx:Cx)(base:Nat)(ops:Array Oper)(st:Bool):List Nat->Env->(Env->M ρ)->M ρ
 |[],e,k=>k e
 |i:: is,e,k=>match ops[i]? with
  |none=>M.fail
  |some o=>iE e o.dst (bif st then eI (dG cx e ((base+i)*1000) o)else dG cx e ((base+i)*1000) o) fun e'=>fg cx base ops st is e' k
def cI(cx:Cx)(base:Nat)(ops:Array Oper):List (Option (Nat×Bool)×List Nat)->Env->(Env->M ρ)->M ρ
 |[],e,k=>k e
 |(none,is):: gs,e,k=>fg cx base ops false is e fun e'=>cI cx base ops gs e' k
 | (some (j,want),is):: gs,e,k=>
  match cf ops j with
  |none=>M.fail
  | some t=>
   let outs:=b5 ops is gs
   bif (is.all fun i=>match ops[i]? with|some o=>df cx o&&o.dst.isSome|none=>false)&&!(dw (bO ops is) t)then
    ae (au (e.av t) want outs.length (fg cx base ops true is e fun e'=>bif outs.all (fun t=>iq (e'.get t))then M.pure (outs.map e'.av)else M.fail)) fun vs=>
     cI cx base ops gs (dO (forget e (bO ops is)) vs 0 outs) k
   else M.fail
end
def clash:Option Nat->Option Nat->Bool
 |some s,some t=>Nat.beq s t
 |_,_=>false
def iN(cx:Cx)(ops:Array Oper)(i j:Nat):Bool:=match ops[i]?,ops[j]? with
 |some a,some b=>
  let x:=aj cx a;let y:=aj cx b
  !x.piv&&!(x.wl&&(y.rl||y.wl))&&!(x.rl&&y.wl)&&!(x.wh&&(y.rh||y.wh))&&!(x.rh&&y.wh&&!y.nw) &&
  !(x.dr&&(y.dr||y.ad))&&!(x.ad&&y.dr)&&!(x.ad&&y.ad&&(x.wl||y.wl)) &&
  !(bd (bY ops j) a.dst)&&!(bd (bY ops i) b.dst)&&!(bd (bY ops j) (bw a))&&!(bd (bY ops i) (bw b)) &&
  !(clash (bw a) b.dst)&&!(clash a.dst (bw b))&&!(clash a.dst b.dst)
 |_,_=>false
def fl(acc:List Nat):List Edge->Nat
 |[]=>0
 |x:: xs=>bif Region.binds .any x then fl acc xs ||| 2 ^ x.on ||| acc.getD x.on 0 else fl acc xs
def rA:List Oper->List Nat->List Nat
 |[],acc=>acc
 |o:: os,acc=>rA os (acc++[fl acc o.after.toList])
def fS(cx:Cx)(ops:Array Oper)(bf:List Nat):List Nat->Bool
 |[]=>true
 |i:: is=>!((bf.getD i 0).testBit i)&&(is.all fun j=>!((bf.getD i 0).testBit j)&&((bf.getD j 0).testBit i||iN cx ops i j))&&fS cx ops bf is
def xq(n:Nat)(ord:List Nat):Bool:=Nat.beq ord.length n&&((List.range n).all fun i=>dw ord i)
def distinct:List Nat->Bool
 |[]=>true
 |i:: is=>!(dw is i)&&distinct is
def fA(n:Nat)(ops:Array Oper):Bool:=ops.all fun o=>(match o.dst with|some t=>decide (t<n)|none=>true)&&(fm o).all fun t=>decide (t<1000)
def cG{α:Type}(m:M α):M α:=fun h=>match m h with
 |.ok a h'=>.ok a h'
 |.pan _ _=>.fail
 |.fail=>.fail
def dk(cx:Cx):Cx:={ cx with call:=fun f args=>bif cx.iso f then cG (cx.call f args)else cx.call f args }
def ij(cx:Cx)(ops:Array Oper)(ord:List Nat):Bool:=
 xq ops.size ord&&distinct ord&&(ord.all fun i=>decide (i<ops.size))&&(rA ops.toList []).all (fun m=>decide (m<2 ^ ops.size))&&fS cx ops (rA ops.toList []) ord
def nN(cx:Cx)(id n:Nat):List Nat:=match wE cx.ann.ords id with
 |some l=>l
 |none=>List.range n
def jU{ρ:Type}(cx:Cx)(id:Nat)(ops:Array Oper)(draw:Bool)(e:Env)(k:Env->M ρ):M ρ:=
 bif fA cx.nt ops then
  (bif draw then
   (bif ij cx ops (nN cx id ops.size)then cI (dk cx) e.nx ops (ck ops (nN cx id ops.size)) e fun e'=>k { e' with nx:=e.nx+ops.size }else M.fail)
  else cI cx e.nx ops (ck ops (List.range ops.size)) e fun e'=>k { e' with nx:=e.nx+ops.size })
 else M.fail
noncomputable def jk{ρ:Type}(cx:Cx)(id:Nat)(ops:Array Oper)(draw:Bool)(e:Env)(k:Env->M ρ):M ρ:=jU cx id ops draw e k
def ez(e:Env):List (Nat×Option Nat)->List Nat->Option (List AV)
 |[],_=>some []
 | (t,none):: r,used=>match (e.get t).v with
  |.val a=>match ez e r used with
   |some vs=>some (a:: vs)
   |none=>none
  |.loc _ _=>none
 | (t,some sz):: r,used=>match (e.get t).v,(e.get t).g with
  | .val a,some g=>match aA e.al g with
   |none=>none
   | some z=>bif (match z with|none=>true|some n=>Nat.beq n sz)&&!(dw used g)then
     match ez e r (g:: used)with
     |some vs=>some (a:: vs)
     |none=>none
    else none
  |_,_=>none
def lS(e:Env):List (Nat×Nat×Nat)->Bool
 |[]=>true
 |(t,B,off):: r=>(match (e.get t).v with
  |.loc B' off'=>Nat.beq B B'&&Nat.beq off off'
  |.val _=>false)&&lS e r
def qw(e:Env):List (Nat×Nat)->Bool
 |[]=>true
 |(B,n):: r=>(match aW e.lb B with
  |some m=>Nat.beq n m
  |none=>false)&&qw e r
def pack(ja:JA)(e:Env):Option (List AV):=
 bif lS e ja.locs&&qw e ja.lbs then ez e ja.vals []else none
def bM(vs:List AV):Nat->List (Nat×Option Nat)->List (Nat×Ent)
 |_,[]=>[]
 |i,(t,none):: r=>(t,⟨.val (nth vs i),none⟩):: bM vs (i+1) r
 |i,(t,some _):: r=>(t,⟨.val (nth vs i),some i⟩):: bM vs (i+1) r
def fH:Nat->List (Nat×Option Nat)->List (Nat×Option Nat)
 |_,[]=>[]
 |i,(_,none):: r=>fH (i+1) r
 |i,(_,some sz):: r=>(i,some sz):: fH (i+1) r
def unpack(ja:JA)(vs:List AV):Env:=
 { sl:=bM vs 0 ja.vals++ja.locs.map (fun x=>(x.1,⟨.loc x.2.1 x.2.2,none⟩)),al:=fH 0 ja.vals,nx:=ja.vals.length,lb:=ja.lbs }
def iA:Code->Option Nat
 |.cond (.tmp t) _ _=>some t
 |.seq _ y=>iA y
 |.block id _=>some (1000000+id)
 |_=>none
abbrev cr(ρ:Type):=((List AV->M ρ)->List AV->M ρ)->List AV->M ρ
def Fg(vs:List AV):M (List AV):=fun h=>.ok (vs.map (ka 6 h)) (h.map fun _=>[])
def mw{ρ:Type}(ja:JA)(j:List AV->M ρ)(e:Env):M ρ:=match pack ja e with
 |some vs=>bif ja.fz then ae (Fg vs) j else j vs
 |none=>M.fail
section
variable {ρ:Type}
noncomputable def ev(cx:Cx)(fx:cr ρ):Code->Env->(Env->M ρ)->(Nat->Env->M ρ)->(Env->M ρ)->M ρ
 |.skip,e,kn,_,_=>kn e
 |.region id ops draw,e,kn,_,_=>jk cx id ops draw e kn
 |.seq x y,e,kn,kx,kr=>
  match (match iA x with|some t=>jY cx.ann.joins t|none=>none)with
  |some ja=>jn (fun vs=>ev cx fx y (unpack ja vs) kn kx kr) fun j=>ev cx fx x e (mw ja j) kx kr
  |none=>ev cx fx x e (fun e'=>ev cx fx y e' kn kx kr) kx kr
 |.cond (.tmp t) x y,e,kn,kx,kr=>bif decide (t<1000)then aB (e.av t) (ev cx fx x e kn kx kr) (ev cx fx y e kn kx kr)else M.fail
 |.cond (.const v) x y,e,kn,kx,kr=>aB (cA v) (ev cx fx x e kn kx kr) (ev cx fx y e kn kx kr)
 |.block id (.loop b),e,kn,kx,kr=>
  match jY cx.ann.loops id with
  |none=>M.fail
  |some ja=>mw ja (fx fun self vs=>ev cx fx b (unpack ja vs) (mw ja self) (fun i e'=>bif Nat.beq i id then kn e' else kx i e') kr) e
 |.block id c,e,kn,kx,kr=>ev cx fx c e kn (fun i e'=>bif Nat.beq i id then kn e' else kx i e') kr
 |.exit id,e,_,kx,_=>kx id e
 |.ret,e,_,_,kr=>kr e
 |_,_,_,_,_=>M.fail
end
def qR(T:TT)(e:Env):ResultVar->Option AV
 |.tmp t=>bif decide (t<1000)then(match (e.get t).v with
  |.val a=>some a
  |.loc _ _=>none)else none
 | .cell p t=>bif decide (p<1000)then(match (e.get p).v,T t with
  | .loc B off,some ti=>bif gW e B off ti.size then
    (bif ti.agg then some (.agg (iM e (B+off) ti.size))else bif decide (ti.size=1)then some (e.av (B+off))else none)
   else none
  |.val a,some _=>ak T t a
  |_,_=>none)else none
def dZ(T:TT)(e:Env):List ResultVar->Option (List AV)
 |[]=>some []
 |r:: rs=>match qR T e r,dZ T e rs with
  |some v,some vs=>some (v:: vs)
  |_,_=>none
def hY:List AV->AV
 |[v]=>v
 |vs=>.tup vs
def oV(fn:Func)(e:Env)(sz:Nat):Bool:=match fn.results.toList with
 |[.tmp t]=>decide (t<1000)&&(match (e.get t).g with
  |some g=>(match aA e.al g with|some z=>o9 z (some sz)|none=>false)
  |none=>false)
 |_=>false
def fG(cx:Cx)(fn:Func)(own:Option Nat)(e:Env):M AV:=
 bif (match own with|some sz=>oV fn e sz|none=>true)then ae (ah ((dZ cx.T e fn.results.toList).map hY)) (bif cx.ann.rz then(bif own.isSome then fun _=>M.fail else tj)else M.pure)else M.fail
def py:Nat->List AV->List (Nat×Ent)
 |_,[]=>[]
 |i,a:: as=>(i,⟨.val a,none⟩):: py (i+1) as
def ky(args:List AV):Env:={ sl:=py 0 args,al:=[],nx:=0,lb:=[] }
def iQ(n:Nat)(ks:List (Nat×Kind)):Bool:=ks.all fun x=>!(uF x.2)||decide (x.1<n)
noncomputable def bU(cx:Cx)(fx:cr AV)(fn:Func)(own:Option Nat)(args:List AV):M AV:=
 match fn.body with
 |none=>M.fail
 | some c=>bif decide (args.length<=fn.ntmps)&&decide (fn.ntmps<=1000)&&iQ cx.nt cx.ann.kinds then
   ev cx fx c (ky args) (fG cx fn own) (fun _ _=>M.fail) (fG cx fn own)
  else M.fail
def eG(m:List AV->M AV)(args:List AV):M AV:=fun h=>match m (di az args) []with
 |.ok r h'=>.ok (ka 6 h' r) h
 |.pan v h'=>.pan (ka 6 h' v) h
 |.fail=>.fail
structure Pg where
 T:TT
 funcs:FuncId->Option (Func×Ann)
 own:FuncId->Option Nat
 other:FuncId->Option ((FuncId->List AV->M AV)->List AV->M AV)
 nw:FuncId->Bool:=fun _=>false
def Pg.iso(p:Pg)(f:FuncId):Bool:=match p.other f with
 |some _=>false
 |none=>match p.funcs f with
  |some (_,a)=>a.iso
  |none=>false
def Pg.cx(p:Pg)(call:FuncId->List AV->M AV)(n:Nat)(a:Ann):Cx:={ T:=p.T,call,own:=p.own,iso:=p.iso,nw:=p.nw,nt:=n,ann:=a }
noncomputable def ff(p:Pg)(call:FuncId->List AV->M AV)(fx:cr AV)(f:FuncId)(args:List AV):M AV:=
 match p.other f with
 |some E=>E call args
 |none=>match p.funcs f with
  |none=>M.fail
  |some (fn,a)=>bif a.iso then eG (bU (p.cx call fn.ntmps a) fx fn (p.own f)) args else bU (p.cx call fn.ntmps a) fx fn (p.own f) args
noncomputable def b8(p:Pg):Nat->FuncId->List AV->M AV
 |0,_,_=>M.fail
 |n+1,f,args=>ff p (b8 p n) (bZ n) f args
end Go.Av
namespace Go.Av
def kM{α:Type}(a:R α)(b:Nat->R α):Prop:=(a≠.fail->∃N,∀n,N<=n->b n=a)/\∀n,b n≠.fail->b n=a
def aE{α:Type}(m:M α)(ms:Nat->M α):Prop:=∀h,kM (m h) fun n=>ms n h
def a6{α β:Type}(f:β->M α)(fs:Nat->β->M α):Prop:=∀x,aE (f x) fun n=>fs n x
def kM.const{α:Type}(a:R α):kM a fun _=>a:=⟨fun _=>⟨0,fun _ _=>rfl⟩,fun _ _=>rfl⟩
def aE.const{α:Type}(m:M α):aE m fun _=>m:=fun _=>.const _
def a6.const{α β:Type}(f:β->M α):a6 f fun _=>f:=fun _=>.const _
def aE.bnd{α β:Type}{m:M α}{ms:Nat->M α}{f:α->M β}{fs:Nat->α->M β}(hm:aE m ms)(hf:a6 f fs):aE (ae m f) fun n=>ae (ms n) (fs n):=by
 intro h;obtain⟨h1,h2⟩:=hm h
 (try dsimp only at h1 h2)
 refine⟨fun hne=>?_,fun n hne=>?_⟩
 ·have hne':m h≠.fail:=fun hf=>by simp only[Av.ae]at hne;rw[hf]at hne;exact hne rfl
  obtain⟨N,hN⟩:=h1 hne';cases hmh:m h with
  |fail=>exact absurd hmh hne'
  |pan v x=>
   refine⟨N,fun n hn=>?_⟩
   (try dsimp only)
   simp only[Av.ae];rw[hN n hn,hmh]
  |ok a x=>
   have hne2:f a x≠.fail:=fun hf=>by simp only[Av.ae]at hne;rw[hmh]at hne;exact hne hf
   obtain⟨N2,hN2⟩:=(hf a x).1 hne2;refine⟨max N N2,fun n hn=>?_⟩
   (try dsimp only)
   simp only[Av.ae];rw[hN n (by omega),hmh];exact hN2 n (by omega)
 ·(try dsimp only at hne |-)
  simp only[Av.ae]at hne |-;have hne':ms n h≠.fail:=fun hf=>by rw[hf]at hne;exact hne rfl
  rw[<- h2 n hne'];cases hmh:ms n h with
  |fail=>exact absurd hmh hne'
  |pan v x=>rfl
  |ok a x=>
   rw[hmh]at hne;exact (hf a x).2 n hne
def sX{α:Type}(m m':M α):Prop:=∀h,m h≠.fail->m h=m' h
def aE.le{α:Type}{m:M α}{ms:Nat->M α}(h:aE m ms)(n:Nat):sX (ms n) m:=fun x hne=>(h x).2 n hne
section
variable {ρ:Type}
def cM(F:(List AV->M ρ)->List AV->M ρ)(Fs:Nat->(List AV->M ρ)->List AV->M ρ):Prop:=∀self selfs,a6 self selfs->a6 (F self) fun n=>Fs n (selfs n)
def gX(F:(List AV->M ρ)->List AV->M ρ):Prop:=cM F fun _=>F
def jg(fx:cr ρ)(fxs:Nat->cr ρ):Prop:=∀F Fs,cM F Fs->gX F->(∀n,gX (Fs n))->a6 (fx F) fun n=>fxs n (Fs n)
def pj(fx:cr ρ):Prop:=jg fx fun _=>fx
theorem gX.mono{F:(List AV->M ρ)->List AV->M ρ}(hF:gX F){s s':List AV->M ρ}(h:∀vs,sX (s vs) (s' vs)):∀vs,sX (F s vs) (F s' vs):=by
 intro vs x hne;have hl:a6 s' (fun n=>if n=0 then s else s'):=by
  intro vs x;refine⟨fun _=>⟨1,fun n hn=>?_⟩,fun n hne=>?_⟩
  ·(try dsimp only)
   rw[if_neg (by omega)]
  ·(try dsimp only at hne |-)
   by_cases h0:n=0
   ·rw[FY h0]at hne |-;exact h vs x hne
   ·rw[if_neg h0]
 have h0:=(hF s' _ hl vs x).2 0
 (try dsimp only at h0)
 rw[FY rfl]at h0;exact h0 hne
theorem jm{F:(List AV->M ρ)->List AV->M ρ}(hF:gX F):∀n vs,sX (bZ n F vs) (bZ (n+1) F vs)
 |0,_vs=>fun _x hne=>absurd rfl hne
 |n+1,vs=>hF.mono (jm hF n) vs
theorem sX.trans{α:Type}{a b c:M α}(h:sX a b)(g:sX b c):sX a c:=fun x hne=>by
 have:=h x hne
 rw[this];exact g x (this▸hne)
theorem sX.refl{α:Type}(a:M α):sX a a:=fun _ _=>rfl
theorem lA{F:(List AV->M ρ)->List AV->M ρ}(hF:gX F){n m:Nat}(h:n<=m)(vs:List AV):sX (bZ n F vs) (bZ m F vs):=by
 induction m with
 | zero => have:n=0:=by omega
           subst this;exact .refl _
 |succ m ih=>
  by_cases hn:n=m+1
  ·subst hn;exact .refl _
  ·exact (ih (by omega)).trans (jm hF m vs)
open Classical in
noncomputable def ai(F:(List AV->M ρ)->List AV->M ρ)(vs:List AV):M ρ:=fun h=>if hx:∃n,bZ n F vs h≠.fail then bZ (Classical.choose hx) F vs h else .fail
theorem mY{b:Nat->R ρ}(hmono:∀n m,n<=m->b n≠.fail->b n=b m){a:R ρ}(ha:(∃n,b n≠.fail/\a=b n)\/(∀n,b n= .fail)/\a= .fail):kM a b:=by
 rcases ha with⟨n,hn,rfl⟩|⟨hn,rfl⟩
 ·refine⟨fun _=>⟨n,fun m hm=>(hmono n m hm hn).symm⟩,fun m hm=>?_⟩;rcases Nat.le_total n m with h|h
  ·exact (hmono n m h hn).symm
  ·exact hmono m n h hm
 ·exact⟨fun h=>absurd rfl h,fun n h=>absurd (hn n) h⟩
theorem eq{F:(List AV->M ρ)->List AV->M ρ}(hF:gX F):a6 (ai F) fun n=>bZ n F:=by
 intro vs h;refine mY (fun n m hnm hne=>lA hF hnm vs h hne) ?_;unfold ai;by_cases hx:∃n,bZ n F vs h≠.fail
 ·left;simp only[dif_pos hx];exact⟨_,HR hx,rfl⟩
 ·right;simp only[dif_neg hx];exact⟨fun n=>Ic fun h=>hx ⟨n,h⟩,trivial⟩
theorem iJ{F:(List AV->M ρ)->List AV->M ρ}{Fs:Nat->(List AV->M ρ)->List AV->M ρ}(h1:cM F Fs)(n:Nat):∀k vs,sX (bZ k (Fs n) vs) (bZ k F vs)
 |0,vs=>.refl _
 | k+1,vs=>by
  have ih:=iJ h1 n k;have hl:a6 (bZ k F) fun m=>if m=n then bZ k (Fs n)else bZ k F:=by
   intro vs h;refine⟨fun _=>⟨n+1,fun m hm=>by(try dsimp only);rw[if_neg (by omega)]⟩,fun m hne=>?_⟩
   (try dsimp only at hne |-)
   by_cases hm:m=n
   ·rw[FY hm]at hne |-;exact ih vs h hne
   ·rw[if_neg hm]
  intro x hne
  have:=(h1 _ _ hl vs x).2 n
  (try dsimp only at this)
  rw[FY rfl]at this;exact this hne
theorem gu{F:(List AV->M ρ)->List AV->M ρ}{Fs:Nat->(List AV->M ρ)->List AV->M ρ}(h1:cM F Fs):∀k,a6 (bZ k F) fun n=>bZ k (Fs n)
 |0=>fun _ _=>.const _
 |k+1=>h1 _ _ (gu h1 k)
theorem pW:jg (ai (ρ:=ρ)) fun n=>bZ n:=by
 intro F Fs h1 hF hFs vs h;refine⟨fun hne=>?_,fun n hne=>?_⟩
 ·obtain⟨N,hN⟩:=(eq hF vs h).1 hne;have hN':=hN N (FZ _)
  (try dsimp only at hN')
  obtain⟨N2,hN2⟩:=(gu h1 N vs h).1 (by rw[hN'];exact hne);refine⟨max N N2,fun n hn=>?_⟩;have h3:=hN2 n (by omega)
  (try dsimp only at h3 |-)
  rw[<- lA (hFs n) (show N<=n by omega) vs h (by rw[h3,hN'];exact hne),h3,hN']
 ·(try dsimp only at hne |-)
  have h2:=iJ h1 n n vs h hne;rw[h2];exact (eq hF vs h).2 n (by(try dsimp only);rw[<- h2];exact hne)
theorem wH:pj (ai (ρ:=ρ)):=by
 intro F Fs h1 hF hFs vs h;refine⟨fun hne=>?_,fun n hne=>?_⟩
 ·obtain⟨N,hN⟩:=(eq hF vs h).1 hne;have hN':=hN N (FZ _)
  (try dsimp only at hN')
  obtain⟨N2,hN2⟩:=(gu h1 N vs h).1 (by rw[hN'];exact hne);refine⟨N2,fun n hn=>?_⟩;have h3:=hN2 n hn
  (try dsimp only at h3 |-)
  have:=(eq (hFs n) vs h).2 N (by(try dsimp only);rw[h3,hN'];exact hne)
  (try dsimp only at this)
  rw[<- this,h3,hN']
 ·(try dsimp only at hne |-)
  obtain⟨N,hN⟩:=(eq (hFs n) vs h).1 hne;have hN':=hN N (FZ _)
  (try dsimp only at hN')
  have h2:=iJ h1 n N vs h (by rw[hN'];exact hne);rw[<- hN',h2];exact (eq hF vs h).2 N (by(try dsimp only);rw[<- h2,hN'];exact hne)
theorem oG(m:Nat):pj (bZ (α:=ρ) m):=fun _F _Fs h1 _hF _hFs=>gu h1 m
theorem pX(m:Nat):jg (bZ (α:=ρ) (m+1)) fun n=>if n=0 then bZ m else bZ (m+1):=by
 intro F Fs h1 hF hFs vs h;refine⟨fun hne=>?_,fun n hne=>?_⟩
 ·obtain⟨N,hN⟩:=(gu h1 (m+1) vs h).1 hne;refine⟨max N 1,fun n hn=>?_⟩
  (try dsimp only)
  rw[if_neg (by omega)];exact hN n (by omega)
 ·(try dsimp only at hne |-)
  by_cases h0:n=0
  ·rw[FY h0]at hne |-;exact ((iJ h1 n m vs).trans (jm hF m vs)) h hne
  ·rw[if_neg h0]at hne |-;exact iJ h1 n (m+1) vs h hne
end
end Go.Av
namespace Go.Av
def Cx.wc(cx:Cx)(call:FuncId->List AV->M AV):Cx:={ cx with call }
def eR(A:Act1)(As:Nat->Act1):Prop:=
 (∀n,As n=A)\/∃m ms sh,A= .dyn m sh/\(∀n,As n= .dyn (ms n) sh)/\aE m ms
section
variable {ρ:Type} {cx:Cx} {call:FuncId->List AV->M AV} {calls:Nat->FuncId->List AV->M AV}
theorem sq(hc:∀f,a6 (call f) fun n=>calls n f)(e:Env)(gid:Nat)(o:Oper)(c:Call):eR (dM (cx.wc call) e gid o c) fun n=>dM (cx.wc (calls n)) e gid o c:=by
 unfold dM;cases c.callee with
 |invoke r m=>exact .inl fun n=>rfl
 |builtin b=>cases b<;>exact .inl fun n=>rfl
 | value x=>
  have hv:eR (.dyn (b7 call (opnd e x) (c.args.toList.map (opnd e))) .ofV) fun n=>.dyn (b7 (calls n) (opnd e x) (c.args.toList.map (opnd e))) .ofV:=by
   refine .inr ⟨_,_,_,rfl,fun n=>rfl,?_⟩;unfold b7;split
   ·exact hc _ _
   ·exact aE.const _
  cases x with
  | func f=>
   have h0:eR (.dyn (call f (c.args.toList.map (kh (bd cx.ann.hb o.dst) e))) fun v=>match cx.own f with|some sz=>.own v gid (some sz)|none=>.ofV v) fun n=>.dyn (calls n f (c.args.toList.map (kh (bd cx.ann.hb o.dst) e))) fun v=>match cx.own f with|some sz=>.own v gid (some sz)|none=>.ofV v:=
    .inr ⟨_,_,_,rfl,fun n=>rfl,hc _ _⟩
   have key2:∀(b:Bool)(A B:Act1)(As Bs:Nat->Act1),eR A As->eR B Bs->eR (bif b then A else B) fun n=>bif b then As n else Bs n:=by
    intro b A B As Bs hA hB;cases b with
    |true=>exact hA
    |false=>exact hB
   have key:∀b:Bool,eR (bif b then .dyn (ae (call f (c.args.toList.map (opnd e))) tj) .ofV else .bad) fun n=>bif b then .dyn (ae (calls n f (c.args.toList.map (opnd e))) tj) .ofV else .bad:=by
    intro b;cases b with
    |false=>exact .inl fun n=>rfl
    |true=>exact .inr ⟨_,_,_,rfl,fun n=>rfl,(hc _ _).bnd (a6.const _)⟩
   exact key2 (bd cx.ann.fz o.dst) _ _ _ _ (key (!(cx.iso f)&&!(cx.nw f)&&(cx.own f).isNone)) h0
  |tmp t=>exact hv
  |const t=>exact hv
  |global t=>exact hv
theorem tI(hc:∀f,a6 (call f) fun n=>calls n f)(e:Env)(gid:Nat)(o:Oper):eR (dG (cx.wc call) e gid o) fun n=>dG (cx.wc (calls n)) e gid o:=by
 unfold dG;cases o.op<;>first|exact .inl fun n=>rfl|exact sq hc e gid o _
theorem sN{A:Act1}{As:Nat->Act1}(h:eR A As):eR (eI A) fun n=>eI (As n):=by
 rcases h with h|⟨m,ms,sh,rfl,h2,h3⟩
 ·exact .inl fun n=>by(try dsimp only);rw[h]
 ·exact .inr ⟨m,ms,_,rfl,fun n=>by(try dsimp only);rw[h2];rfl,h3⟩
theorem uq{A:Act1}{As:Nat->Act1}(h:eR A As){k:Env->M ρ}{ks:Nat->Env->M ρ}(hk:a6 k ks)(e:Env)(d:Option Tmp):aE (iE e d A k) fun n=>iE e d (As n) (ks n):=by
 rcases h with h|⟨m,ms,sh,rfl,h2,h3⟩
 ·have:(fun n=>iE e d (As n) (ks n))=fun n=>iE e d A (ks n):=by funext n;rw[h]
  rw[this];cases A with
  |bad=>exact aE.const _
  |stat u=>exact hk _
  |dyn m sh=>exact (aE.const m).bnd fun v=>hk _
  |thr v=>exact aE.const _
 ·have:(fun n=>iE e d (As n) (ks n))=fun n=>iE e d (.dyn (ms n) sh) (ks n):=by funext n;rw[h2]
  rw[this];exact h3.bnd fun v=>hk _
theorem jl(hc:∀f,a6 (call f) fun n=>calls n f)(base:Nat)(ops:Array Oper)(st:Bool):∀(is:List Nat)(e:Env)(k:Env->M ρ)(ks:Nat->Env->M ρ),a6 k ks->
  aE (fg (cx.wc call) base ops st is e k) fun n=>fg (cx.wc (calls n)) base ops st is e (ks n)
 |[],e,k,ks,hk=>hk e
 | i:: is,e,k,ks,hk=>by
  simp only[fg];cases ops[i]? with
  |none=>exact aE.const _
  |some o=>
   simp only;refine uq ?_ (fun e'=>jl hc base ops st is e' k ks hk) e o.dst;cases st with
   |true=>exact sN (tI hc e _ o)
   |false=>exact tI hc e _ o
theorem r3{c:AV}{want:Bool}{k:Nat}{m:M (List AV)}{ms:Nat->M (List AV)}(h:aE m ms):aE (au c want k m) fun n=>au c want k (ms n):=by
 unfold au;cases c with
 |bool b=>
  simp only;cases b== want with
  |true=>exact h
  |false=>exact aE.const _
 |tup vs=>cases vs<;>exact aE.const _
 |_=>exact aE.const _
theorem fK(hc:∀f,a6 (call f) fun n=>calls n f)(base:Nat)(ops:Array Oper):∀(gs:List (Option (Nat×Bool)×List Nat))(e:Env)(k:Env->M ρ)(ks:Nat->Env->M ρ),a6 k ks->
  aE (cI (cx.wc call) base ops gs e k) fun n=>cI (cx.wc (calls n)) base ops gs e (ks n)
 |[],e,k,ks,hk=>hk e
 |(none,is):: gs,e,k,ks,hk=>by
  simp only[cI];exact jl hc base ops false is e _ _ fun e'=>fK hc base ops gs e' k ks hk
 | (some (j,want),is):: gs,e,k,ks,hk=>by
  simp only[cI];cases cf ops j with
  |none=>exact aE.const _
  | some t=>
   simp only;have hp:∀c,(is.all fun i=>match ops[i]? with|some o=>df (cx.wc c) o&&o.dst.isSome|none=>false)=(is.all fun i=>match ops[i]? with|some o=>df cx o&&o.dst.isSome|none=>false):=fun c=>rfl;have key:∀b:Bool,aE (bif b then ae (au (e.av t) want (b5 ops is gs).length (fg (cx.wc call) base ops true is e fun e'=>bif (b5 ops is gs).all (fun t=>iq (e'.get t))then M.pure ((b5 ops is gs).map e'.av)else M.fail)) fun vs=>
     cI (cx.wc call) base ops gs (dO (forget e (bO ops is)) vs 0 (b5 ops is gs)) k else M.fail) fun n=>(bif b then ae (au (e.av t) want (b5 ops is gs).length (fg (cx.wc (calls n)) base ops true is e fun e'=>bif (b5 ops is gs).all (fun t=>iq (e'.get t))then M.pure ((b5 ops is gs).map e'.av)else M.fail)) fun vs=>
     cI (cx.wc (calls n)) base ops gs (dO (forget e (bO ops is)) vs 0 (b5 ops is gs)) (ks n)else M.fail):=by
    intro b;cases b with
    |false=>exact aE.const _
    |true=>exact (r3 (jl hc base ops true is e _ _ (a6.const _))).bnd fun vs=>fK hc base ops gs _ k ks hk
   exact key _
theorem uO{α:Type}{m:M α}{ms:Nat->M α}(h:aE m ms):aE (cG m) fun n=>cG (ms n):=by
 intro x;obtain⟨h1,h2⟩:=h x;refine⟨fun hne=>?_,fun n hne=>?_⟩
 ·have hne':m x≠.fail:=fun hf=>hne (by simp only[cG,hf]);obtain⟨N,hN⟩:=h1 hne';exact⟨N,fun n hn=>by have:=hN n hn;(try dsimp only at this |-);simp only[cG,this]⟩
 ·(try dsimp only at hne |-)
  have hne':ms n x≠.fail:=fun hf=>hne (by simp only[cG,hf])
  have:=h2 n hne'
  (try dsimp only at this)
  simp only[cG,this]
theorem rK(hc:∀f,a6 (call f) fun n=>calls n f):∀f,a6 ((dk (cx.wc call)).call f) fun n=>(dk (cx.wc (calls n))).call f:=by
 intro f args;show aE (bif cx.iso f then cG (call f args)else call f args) fun n=>(bif cx.iso f then cG (calls n f args)else calls n f args);cases cx.iso f with
 |true=>exact uO (hc f args)
 |false=>exact hc f args
theorem wV(c:FuncId->List AV->M AV)(ops:Array Oper)(i j:Nat):iN (cx.wc c) ops i j=iN cx ops i j:=rfl
theorem l9(c:FuncId->List AV->M AV)(ops:Array Oper)(bf:List Nat):∀l,fS (cx.wc c) ops bf l=fS cx ops bf l
 |[]=>rfl
 |i:: is=>by simp only[fS,l9 c ops bf is,wV]
theorem um(c:FuncId->List AV->M AV)(ops:Array Oper)(ord:List Nat):ij (cx.wc c) ops ord=ij cx ops ord:=by
 unfold ij;rw[l9]
theorem ut(hc:∀f,a6 (call f) fun n=>calls n f)(id:Nat)(ops:Array Oper)(draw:Bool)(e:Env){k:Env->M ρ}{ks:Nat->Env->M ρ}(hk:a6 k ks):
  aE (jU (cx.wc call) id ops draw e k) fun n=>jU (cx.wc (calls n)) id ops draw e (ks n):=by
 unfold jU;simp only[um];have hk':a6 (fun e':Env=>k { e' with nx:=e.nx+ops.size }) fun n e'=>ks n { e' with nx:=e.nx+ops.size }:=fun e'=>hk _;have key:∀b1 b2:Bool,aE (bif b1 then(bif draw then(bif b2 then cI (dk (cx.wc call)) e.nx ops (ck ops (nN cx id ops.size)) e fun e'=>k { e' with nx:=e.nx+ops.size }else M.fail)
   else cI (cx.wc call) e.nx ops (ck ops (List.range ops.size)) e fun e'=>k { e' with nx:=e.nx+ops.size })else M.fail) fun n=>(bif b1 then(bif draw then(bif b2 then cI (dk (cx.wc (calls n))) e.nx ops (ck ops (nN cx id ops.size)) e fun e'=>ks n { e' with nx:=e.nx+ops.size }else M.fail)
   else cI (cx.wc (calls n)) e.nx ops (ck ops (List.range ops.size)) e fun e'=>ks n { e' with nx:=e.nx+ops.size })else M.fail):=by
  intro b1 b2;cases b1 with
  |false=>exact aE.const _
  | true=>
   cases draw with
   |false=>exact fK hc _ _ _ _ _ _ hk'
   |true=>
    cases b2 with
    |false=>exact aE.const _
    |true=>exact fK (cx:=cx) (call:=(dk (cx.wc call)).call) (calls:=fun n=>(dk (cx.wc (calls n))).call) (rK hc) _ _ _ _ _ _ hk'
 exact key (fA cx.nt ops) (ij cx ops (nN cx id ops.size))
theorem rT(hc:∀f,a6 (call f) fun n=>calls n f)(id:Nat)(ops:Array Oper)(draw:Bool)(e:Env){k:Env->M ρ}{ks:Nat->Env->M ρ}(hk:a6 k ks):
  aE (jk (cx.wc call) id ops draw e k) fun n=>jk (cx.wc (calls n)) id ops draw e (ks n):=ut hc id ops draw e hk
theorem jf{ja:JA}{j:List AV->M ρ}{js:Nat->List AV->M ρ}(h:a6 j js)(e:Env):aE (mw ja j e) fun n=>mw ja (js n) e:=by
 unfold mw;cases pack ja e with
 |none=>exact aE.const _
 |some vs=>
  simp only;cases ja.fz with
  |true=>simp only[FW];exact (aE.const (Fg vs)).bnd h
  |false=>exact h vs
theorem Bh:∀(n:Nat)(code:Code),SizeOf.sizeOf code<n->∀(call:FuncId->List AV->M AV)(calls:Nat->FuncId->List AV->M AV)(fx:cr ρ)(fxs:Nat->cr ρ),(∀f,a6 (call f) fun n=>calls n f)->jg fx fxs->pj fx->(∀n,pj (fxs n))->
  ∀(e:Env)(kn:Env->M ρ)(kns:Nat->Env->M ρ)(kx:Nat->Env->M ρ)(kxs:Nat->Nat->Env->M ρ)(kr:Env->M ρ)(krs:Nat->Env->M ρ),a6 kn kns->(∀i,a6 (kx i) fun n=>kxs n i)->a6 kr krs->
  aE (ev (cx.wc call) fx code e kn kx kr) fun n=>ev (cx.wc (calls n)) (fxs n) code e (kns n) (kxs n) (krs n):=by
 intro n
 induction n with
 |zero=>intro code hn;omega
 | succ n ih=>
  intro code hn call calls fx fxs hc hfx hfc hfcs e kn kns kx kxs kr krs hkn hkx hkr;cases code<;>(try exact aE.const _)
  case skip=>exact hkn e
  case exit id=>exact hkx id e
  case ret=>exact hkr e
  case region id ops draw=>exact rT hc id ops draw e hkn
  case seq x y=>
   have hx:SizeOf.sizeOf x<n:=by simp at hn;omega
   have hy:SizeOf.sizeOf y<n:=by simp at hn;omega
   simp only[ev];have hya:∀e,aE (ev (cx.wc call) fx y e kn kx kr) fun n=>ev (cx.wc (calls n)) (fxs n) y e (kns n) (kxs n) (krs n):=fun e=>ih y hy call calls fx fxs hc hfx hfc hfcs e kn kns kx kxs kr krs hkn hkx hkr;have key:∀oj:Option JA,aE (match oj with|some ja=>jn (fun vs=>ev (cx.wc call) fx y (unpack ja vs) kn kx kr) fun j=>ev (cx.wc call) fx x e (mw ja j) kx kr|none=>ev (cx.wc call) fx x e (fun e'=>ev (cx.wc call) fx y e' kn kx kr) kx kr)
     fun n=>(match oj with|some ja=>jn (fun vs=>ev (cx.wc (calls n)) (fxs n) y (unpack ja vs) (kns n) (kxs n) (krs n)) fun j=>ev (cx.wc (calls n)) (fxs n) x e (mw ja j) (kxs n) (krs n)|none=>ev (cx.wc (calls n)) (fxs n) x e (fun e'=>ev (cx.wc (calls n)) (fxs n) y e' (kns n) (kxs n) (krs n)) (kxs n) (krs n)):=by
    intro oj;cases oj with
    |none=>exact ih x hx call calls fx fxs hc hfx hfc hfcs e _ (fun n e'=>ev (cx.wc (calls n)) (fxs n) y e' (kns n) (kxs n) (krs n)) kx kxs kr krs hya hkx hkr
    |some ja=>exact ih x hx call calls fx fxs hc hfx hfc hfcs e _ (fun n=>mw ja fun vs=>ev (cx.wc (calls n)) (fxs n) y (unpack ja vs) (kns n) (kxs n) (krs n)) kx kxs kr krs (fun e'=>jf (fun vs=>hya _) e') hkx hkr
   have h:=key (match iA x with|some t=>jY cx.ann.joins t|none=>none);exact h
  case cond o x y=>
   have hx:SizeOf.sizeOf x<n:=by simp at hn;omega
   have hy:SizeOf.sizeOf y<n:=by simp at hn;omega
   cases o<;>(try exact aE.const _)
   case const v=>
    simp only[ev];cases cA v with
    |bool b=>
     cases b with
     |true=>exact ih x hx call calls fx fxs hc hfx hfc hfcs e kn kns kx kxs kr krs hkn hkx hkr
     |false=>exact ih y hy call calls fx fxs hc hfx hfc hfcs e kn kns kx kxs kr krs hkn hkx hkr
    |_=>exact aE.const _
   rename_i t;simp only[ev];cases decide (t<1000)with
   |false=>exact aE.const _
   | true=>
    simp only[FW];cases e.av t with
    |bool b=>
     cases b with
     |true=>exact ih x hx call calls fx fxs hc hfx hfc hfcs e kn kns kx kxs kr krs hkn hkx hkr
     |false=>exact ih y hy call calls fx fxs hc hfx hfc hfcs e kn kns kx kxs kr krs hkn hkx hkr
    |_=>exact aE.const _
  case block id code=>
   have hbx:∀(kx:Nat->Env->M ρ)(kxs:Nat->Nat->Env->M ρ)(kn:Env->M ρ)(kns:Nat->Env->M ρ),(∀i,a6 (kx i) fun n=>kxs n i)->a6 kn kns->∀i,a6 (fun e'=>bif Nat.beq i id then kn e' else kx i e') fun n e'=>bif Nat.beq i id then kns n e' else kxs n i e':=by
    intro kx kxs kn kns hkx hkn i e'
    (try dsimp only)
    cases Nat.beq i id with
    |true=>exact hkn e'
    |false=>exact hkx i e'
   by_cases hcl:∃b,code= .loop b
   ·obtain⟨b,rfl⟩:=hcl;have hb:SizeOf.sizeOf b<n:=by simp at hn;omega
    have key:∀oj:Option JA,aE (match oj with|none=>M.fail|some ja=>mw ja (fx fun self vs=>ev (cx.wc call) fx b (unpack ja vs) (mw ja self) (fun i e'=>bif Nat.beq i id then kn e' else kx i e') kr) e)
      fun n=>(match oj with|none=>M.fail|some ja=>mw ja (fxs n fun self vs=>ev (cx.wc (calls n)) (fxs n) b (unpack ja vs) (mw ja self) (fun i e'=>bif Nat.beq i id then kns n e' else kxs n i e') (krs n)) e):=by
     intro oj;cases oj with
     |none=>exact aE.const _
     | some ja=>
      refine jf (hfx _ (fun n self vs=>ev (cx.wc (calls n)) (fxs n) b (unpack ja vs) (mw ja self) (fun i e'=>bif Nat.beq i id then kns n e' else kxs n i e') (krs n)) ?_ ?_ ?_) e
      ·intro self selfs hs vs;exact ih b hb call calls fx fxs hc hfx hfc hfcs (unpack ja vs) _ (fun n=>mw ja (selfs n)) _ (fun n i e'=>bif Nat.beq i id then kns n e' else kxs n i e') kr krs (fun e'=>jf hs e') (hbx kx kxs kn kns hkx hkn) hkr
      ·intro self selfs hs vs;exact ih b hb call (fun _=>call) fx (fun _=>fx) (fun f=>a6.const _) hfc hfc (fun _=>hfc) (unpack ja vs) _ (fun n=>mw ja (selfs n)) _ (fun n i e'=>bif Nat.beq i id then kn e' else kx i e') kr (fun _=>kr) (fun e'=>jf hs e') (fun i=>a6.const _) (a6.const _)
      ·intro m self selfs hs vs;exact ih b hb (calls m) (fun _=>calls m) (fxs m) (fun _=>fxs m) (fun f=>a6.const _) (hfcs m) (hfcs m) (fun _=>hfcs m) (unpack ja vs) _ (fun n=>mw ja (selfs n)) _ (fun n i e'=>bif Nat.beq i id then kns m e' else kxs m i e') (krs m) (fun _=>krs m) (fun e'=>jf hs e') (fun i=>a6.const _) (a6.const _)
    exact key (jY cx.ann.loops id)
   ·have hs:SizeOf.sizeOf code<n:=by simp at hn;omega
    have hev:∀(cx:Cx)(fx:cr ρ)(kn:Env->M ρ)(kx:Nat->Env->M ρ)(kr:Env->M ρ),ev cx fx (.block id code) e kn kx kr=ev cx fx code e kn (fun i e'=>bif Nat.beq i id then kn e' else kx i e') kr:=by
     intro cx fx kn kx kr;cases code<;>first|rfl|exact absurd ⟨_,rfl⟩ hcl
    rw[hev];have:(fun n=>ev (cx.wc (calls n)) (fxs n) (.block id code) e (kns n) (kxs n) (krs n))=fun n=>ev (cx.wc (calls n)) (fxs n) code e (kns n) (fun i e'=>bif Nat.beq i id then kns n e' else kxs n i e') (krs n):=by
     funext n;exact hev _ _ _ _ _
    rw[this];exact ih code hs call calls fx fxs hc hfx hfc hfcs e kn kns _ (fun n i e'=>bif Nat.beq i id then kns n e' else kxs n i e') kr krs hkn (hbx kx kxs kn kns hkx hkn) hkr
end
end Go.Av
namespace Go.Av
def kindOf:TypeDesc->TK
 |.bool=>.bool
 |.int k=>.int k
 |.string=>.str
 |.slice e=>.slice e
 |.struct _=>.struct
 |.array n e=>.array n e
 |.interface _=>.iface
 |.pointer _=>.ptr
 |.func _ _ _=>.func
 |.map k e=>.map k e
 |_=>.other
def mQ:TypeDesc->Bool
 |.struct _=>true
 |.array _ _=>true
 |_=>false
def iv:TypeDesc->List (Nat×Nat×Bool)
 |.struct fs=>fs.toList.map fun f=>(f.offset,f.type,decide (f.name≠ "_"))
 |_=>[]
def vA:Value->Bool
 |.agg _=>true
 |_=>false
def oC(P:Program)(t:TypeId):TypeDesc->Bool
 |.struct _=>!(P.stoodInHeld t)&&!(P.eqGuardType P.depth t)
 |_=>false
def BQ(P:Program)(t:TypeId):Option TI:=
 match P.info? t,P.underlying t with
 | some i,some d=>match i.zero with
  | some z=>bif Nat.beq z.cells.size i.size&&(vA z== mQ d)then
    some { agg:=mQ d,size:=i.size,bytes:=i.bytes,kind:=kindOf d,offs:=iv d,zero:=z.cells.toList.map s5,eqok:=oC P t d }
   else none
  |none=>none
 |_,_=>none
structure TOK (P:Program) (T:TT):Prop where
 ok:∀t ti,T t=some ti->BQ P t=some ti
 mix:P.follows .mixedOrders=true
structure TIok (P:Program) (t:TypeId) (ti:TI):Prop where
 ex:∃i d z,P.info? t=some i/\P.underlying t=some d/\i.zero=some z/\z.cells.size=i.size/\i.size=ti.size/\i.bytes=ti.bytes/\
  kindOf d=ti.kind/\mQ d=ti.agg/\iv d=ti.offs/\z.cells.toList.map s5=ti.zero/\oC P t d=ti.eqok/\
  (ti.agg=true->∃cs,z= .agg cs)/\(ti.agg=false->∀cs,z≠.agg cs)
def TOK.get{P:Program}{T:TT}(h:TOK P T){t:TypeId}{ti:TI}(ht:T t=some ti):TIok P t ti:=by
 have:=h.ok t ti ht
 unfold BQ at this;split at this
 ·rename_i i d hi hd;split at this
  ·rename_i z hz;cases hb:(Nat.beq z.cells.size i.size&&(vA z== mQ d))with
   |false=>rw[hb]at this;simp at this
   | true=>
    rw[hb]at this;simp only[FW,FU]at this;subst this;rw[FV]at hb;obtain⟨h1,h2⟩:=hb;have h2:vA z=mQ d:=by simpa using h2
    refine⟨i,d,z,hi,hd,hz,F6 h1,rfl,rfl,rfl,rfl,rfl,rfl,rfl,fun hx=>?_,fun hx cs hz'=>?_⟩
    ·simp only[<- h2]at hx;cases z<;>simp_all[vA]
    ·subst hz';simp only[<- h2]at hx;simp[vA]at hx
  ·simp at this
 ·simp at this
def oo(S:am)(β:List a7)(v:Value):VR S β (s5 v) v:=by
 unfold s5;split<;>simp only[VR,bi,GM]
 case h_3=>exact⟨_,rfl,rfl⟩
 case h_5=>exact⟨none,0,rfl,FZ _,fun _=>rfl,fun q h=>by cases h⟩
def oq(S:am)(β:List a7)(vs:List Value):aP S β (vs.map s5) vs:=by
 induction vs with
 |nil=>simp[aP]
 |cons v vs ih=>simp only[GL,aP];exact⟨v,vs,rfl,oo S β v,ih⟩
def Cu(S:am)(β:List a7)(v:Value):VR S β (cA v) v:=by
 unfold cA;split
 ·rename_i cs;simp only[VR];exact⟨cs.toList,by simp,oq S β _⟩
 ·rename_i vs;cases h:vs.isEmpty with
  |false=>simp[VR]
  |true=>
   simp only[FW,VR];refine⟨[],?_,by simp[aP]⟩;simp at h;simp[h]
 ·exact oo S β v
def mC(P:Program)(w:World)(S:am)(β:List a7)(m:Sem Value)(r:AV):Prop:=∃v,m.run P w= .ok v w/\VR S β r v
section
variable {P:Program} {T:TT} {w:World} {S:am} {β:List a7}
theorem run_sizeOf{t:TypeId}{i:TypeInfo}(h:P.info? t=some i):(sizeOf t).run P w= .ok i.size w:=by
 simp[sizeOf,typeInfo,h]
theorem d8{t:TypeId}{d:TypeDesc}(h:P.underlying t=some d):(isAgg t).run P w= .ok (mQ d) w:=by
 simp only[isAgg,Sem.run_bind,run_underlying h,Result.andThen_ok];cases d<;>rfl
theorem VR.int_inv{k:IntKind}{n:Int}{v:Value}(h:VR S β (.int k n) v):v= .int k n:=by simpa [VR]using h
theorem y5{c a b r:AV}{vc va vb:Value}(h:aO c a b=some r)(hc:VR S β c vc)(ha:VR S β a va)(hb:VR S β b vb):
  ∃v,(do pure (if <- asBool vc then va else vb):Sem Value).run P w= .ok v w/\VR S β r v:=by
 unfold aO at h;split at h
 ·simp at h;subst h;simp only[VR]at hc;subst hc;exact⟨va,by simp[asBool],ha⟩
 ·simp at h;subst h;simp only[VR]at hc;subst hc;exact⟨vb,by simp[asBool],hb⟩
 ·simp at h
theorem i6(hT:TOK P T){t:TypeId}{ti:TI}(ht:T t=some ti){cs:List AV}{vs:List Value}(h:aP S β cs vs){off:Nat}{r:AV}(hr:kj ti cs off=some r):mC P w S β (part t vs.toArray off) r:=by
 obtain⟨i,d,z,hi,hd,_,_,hsz,_,_,hag,_⟩:=(hT.get ht).ex;unfold kj at hr;cases ha:ti.agg with
 | true=>
  rw[ha]at hr;simp only[FW,FU]at hr;subst hr;refine⟨.agg (vs.toArray.extract off (off+ti.size)),?_,?_⟩
  ·simp[part,d8 hd,hag,ha,run_sizeOf hi,hsz]
  ·simp only[VR];refine⟨(vs.drop off).take ti.size,?_,(h.drop off).take _⟩;simp[Ie,Nat.add_sub_cancel_left]
 |false=>
  rw[ha]at hr;simp only[F0]at hr;obtain⟨v,hv,hR⟩:=h.get hr;refine⟨v,?_,hR⟩;simp only[part,Sem.run_bind,d8 hd,Result.andThen_ok,hag,ha];simp[hv]
theorem mo:∀a b:List UInt8,Op.bytesLess a b=aV a b
 |a,[]=>by cases a<;>simp[Op.bytesLess,aV]
 |[],_:: _=>rfl
 |a:: x,b:: y=>by simp[Op.bytesLess,aV,mo x y]
theorem pI{a b:ByteArray}:(a.data.toList=b.data.toList)↔a=b:=by
 constructor
 ·intro h;cases a;cases b;simp at h;simp[h]
 ·rintro rfl;rfl
mutual
theorem lr(hT:TOK P T):(d:Nat)->(D:Nat)->d<=D->(t:TypeId)->(x y:AV)->(vx vy:Value)->(b:Bool)->wz T d t x y=some b->VR S β x vx->VR S β y vy->
  (Op.equalIn D t vx vy).run P w= .ok b w
 |0,_,_,t,x,y,vx,vy,b,h,_,_=>by simp[wz]at h
 |d+1,0,hD,_,_,_,_,_,_,_,_,_=>by omega
 | d + 1,D+1,hD,t,x,y,vx,vy,b,h,hx,hy=>by
  unfold wz at h;cases ht:T t with
  |none=>rw[ht]at h;simp at h
  | some ti=>
   rw[ht]at h;obtain⟨i,dd,z,hi,hd,_,_,hsz,_,hk,hag,hof,_,heq,_⟩:=(hT.get ht).ex;simp only at h;unfold Op.equalIn;simp only[Sem.run_bind,run_underlying hd,Result.andThen_ok];split at h
   case h_1=>simp at h;simp only[VR]at hx hy;subst hx hy h;cases dd<;>simp_all[kindOf]
   case h_2=>
    simp only[VR]at hx hy;subst hx hy;split at h
    ·rename_i hkk;simp at h;subst h;cases dd<;>simp_all[kindOf]
    ·simp at h
   case h_3=>
    simp only[VR]at hx hy;obtain⟨x,rfl,hx⟩:=hx;obtain⟨y,rfl,hy⟩:=hy;simp at h;subst h;have hdd:dd= .string:=by cases dd<;>simp_all[kindOf]
    subst hdd;simp only[Sem.run_pure,beq_toListBytes,ByteArray.toList_eq,hx,hy]
   case h_4=>simp at h;simp only[VR]at hx hy;subst hx hy h;cases dd<;>simp_all[kindOf]
   case h_5=>simp at h;simp only[VR]at hx hy;obtain⟨_,_,_,rfl,_⟩:=hy;subst hx h;cases dd<;>simp_all[kindOf]
   case h_6=>simp at h;simp only[VR]at hx hy;obtain⟨_,_,_,rfl,_⟩:=hx;subst hy h;cases dd<;>simp_all[kindOf]
   case h_7=>simp at h;simp only[VR]at hx hy;obtain⟨_,_,_,rfl⟩:=hy;subst hx h;cases dd<;>simp_all[kindOf]
   case h_8=>simp at h;simp only[VR]at hx hy;obtain⟨_,_,_,rfl⟩:=hx;subst hy h;cases dd<;>simp_all[kindOf]
   case h_9=>simp at h;simp only[VR]at hx hy;obtain⟨_,rfl,_⟩:=hy;subst hx h;cases dd<;>simp_all[kindOf]
   case h_10=>simp at h;simp only[VR]at hx hy;obtain⟨_,rfl,_⟩:=hx;subst hy h;cases dd<;>simp_all[kindOf]
   case h_11 xs ys hkind=>
    cases hok:ti.eqok with
    |false=>rw[hok]at h;simp at h
    | true=>
     rw[hok]at h;simp only[FW]at h;simp only[VR]at hx hy;obtain⟨vx,rfl,hx⟩:=hx;obtain⟨vy,rfl,hy⟩:=hy;cases dd<;>simp only[kindOf,hkind,reduceCtorEq]at hk;rename_i fs;have hst:P.stoodInHeld t=false:=by
      rw[hok]at heq;simp[oC]at heq;exact heq.1
     have hfs:P.fieldsOf t=fs:=by simp[Program.fieldsOf,hd]
     have:=run_equalIn_struct (P:=P) w D t vx.toArray vy.toArray (by rw[hfs];exact hd) hst
     unfold Op.equalIn at this;simp only[Sem.run_bind,run_underlying hd,Result.andThen_ok]at this;rw[<- hof]at h;have h2:=oB hT d D (by omega) fs.toList xs ys vx vy b h hx hy;rw[hfs]at this;exact this.trans h2
   case h_12=>simp at h;simp only[VR]at hx hy;subst hx hy h;cases dd<;>simp_all[kindOf]
   case h_13=>simp at h;simp only[VR]at hx hy;obtain⟨a,cap,rfl,h1,h2,_⟩:=hx;subst hy h;cases a<;>cases dd<;>simp_all[kindOf]
   case h_14=>simp at h;obtain⟨_,_,rfl,_⟩:=hx.hs_some;simp only[VR]at hy;subst hy h;cases dd<;>simp_all[kindOf]
   case h_15=>simp at h;simp only[VR]at hx hy;subst hx hy h;cases dd<;>simp_all[kindOf]
   case h_16=>simp at h
theorem oB(hT:TOK P T):(d:Nat)->(D:Nat)->d<=D->(fs:List Field)->(xs ys:List AV)->(vx vy:List Value)->(b:Bool)->
  rQ T d (fs.map fun f=>(f.offset,f.type,decide (f.name≠ "_"))) xs ys=some b->aP S β xs vx->aP S β ys vy->
  (Op.eqFields D vx.toArray vy.toArray fs).run P w= .ok b w
 |d,D,hD,[],xs,ys,vx,vy,b,h,_,_=>by
  simp[rQ]at h;subst h;simp[Op.eqFields]
 |0,D,hD,f:: fs,xs,ys,vx,vy,b,h,_,_=>by simp[rQ]at h
 | d + 1,D,hD,f:: fs,xs,ys,vx,vy,b,h,hx,hy=>by
  simp only[GL,rQ]at h;unfold Op.eqFields
  by_cases hn:f.name= "_"
  ·simp only[hn,H1,not_true,decide_false,F0]at h;simp only[hn,H1,not_true,Gl];exact oB hT d D (by omega) fs xs ys vx vy b h hx hy
  ·simp only[H1,hn,not_false_eq_true,decide_true,FW]at h;simp only[H1,hn,not_false_eq_true,Gm];cases ht:T f.type with
   |none=>rw[ht]at h;simp at h
   | some ti=>
    rw[ht]at h;simp only at h;split at h
    ·rename_i a c ha hc;obtain⟨va,hva,hra⟩:=i6 (w:=w) (S:=S) (β:=β) hT ht hx ha;obtain⟨vc,hvc,hrc⟩:=i6 (w:=w) (S:=S) (β:=β) hT ht hy hc;simp only[Sem.run_bind,hva,hvc,Result.andThen_ok];split at h
     ·rename_i he;rw[lr hT d D (by omega) f.type a c va vc true he hra hrc];simp only[Result.andThen_ok,GA,F7,Gl];exact oB hT d D (by omega) fs xs ys vx vy b h hx hy
     ·rename_i he;rw[lr hT d D (by omega) f.type a c va vc false he hra hrc];simp at h;subst h;simp
     ·simp at h
    ·simp at h
end
theorem AZ(hT:TOK P T){op:BinOp}{t:TypeId}{x y r:AV}{vx vy:Value}(ox oy:Operand)(hlit:lG T op t ox oy=false)(h:ao T op t x y=some r)(hx:VR S β x vx)(hy:VR S β y vy):
  mC P w S β (do eqGuard op t ox oy vx vy;binOp op t vx vy) r:=by
 unfold ao at h;split at h
 ·rename_i k a k' c
  have:=hx.int_inv;subst this
  have:=hy.int_inv;subst this
  have hg:(eqGuard op t ox oy (.int k a) (.int k' c)).run P w= .ok () w:=by cases op<;>simp[eqGuard]
  unfold mC;simp only[Sem.run_bind,hg,Result.andThen_ok];cases hs:oL op with
  | true=>
   rw[hs]at h;simp only[FW,Fo]at h;split at h
   ·simp at h
   ·rename_i hc;split at h
    ·simp at h;subst h;exact⟨_,by simp[binOp,Op.shift,hc];rfl,by simp[VR]⟩
    ·simp at h;subst h;exact⟨_,by simp[binOp,Op.shift,hc];rfl,by simp[VR]⟩
    ·simp at h
  | false=>
   rw[hs]at h;simp only[F0]at h;split at h
   ·rename_i hk;subst hk;unfold Di at h;cases op<;>simp only[oL,Bool.true_eq_false]at hs h <;>
     first
     |(simp only[FU]at h;subst h;exact⟨_,by simp[binOp,Op.intArith,Op.intBits,Op.intCmp];rfl,by simp[VR]⟩)
     | (split at h
        ·simp at h
        ·rename_i hc;simp only[FU]at h;subst h;exact⟨_,by simp[binOp,Op.intDiv,hc];rfl,by simp[VR]⟩)
   ·simp at h
 ·rename_i a c;simp only[VR]at hx hy;obtain⟨x,rfl,hx⟩:=hx;obtain⟨y,rfl,hy⟩:=hy;have hg:(eqGuard op t ox oy (.string x) (.string y)).run P w= .ok () w:=by cases op<;>simp[eqGuard]
  unfold mC;simp only[Sem.run_bind,hg,Result.andThen_ok];have hxs:x.size=a.length:=by rw[<- hx,GD];rfl
  have hys:y.size=c.length:=by rw[<- hy,GD];rfl
  unfold DN at h;cases op<;>simp only[reduceCtorEq]at h
  case add=>
   split at h
   ·rename_i hle;simp only[FU]at h;subst h;refine⟨.string (x++y),?_,?_⟩
    ·have hm:IntKind.max .i64=9223372036854775807:=by decide
     have:¬(((x.size+y.size:Nat):Int)>IntKind.max .i64):=by rw[hxs,hys,hm];omega
     simp only[binOp,Op.stringOp,this,Gl,Sem.run_pure]
    ·simp only[VR];exact⟨x++y,rfl,by simp[hx,hy]⟩
   ·simp at h
  all_goals
   simp only[FU]at h;subst h;refine⟨_,by simp only[binOp,Op.stringOp,Sem.run_pure];rfl,?_⟩;simp only[VR,ByteArray.toList_eq,hx,hy,mo]
 ·rename_i hn1 hn2
  have key:∀b,wz T 20 t x y=some b->∀o,(o= .eql\/o= .neq)->lG T o t ox oy=false->(eqGuard o t ox oy vx vy).run P w= .ok () w/\(binOp .eql t vx vy).run P w= .ok (.bool b) w/\(binOp .neq t vx vy).run P w= .ok (.bool !b) w:=by
   intro b hb;have he:=lr (w:=w) (S:=S) (β:=β) hT 20 Op.maxDepth (by decide) t x y vx vy b hb hx hy;have hb0:=hb;unfold wz at hb;cases ht:T t with
   |none=>rw[ht]at hb;simp at hb
   | some ti=>
    rw[ht]at hb;simp only at hb;split at hb
    case h_1=>simp only[VR]at hx hy;subst hx hy;rintro o (rfl|rfl) _<;>simp[eqGuard,binOp,Op.equal,he]
    case h_2=>exact absurd rfl (hn1 _ _ _ _ rfl)
    case h_3=>exact absurd rfl (hn2 _ _ rfl)
    case h_4=>simp only[VR]at hx hy;subst hx hy;rintro o (rfl|rfl) _<;>simp[eqGuard,binOp,Op.equal,he]
    case h_5=>simp only[VR]at hx hy;obtain⟨_,_,_,rfl,_⟩:=hy;subst hx;rintro o (rfl|rfl) _<;>simp[eqGuard,binOp,Op.equal,he]
    case h_6=>simp only[VR]at hx hy;obtain⟨_,_,_,rfl,_⟩:=hx;subst hy;rintro o (rfl|rfl) _<;>simp[eqGuard,binOp,Op.equal,he]
    case h_7=>simp only[VR]at hx hy;obtain⟨_,_,_,rfl⟩:=hy;subst hx;rintro o (rfl|rfl) _<;>simp[eqGuard,binOp,Op.equal,he]
    case h_8=>simp only[VR]at hx hy;obtain⟨_,_,_,rfl⟩:=hx;subst hy;rintro o (rfl|rfl) _<;>simp[eqGuard,binOp,Op.equal,he]
    case h_9=>simp only[VR]at hx hy;obtain⟨_,rfl,_⟩:=hy;subst hx;rintro o (rfl|rfl) _<;>simp[eqGuard,binOp,Op.equal,he]
    case h_10=>simp only[VR]at hx hy;obtain⟨_,rfl,_⟩:=hx;subst hy;rintro o (rfl|rfl) _<;>simp[eqGuard,binOp,Op.equal,he]
    case h_11 xs ys hkind=>
     cases hok:ti.eqok with
     |false=>rw[hok]at hb;simp at hb
     | true=>
      obtain⟨i,dd,z,hi,hd,_,_,hsz,_,hk,hag,hof,_,heq,_⟩:=(hT.get ht).ex;have hgt:P.eqGuardType P.depth t=false:=by
       rw[hok]at heq;cases dd<;>simp[oC]at heq;exact heq.2
      simp only[VR]at hx hy;obtain⟨vx,rfl,hx⟩:=hx;obtain⟨vy,rfl,hy⟩:=hy;rintro o (rfl|rfl)<;>exact fun _=>⟨run_eqGuard_agg w _ t ox oy _ _ hgt,by simp[binOp,Op.equal,he],by simp[binOp,Op.equal,he]⟩
    case h_12=>simp only[VR]at hx hy;subst hx hy;rintro o (rfl|rfl) _<;>simp[eqGuard,binOp,Op.equal,he]
    case h_13=>simp only[VR]at hx hy;obtain⟨_,_,rfl,_⟩:=hx;subst hy;simp only[Ge]at he;rintro o (rfl|rfl) _<;>simp[eqGuard,binOp,Op.equal,he]
    case h_14=>obtain⟨_,_,rfl,_⟩:=hx.hs_some;simp only[VR]at hy;subst hy;rintro o (rfl|rfl) _<;>simp[eqGuard,binOp,Op.equal,he]
    case h_15 hkind=>
     simp only[VR]at hx hy;subst hx hy;rintro o (rfl|rfl) hl <;>
     ·have hc:isLit ox=true\/isLit oy=true:=by
       unfold lG at hl;rw[ht]at hl;simp only[hkind,Hb,Ho,H3]at hl;rcases hl with(hl|hl)
       ·exact .inl hl
       ·exact .inr hl
      rcases hc with hc|hc
      ·cases ox<;>simp[isLit]at hc;simp[eqGuard,binOp,Op.equal,he]
      ·cases oy<;>simp[isLit]at hc;simp[eqGuard,binOp,Op.equal,he]
    case h_16=>simp at hb
  cases op<;>simp only[reduceCtorEq]at h
  case eql=>
   rw[G0]at h;obtain⟨b,hb,rfl⟩:=h;obtain⟨h1,h2,_⟩:=key b hb .eql (.inl rfl) hlit;exact⟨.bool b,by simp only[Sem.run_bind,h1,Result.andThen_ok,h2],by simp[VR]⟩
  case neq=>
   rw[G0]at h;obtain⟨b,hb,rfl⟩:=h;obtain⟨h1,_,h2⟩:=key b hb .neq (.inr rfl) hlit;exact⟨.bool !b,by simp only[Sem.run_bind,h1,Result.andThen_ok,h2],by simp[VR]⟩
end
end Go.Av
namespace Go.Av
def Wf(S:am)(w:World):Prop:=∀(b o:Nat)(v:Value),S b o=some v->w.cell? ⟨b,o,none⟩=some v
section
variable {P:Program} {T:TT} {w:World} {S:am} {β:List a7}
theorem addr_add(b o n:Nat):(⟨b,o,none⟩:Addr).add n=⟨b,o+n,none⟩:=by
 unfold Addr.add;split
 ·simp_all
 ·rfl
theorem DT{op:UnOp}{x r:AV}{vx:Value}(h:iz op x=some r)(hx:VR S β x vx):mC P w S β (Op.unary op vx) r:=by
 unfold iz at h;split at h
 ·simp at h;subst h;simp only[VR]at hx;subst hx;exact⟨_,by simp[Op.unary];rfl,by simp[VR]⟩
 ·simp only[FU]at h;subst h;simp only[VR]at hx;subst hx;exact⟨_,by simp only[Op.unary,Op.intArith,Sem.run_pure];rfl,by simp[VR]⟩
 ·simp at h
theorem yF(hT:TOK P T){s d:TypeId}{x r:AV}{vx:Value}(h:zT T s d x=some r)(hx:VR S β x vx):mC P w S β (convert s d vx) r:=by cases h
theorem iG(hT:TOK P T){t f:Nat}{x r:AV}{vx:Value}(h:aa T t x f=some r)(hx:VR S β x vx):mC P w S β (Instr.fieldAt t vx f) r:=by
 unfold aa at h;split at h
 ·simp at h
 ·rename_i ti ht;obtain⟨_,d,_,_,hd,_,_,_,_,_,_,hof,_⟩:=(hT.get ht).ex;split at h
  ·simp at h
  ·rename_i o ft nm hf;rw[<- hof]at hf;obtain⟨fs,rfl⟩:∃fs,d= .struct fs:=by cases d<;>simp_all[iv]
   simp only[iv]at hf;rw[GW]at hf;cases hff:fs.toList[f]? with
   |none=>rw[hff]at hf;simp at hf
   | some fd=>
    rw[hff]at hf;simp at hf;obtain⟨rfl,rfl,_⟩:=hf;have hff':fs[f]? = some fd:=by simpa using hff
    split at h
    ·simp at h
    ·rename_i fi hfi;obtain⟨ii,_,_,hii,_,_,_,hsz,_⟩:=(hT.get hfi).ex;split at h
     ·simp at h
     ·rename_i hne;have hz:¬(ii.size=0):=by rw[hsz];exact hne
      split at h
      ·simp only[FU]at h;subst h;simp only[VR]at hx;obtain⟨b,off,vs,rfl,hv,hc⟩:=hx;refine⟨.pointer (some ⟨b,off+fd.offset,none⟩),?_,?_⟩
       ·simp[Instr.fieldAt,run_underlying hd,hff',Instr.sureAddr,fieldPlace,run_sizeOf hii,hz,addr_add]
       ·simp only[VR];refine⟨b,off+fd.offset,vs.drop fd.offset,rfl,hv.drop _,fun j v hj=>?_⟩;rw[GO]at hj
        have:=hc _ _ hj
        rwa [show off+fd.offset+j=off+(fd.offset+j) by omega]
      ·rename_i l off;simp only[FU]at h;subst h;simp only[VR]at hx;obtain⟨b,hb,hb0,rfl⟩:=hx;refine⟨.pointer (some ⟨b.1,off+fd.offset,none⟩),?_,?_⟩
       ·simp[Instr.fieldAt,run_underlying hd,hff',Instr.sureAddr,fieldPlace,run_sizeOf hii,hz,addr_add]
       ·simp only[VR];exact⟨b,hb,hb0,rfl⟩
      ·simp at h
theorem pM{S:am}{β:List a7}{b o n:Nat}{cs:List AV}{vs:List Value}(hv:aP S β cs vs)(hc:c6 S b o vs):
  VR S β (.ip (cs.drop n)) (.pointer (some ⟨b,o+n,none⟩)):=by
 simp only[VR];refine⟨b,o+n,vs.drop n,rfl,hv.drop _,fun j v hj=>?_⟩;rw[GO]at hj
 have:=hc _ _ hj
 rwa [show o+n+j=o+(n+j) by omega]
theorem fM(hT:TOK P T){t:Nat}{x i r:AV}{vx vi:Value}(h:ax T t x i=some r)(hx:VR S β x vx)(hi:VR S β i vi):mC P w S β (Instr.indexAt t vx vi) r:=by
 unfold ax at h;split at h
 ·rename_i ti k n ht;simp only[VR]at hi;subst hi;obtain⟨_,d,_,_,hd,_,_,_,_,hk,_⟩:=(hT.get ht).ex;split at h
  ·-- slice,by value
   rename_i e es hkk;cases d<;>simp only[kindOf,hkk,reduceCtorEq,TK.slice.injEq]at hk;subst hk;split at h
   ·rename_i ei hei;obtain⟨ii,_,_,hii,_,_,_,hsz,_⟩:=(hT.get hei).ex;split at h
    ·simp at h
    ·rename_i hn;split at h
     ·rename_i a ha;split at h
      ·rename_i hs;simp only[FU]at h;subst h;simp only[VR]at hx;obtain⟨ad,cap,rfl,hc,hnone,hsome⟩:=hx;have hlt:n.toNat<es.length:=by
        rcases Gd n.toNat es.length with h|h
        ·exact h
        ·rw[F8 h]at ha;simp at ha
       cases ad with
       |none=>have:=hnone rfl;omega
       | some q=>
        obtain⟨hq,sz,hel⟩:=hsome q rfl;obtain⟨v,hv,hvs,hvc⟩:=hel.get ha;obtain⟨h1,h2,_⟩:=hv.cells hs;have hqq:q=⟨q.block,q.off,none⟩:=by
         have:=hq (by omega)
         cases q;simp_all
        have hsz':sz=ei.size:=by rw[<- hvs,h1]
        refine⟨.pointer (some ⟨q.block,q.off+n.toNat*ei.size,none⟩),?_,?_⟩
        ·rw[hqq];have hcond:0<=n/\n<(es.length:Int):=by omega
         simp only[Instr.indexAt,asIntOf,Sem.run_bind,Sem.run_pure,Result.andThen_ok,run_underlying hd,Iu,F7,Gl,hcond,HX,Gm,run_sizeOf hii,hsz,addr_add]
        ·simp only[VR];exact⟨_,_,v.cells.toList,rfl,h2,by rw[hsz']at hvc;exact hvc⟩
      ·simp at h
     ·simp at h
   ·simp at h
  ·-- slice in the heap
   rename_i e l off len sz ag hkk;cases d<;>simp only[kindOf,hkk,reduceCtorEq,TK.slice.injEq]at hk;subst hk;split at h
   ·rename_i ei hei;obtain⟨ii,_,_,hii,_,_,_,hsz,_⟩:=(hT.get hei).ex;split at h
    ·rename_i hc;simp only[FU]at h;subst h;obtain⟨b,cap,hb,hb0,rfl,_⟩:=hx.hs_pos (by omega);refine⟨.pointer (some ⟨b.1,off+n.toNat*ei.size,none⟩),?_,by simp only[VR];exact⟨b,hb,hb0,rfl⟩⟩;simp only[Instr.indexAt,asIntOf,Sem.run_bind,Sem.run_pure,Result.andThen_ok,run_underlying hd,Iu,F7,Gl,hc,HX,Gm,run_sizeOf hii,hsz,addr_add]
    ·simp at h
   ·simp at h
  ·rename_i m e cs hkk;cases d<;>simp only[kindOf,hkk,reduceCtorEq,TK.array.injEq]at hk;obtain⟨rfl,rfl⟩:=hk;split at h
   ·rename_i ei hei;obtain⟨ii,_,_,hii,_,_,_,hsz,_⟩:=(hT.get hei).ex;split at h
    ·rename_i hc;simp only[FU]at h;subst h;simp only[VR]at hx;obtain⟨b,off,vs,rfl,hv,hcc⟩:=hx;refine⟨.pointer (some ⟨b,off+n.toNat*ei.size,none⟩),?_,pM hv hcc⟩;simp only[Instr.indexAt,asIntOf,Instr.sureAddr,Sem.run_bind,Sem.run_pure,Result.andThen_ok,run_underlying hd,hc,HX,Gm,run_sizeOf hii,hsz,addr_add]
    ·simp at h
   ·simp at h
  ·rename_i m e l off hkk;cases d<;>simp only[kindOf,hkk,reduceCtorEq,TK.array.injEq]at hk;obtain⟨rfl,rfl⟩:=hk;split at h
   ·rename_i ei hei;obtain⟨ii,_,_,hii,_,_,_,hsz,_⟩:=(hT.get hei).ex;split at h
    ·rename_i hc;simp only[FU]at h;subst h;simp only[VR]at hx;obtain⟨b,hb,hb0,rfl⟩:=hx;refine⟨.pointer (some ⟨b.1,off+n.toNat*ei.size,none⟩),?_,by simp only[VR];exact⟨b,hb,hb0,rfl⟩⟩;simp only[Instr.indexAt,asIntOf,Instr.sureAddr,Sem.run_bind,Sem.run_pure,Result.andThen_ok,run_underlying hd,hc,HX,Gm,run_sizeOf hii,hsz,addr_add]
    ·simp at h
   ·simp at h
  ·simp at h
 ·simp at h
theorem ir(hT:TOK P T){t:Nat}{ti:TI}(ht:T t=some ti){b o:Nat}{vs:List Value}{cs:List AV}(hv:aP S β cs vs)(hc:∀j v,vs[j]? = some v->w.cell? ⟨b,o+j,none⟩=some v){r:AV}(hr:(bif ti.agg then(if ti.size<=cs.length then some (.agg (cs.take ti.size))else none)else cs.head?)=some r):mC P w S β (loadVar t ⟨b,o,none⟩) r:=by
 obtain⟨ii,d,_,hii,hd,_,_,hsz,_,_,hag,_⟩:=(hT.get ht).ex;cases ha:ti.agg with
 | true=>
  rw[ha]at hr;simp only[FW]at hr;split at hr
  ·rename_i hle;simp only[FU]at hr;subst hr;have hl:(vs.take ti.size).length=ti.size:=by simp[hv.length];omega
   have hload:=run_loadCells_list (P:=P) w ⟨b,o,none⟩ (vs.take ti.size) (fun j v hj=>by
    rw[addr_add];refine hc j v ?_;rw[Gg]at hj;split at hj
    ·exact hj
    ·simp at hj)
   rw[hl]at hload;refine⟨.agg (vs.take ti.size).toArray,?_,?_⟩
   ·simp[loadVar,d8 hd,hag,ha,run_sizeOf hii,hsz,hload]
   ·simp only[VR];exact⟨_,rfl,hv.take _⟩
  ·simp at hr
 |false=>
  rw[ha]at hr;simp only[F0]at hr;rw[List.head?_eq_getElem?]at hr;obtain⟨v,hv',hR⟩:=hv.get hr;refine⟨v,?_,hR⟩
  have:=hc 0 v hv'
  simp only[GX]at this;simp[loadVar,d8 hd,hag,ha,this]
theorem tw(hT:TOK P T)(hw:Wf S w){t:Nat}{x r:AV}{vx:Value}(h:ak T t x=some r)(hx:VR S β x vx):mC P w S β (Instr.loadAt t vx) r:=by
 unfold ak at h;split at h
 ·rename_i ti cs ht;simp only[VR]at hx;obtain⟨b,off,vs,rfl,hv,hc⟩:=hx;obtain⟨v,h1,h2⟩:=ir hT ht hv (fun j v hj=>hw _ _ _ (hc j v hj)) h;exact⟨v,by simp[Instr.loadAt,Instr.sureAddr,h1],h2⟩
 ·simp at h
theorem ql(hT:TOK P T){t:Nat}{x i r:AV}{vx vi:Value}(h:da T t x i=some r)(hx:VR S β x vx)(hi:VR S β i vi):mC P w S β (Instr.index t vx vi) r:=by
 unfold da at h;split at h
 ·rename_i ti k n ht;simp only[VR]at hi;subst hi;obtain⟨_,d,_,_,hd,_,_,_,_,hk,_⟩:=(hT.get ht).ex;split at h
  ·rename_i s hkk;cases d<;>simp only[kindOf,hkk,reduceCtorEq]at hk;split at h
   ·simp at h
   ·rename_i hn;rw[G0]at h;obtain⟨b,hb,rfl⟩:=h;simp only[VR]at hx;obtain⟨y,rfl,hy⟩:=hx;have hyb:y[n.toNat]? = some b:=by
     rw[<- hy]at hb;have hlt:n.toNat<y.data.size:=by
      rcases Gd n.toNat y.data.size with h|h
      ·exact h
      ·rw[F8 (by simpa using h)]at hb;simp at hb
     have:n.toNat<y.size:=hlt;rw[getElem?_pos y n.toNat this];rw[Gf (by simpa using hlt)]at hb;simp at hb;rw[<- hb];rfl
    have h0:0<=n:=by omega
    exact⟨_,by simp[Instr.index,asIntOf,run_underlying hd,h0,hyb];rfl,by simp only[VR]⟩
  ·rename_i m e cs hkk;cases d<;>simp only[kindOf,hkk,reduceCtorEq,TK.array.injEq]at hk;obtain⟨rfl,rfl⟩:=hk;split at h
   ·rename_i ei hei;obtain⟨ii,_,_,hii,_,_,_,hsz,_⟩:=(hT.get hei).ex;split at h
    ·rename_i hc;simp only[VR]at hx;obtain⟨vs,rfl,hv⟩:=hx;obtain⟨v,h1,h2⟩:=i6 (w:=w) hT hei hv h;refine⟨v,?_,h2⟩;simp only[Instr.index,asIntOf,Sem.run_bind,Sem.run_pure,Result.andThen_ok,run_underlying hd,hc,HX,Gm,run_sizeOf hii,hsz,h1]
    ·simp at h
   ·simp at h
  ·simp at h
 ·simp at h
theorem wD(hT:TOK P T){t f:Nat}{x r:AV}{vx:Value}(h:rV T t x f=some r)(hx:VR S β x vx):mC P w S β (Instr.field t vx f) r:=by
 unfold rV at h;split at h
 ·rename_i ti cs ht;simp only[VR]at hx;obtain⟨vs,rfl,hv⟩:=hx;obtain⟨_,d,_,_,hd,_,_,_,_,hk,_,hof,_⟩:=(hT.get ht).ex;split at h
  ·rename_i o ft nm hkk hf;rw[<- hof]at hf;obtain⟨fs,rfl⟩:∃fs,d= .struct fs:=by cases d<;>simp_all[iv]
   simp only[iv]at hf;rw[GW]at hf;cases hff:fs.toList[f]? with
   |none=>rw[hff]at hf;simp at hf
   | some fd=>
    rw[hff]at hf;simp at hf;obtain⟨rfl,rfl,_⟩:=hf;have hff':fs[f]? = some fd:=by simpa using hff
    split at h
    ·rename_i fi hfi;obtain⟨v,h1,h2⟩:=i6 (w:=w) hT hfi hv h;refine⟨v,?_,h2⟩;simp[Instr.field,run_underlying hd,hff',asAgg,h1]
    ·simp at h
  ·simp at h
 ·simp at h
theorem Bm(hT:TOK P T){t u:Nat}{x r:AV}{vx:Value}(ts:List TypeId)(xs:List Value)(h:aY T t x=some r)(hx:VR S β x vx):
  mC P w S β (Builtin.len_ (t:: ts).toArray u (vx:: xs).toArray) r:=by
 unfold aY at h;split at h
 ·simp at h
 ·rename_i ti ht;obtain⟨_,d,_,_,hd,_,_,_,_,hk,_⟩:=(hT.get ht).ex;split at h<;>(try simp only[FU,reduceCtorEq]at h)<;>(try subst h)
  ·rename_i e es hkk;simp only[VR]at hx;obtain⟨a,cap,rfl,_⟩:=hx;cases d<;>simp only[kindOf,hkk,reduceCtorEq]at hk;exact⟨_,by simp[Builtin.len_,run_underlying hd,goInt];rfl,by simp[VR]⟩
  ·rename_i hkk;obtain⟨q,cap,rfl,_⟩:=hx.hs_some;cases d<;>simp only[kindOf,hkk,reduceCtorEq]at hk;exact⟨_,by simp[Builtin.len_,run_underlying hd,goInt];rfl,by simp[VR]⟩
  ·rename_i hkk;simp only[VR]at hx;subst hx;cases d<;>simp only[kindOf,hkk,reduceCtorEq]at hk;exact⟨_,by simp[Builtin.len_,run_underlying hd,goInt];rfl,by simp[VR]⟩
  ·rename_i s hkk;simp only[VR]at hx;obtain⟨y,rfl,hy⟩:=hx;cases d<;>simp only[kindOf,hkk,reduceCtorEq]at hk;refine⟨.int .i64 y.size,by simp[Builtin.len_,run_underlying hd,goInt],?_⟩;simp only[VR,<- hy,GD];rfl
  ·rename_i n e hkk;cases d<;>simp only[kindOf,hkk,reduceCtorEq,TK.array.injEq]at hk;obtain⟨rfl,rfl⟩:=hk;exact⟨_,by simp[Builtin.len_,run_underlying hd,goInt];rfl,by simp[VR]⟩
theorem rU{x r:AV}{i:Nat}{vx:Value}(h:cg x i=some r)(hx:VR S β x vx):mC P w S β (Instr.extract vx i) r:=by
 unfold cg at h;split at h
 ·simp only[VR]at hx;obtain⟨vs,rfl,hv⟩:=hx;obtain⟨v,h1,h2⟩:=hv.get h;exact⟨v,by simp[Instr.extract,h1],h2⟩
 ·simp at h
theorem sg(hT:TOK P T){t:Nat}{x r:AV}{vx:Value}(h:dK T t x=some r)(hx:VR S β x vx):mC P w S β (Instr.makeInterface t vx) r:=by
 unfold dK at h;split at h
 ·simp at h
 ·rename_i ti ht;obtain⟨_,d,_,_,hd,_,_,_,_,hk,_⟩:=(hT.get ht).ex;split at h
  ·simp at h
  ·rename_i hne;simp only[FU]at h;subst h;refine⟨.iface t vx,?_,by simp only[VR];exact⟨vx,rfl,hx⟩⟩;cases d<;>simp_all[Instr.makeInterface,run_underlying hd,kindOf]
theorem yW{big:Bool}{x y r:AV}{vx vy:Value}(h:xk big x y=some r)(hx:VR S β x vx)(hy:VR S β y vy):
  mC P w S β (bif big then Builtin.max2 vx vy else Builtin.min2 vx vy) r:=by
 unfold xk at h;split at h
 ·simp only[FU]at h;subst h;simp only[VR]at hx hy;subst hx hy;cases big
  ·exact⟨_,by simp[Builtin.min2];rfl,by simp[VR]⟩
  ·exact⟨_,by simp[Builtin.max2];rfl,by simp[VR]⟩
 ·simp at h
theorem oQ{big:Bool}:(n:Nat)->(xs:List AV)->xs.length<=n->(r:AV)->(vs:List Value)->fZ big xs=some r->aP S β xs vs->
  ∃v rest,vs=v:: rest/\mC P w S β (rest.foldlM (bif big then Builtin.max2 else Builtin.min2) v) r
 |_,[],_,r,vs,h,_=>by simp[fZ]at h
 |n,[x],_,r,vs,h,hv=>by
  simp only[fZ,FU]at h;subst h;simp only[aP]at hv;obtain⟨v,xs,rfl,hx,rfl⟩:=hv;exact⟨v,[],rfl,v,by simp,hx⟩
 |0,x:: y:: xs,hl,r,vs,h,hv=>by simp at hl
 | n+1,x:: y:: xs,hl,r,vs,h,hv=>by
  unfold fZ at h;split at h
  ·rename_i z hz;simp only[aP]at hv;obtain⟨v,ys,rfl,hx,u,zs,rfl,hy,hzs⟩:=hv;obtain⟨c,hc,hcr⟩:=yW (P:=P) (w:=w) hz hx hy;obtain⟨v',rest',he,hp⟩:=oQ n (z:: xs) (by simp at hl |-;omega) r (c:: zs) h (by simp only[aP];exact⟨c,zs,rfl,hcr,hzs⟩);simp only[HT]at he;obtain⟨rfl,rfl⟩:=he;refine⟨v,u:: zs,rfl,?_⟩;obtain⟨o,ho,hor⟩:=hp;refine⟨o,?_,hor⟩;simp only[List.foldlM_cons,Sem.run_bind];have:((bif big then Builtin.max2 else Builtin.min2) v u).run P w= .ok c w:=by cases big<;>simpa using hc
   rw[this,Result.andThen_ok,ho]
  ·simp at h
end
end Go.Av
namespace Go.Av
section
variable {P:Program} {T:TT} {w:World} {S:am} {β:List a7}
theorem qX{x:AV}{v:Value}{dflt most n y:Nat}(c:BoundsCode)(hy:most<=y)(h:bI (some x) dflt most=some n)(hx:VR S β x v):(Instr.sliceBound v y c).run P w= .ok n w/\n<=most:=by
 unfold bI at h;split at h
 ·rename_i hq;cases hq
 ·rename_i k m hq;cases hq;simp only[VR]at hx;subst hx;split at h
  ·rename_i hcc;simp only[FU]at h;subst h;refine⟨?_,by omega⟩;have:0<=m/\m<=(y:Int):=by omega
   simp only[Instr.sliceBound,asIntOf,Sem.run_bind,Sem.run_pure,Result.andThen_ok,this,HX,Gm]
  ·simp at h
 ·simp at h
def fq(S:am)(β:List a7):Option AV->Option Value->Prop
 |none,v=>v=none
 |some x,v=>∃y,v=some y/\VR S β x y
theorem dU{isSlice:Bool}{len cap:Nat}{lo hi:Option AV}{vlo vhi:Option Value}{h l:Nat}(hlo:fq S β lo vlo)(hhi:fq S β hi vhi)(hc:len<=cap)(hh:bI hi len len=some h)(hl:bI lo 0 h=some l):
  (Instr.sliceBounds isSlice len cap vlo vhi none).run P w= .ok (l,h,cap) w/\l<=h/\h<=len:=by
 cases hi with
 | none=>
  simp only[fq]at hhi;subst hhi;simp only[bI,FU]at hh;subst hh;cases lo with
  |none=>
   simp only[fq]at hlo;subst hlo;simp only[bI,FU]at hl;subst hl;exact⟨by simp[Instr.sliceBounds],by omega,by omega⟩
  |some y=>
   obtain⟨u,rfl,hu⟩:=hlo;have h1:=qX (P:=P) (w:=w) .sliceB (FZ _) hl hu;exact⟨by simp[Instr.sliceBounds,h1.1],h1.2,by omega⟩
 | some x=>
  obtain⟨v,rfl,hv⟩:=hhi;have h2:=fun c=>qX (P:=P) (w:=w) c hc hh hv;cases lo with
  |none=>
   simp only[fq]at hlo;subst hlo;simp only[bI,FU]at hl;subst hl;exact⟨by simp[Instr.sliceBounds,h2],by omega,(h2 .index).2⟩
  |some y=>
   obtain⟨u,rfl,hu⟩:=hlo;have h1:=qX (P:=P) (w:=w) .sliceB (FZ _) hl hu;exact⟨by simp[Instr.sliceBounds,h2,h1.1],h1.2,(h2 .index).2⟩
theorem rB{len cap:Nat}{lo:Option AV}{xh xm:AV}{vlo:Option Value}{vh vm:Value}{h l:Nat}(hlo:fq S β lo vlo)(hh:VR S β xh vh)(hm:VR S β xm vm)(hc:len<=cap)(h1:bI (some xh) len len=some h)(h2:bI (some xm) 0 len=some h)(hl:bI lo 0 h=some l):
  (Instr.sliceBounds true len cap vlo (some vh) (some vm)).run P w= .ok (l,h,h) w/\l<=h/\h<=len:=by
 have g2:=fun c=>qX (P:=P) (w:=w) c hc h2 hm;have g1:(Instr.sliceBound vh h .slice3B).run P w= .ok h w:=by
  unfold bI at h1;split at h1
  ·rename_i hq;cases hq
  ·rename_i k m hq;cases hq;simp only[VR]at hh;subst hh;split at h1
   ·rename_i hcc;simp only[FU]at h1;subst h1;have:0<=m/\m<=((m.toNat:Nat):Int):=by omega
    simp only[Instr.sliceBound,asIntOf,Sem.run_bind,Sem.run_pure,Result.andThen_ok,this,HX,Gm]
   ·simp at h1
  ·simp at h1
 cases lo with
 |none=>
  simp only[fq]at hlo;subst hlo;simp only[bI,FU]at hl;subst hl;exact⟨by simp[Instr.sliceBounds,g2,g1],by omega,(g2 .index).2⟩
 |some y=>
  obtain⟨u,rfl,hu⟩:=hlo;have h1:=qX (P:=P) (w:=w) .slice3C (FZ _) hl hu;exact⟨by simp[Instr.sliceBounds,g2,g1,h1.1],h1.2,(g2 .index).2⟩
theorem FB{es:List AV}{a:Option Addr}{cap l h esz:Nat}(hx:VR S β (.sl es) (.slice a es.length cap))(hlh:l<=h)(hh:h<=es.length)(hs:∀q,a=some q->h≠l->l≠0->∀sz,bi S β es q.block q.off sz->sz=esz)(m:Nat)(hm:h<=m)(hmc:m<=cap):
  VR S β (.sl ((es.take h).drop l)) (.slice (if m=l then a else a.map (·.add (l*esz))) (h-l) (m-l)):=by
 simp only[VR]at hx |-;obtain⟨a',cap',he,hc,hnone,hsome⟩:=hx;simp only[Value.slice.injEq]at he;obtain⟨rfl,_,rfl⟩:=he;have hlen:((es.take h).drop l).length=h-l:=by simp;omega
 refine⟨_,m-l,by rw[hlen],by rw[hlen];omega,?_,?_⟩
 ·intro hn;split at hn
  ·omega
  ·simp at hn;subst hn
   have:=hnone rfl
   omega
 ·intro q hq;split at hq
  ·rename_i hml;have:h=l:=by omega
   subst this;subst hq;obtain⟨h1,_⟩:=hsome q rfl;refine⟨fun hp=>h1 (by omega),1,?_⟩;have:(es.take h).drop h=[]:=by apply Gi;simp
   rw[this];simp[bi]
  ·rw[G0]at hq;obtain⟨q0,rfl,rfl⟩:=hq;obtain⟨h1,sz,h2⟩:=hsome q0 rfl;have hq0:q0=⟨q0.block,q0.off,none⟩:=by
    have:=h1 (by omega)
    cases q0;simp_all
   refine⟨fun _=>by rw[hq0,addr_add],?_⟩;by_cases hhl:h=l
   ·subst hhl;have:(es.take h).drop h=[]:=by apply Gi;simp
    exact⟨1,by rw[this];simp[bi]⟩
   ·by_cases hl0:l=0
    ·subst hl0;refine⟨sz,?_⟩;rw[hq0,addr_add];simpa using h2.take h
    ·have:=hs q0 rfl hhl hl0 sz h2
     subst this;refine⟨sz,?_⟩;rw[hq0,addr_add];exact (h2.take h).drop l
theorem extract_toList(y:ByteArray)(l h:Nat):(y.extract l h).data.toList=(y.data.toList.take h).drop l:=by
 rw[ByteArray.data_extract,Array.toList_extract,Ie,List.drop_take]
theorem Be(hT:TOK P T){t:Nat}{es:List AV}{r:AV}{lo:Option AV}{a:Option Addr}{cap:Nat}{vlo:Option Value}(h:eb T t (.sl es) lo none none=some r)(hx:VR S β (.sl es) (.slice a es.length cap))(hlo:fq S β lo vlo):
  ∃l ei ti e,T t=some ti/\ti.kind= .slice e/\T e=some ei/\l<=es.length/\(Instr.sliceAt t (.slice a es.length cap) vlo none none).run P w= .ok (.slice (if cap=l then a else a.map (·.add (l*ei.size))) (es.length-l) (cap-l)) w/\
   VR S β r (.slice (if cap=l then a else a.map (·.add (l*ei.size))) (es.length-l) (cap-l)):=by
 unfold eb at h;split at h
 ·simp at h
 ·rename_i ti ht;obtain⟨_,d,_,_,hd,_,_,_,_,hk,_⟩:=(hT.get ht).ex;split at h
  ·rename_i hq;cases hq
  ·-- slices by value
   rename_i e es' hkk hq;simp only[AV.sl.injEq]at hq;subst hq;cases d<;>simp only[kindOf,hkk,reduceCtorEq,TK.slice.injEq]at hk;subst hk;split at h
   ·simp at h
   ·rename_i ei hei;obtain⟨ii,_,_,hii,_,_,_,hsz,_⟩:=(hT.get hei).ex;split at h
    ·simp at h
    ·rename_i hh hhe;split at h
     ·simp at h
     ·rename_i l hle;cases hck:(decide (l=0)||cJ ei.size es)with
      |false=>rw[hck]at h;simp at h
      | true=>
       rw[hck]at h;simp only[FW,FU]at h;subst h;have hx0:=hx;simp only[VR]at hx;obtain⟨a',cap',he,hc,hnone,hsome⟩:=hx;simp only[Value.slice.injEq]at he;obtain⟨rfl,_,rfl⟩:=he;have hhe':hh=es.length:=by simpa [bI]using hhe.symm
       subst hhe';obtain⟨hb,h1,h2⟩:=dU (P:=P) (w:=w) (isSlice:=true) hlo (hi:=none) (vhi:=none) rfl hc hhe hle;refine⟨l,ei,ti,_,ht,hkk,hei,h1,?_,?_⟩
       ·simp only[Instr.sliceAt,Sem.run_bind,run_underlying hd,Result.andThen_ok,Instr.slice,hb,run_sizeOf hii,Sem.run_pure,hsz]
       ·rw[GE]at hck;rcases hck with h0|hok
        ·have h0:l=0:=by simpa using h0
         exact FB hx0 h1 h2 (fun q _ _ hl0=>absurd h0 hl0) cap (by omega) (FZ _)
        ·refine FB hx0 h1 h2 (fun q hq hne _ sz hel=>?_) cap (by omega) (FZ _);have hlt:l<es.length:=by omega
         obtain⟨v,hv,hvs,_⟩:=hel.get (Gf hlt);have hsa:bS es[l]=some ei.size:=by
          unfold cJ at hok;rw[F9]at hok
          have:=hok _ (Gs hlt)
          simp[bq]at this;exact this.1
         have:=(hv.cells hsa).1
         omega
  ·rename_i hq;cases hq
  ·rename_i hq;cases hq
  ·rename_i hq;cases hq
  ·cases h
theorem xL(hT:TOK P T){t:Nat}{x r:AV}{lo hi mx:Option AV}{vx:Value}{vlo vhi vmx:Option Value}(h:eb T t x lo hi mx=some r)(hx:VR S β x vx)(hlo:fq S β lo vlo)(hhi:fq S β hi vhi)(hmx:fq S β mx vmx):
  ∃v,(Instr.sliceAt t vx vlo vhi vmx).run P w= .ok v w/\VR S β r v/\(mx.isSome=true->(∃a n,v= .slice a n n)/\∃es,r= .sl es):=by
 unfold eb at h;split at h
 ·simp at h
 ·rename_i ti ht;obtain⟨_,d,_,_,hd,_,_,_,_,hk,_⟩:=(hT.get ht).ex;split at h
  ·-- strings
   rename_i s hkk;cases d<;>simp only[kindOf,hkk,reduceCtorEq]at hk;split at h
   ·simp at h
   ·simp only[fq]at hmx;subst hmx;split at h
    ·simp at h
    ·rename_i hh hhe;split at h
     ·simp at h
     ·rename_i l hle;simp only[FU]at h;subst h;simp only[VR]at hx;obtain⟨y,rfl,hy⟩:=hx;have hsz:y.size=s.length:=by rw[<- hy,GD];rfl
      obtain⟨hb,h1,h2⟩:=dU (P:=P) (w:=w) (isSlice:=false) hlo hhi (FZ s.length) hhe hle;refine⟨.string (y.extract l hh),?_,?_,by simp⟩
      ·simp only[Instr.sliceAt,Sem.run_bind,run_underlying hd,Result.andThen_ok,Instr.slice,Option.isSome_none,F7,Gl,hsz,hb,Sem.run_pure]
      ·simp only[VR];exact⟨_,rfl,by rw[extract_toList,hy]⟩
  ·-- slices by value
   rename_i e es hkk;cases d<;>simp only[kindOf,hkk,reduceCtorEq,TK.slice.injEq]at hk;subst hk;split at h
   ·simp at h
   ·rename_i ei hei;obtain⟨ii,_,_,hii,_,_,_,hsz,_⟩:=(hT.get hei).ex;split at h
    ·simp at h
    ·rename_i hh hhe;split at h
     ·simp at h
     ·rename_i l hle;cases hck:(decide (l=0)||cJ ei.size es)with
      |false=>rw[hck]at h;simp at h
      | true=>
       rw[hck]at h;simp only[FW]at h;have hx0:=hx;simp only[VR]at hx;obtain⟨a,cap,rfl,hc,hnone,hsome⟩:=hx;have hstep:∀hh l m:Nat,l<=hh->hh<=es.length->hh<=m->m<=cap->(decide (l=0)||cJ ei.size es)=true->
         VR S β (.sl ((es.take hh).drop l)) (.slice (if m=l then a else a.map (·.add (l*ii.size))) (hh-l) (m-l)):=by
        intro hh l m h1 h2 h3 h4 hck;rw[GE]at hck;rcases hck with h0|hok
        ·have h0:l=0:=by simpa using h0
         exact FB hx0 h1 h2 (fun q _ _ hl0=>absurd h0 hl0) m h3 h4
        ·refine FB hx0 h1 h2 (fun q hq hne _ sz hel=>?_) m h3 h4;have hlt:l<es.length:=by omega
         obtain⟨v,hv,hvs,_⟩:=hel.get (Gf hlt);have hsa:bS es[l]=some ei.size:=by
          unfold cJ at hok;rw[F9]at hok
          have:=hok _ (Gs hlt)
          simp[bq]at this;exact this.1
         have:=(hv.cells hsa).1
         omega
       cases mx with
       |none=>
        simp only[FU]at h;subst h;simp only[fq]at hmx;subst hmx;obtain⟨hb,h1,h2⟩:=dU (P:=P) (w:=w) (isSlice:=true) hlo hhi hc hhe hle;refine⟨_,?_,hstep hh l cap h1 h2 (by omega) (FZ _) hck,by simp⟩;simp only[Instr.sliceAt,Sem.run_bind,run_underlying hd,Result.andThen_ok,Instr.slice,hb,run_sizeOf hii,Sem.run_pure]
       | some xm=>
        obtain⟨vm,rfl,hvm⟩:=hmx;cases hi with
        |none=>simp at h
        | some xh=>
         obtain⟨vh,rfl,hvh⟩:=hhi;simp only at h;split at h
         ·rename_i m' hm' _;split at h
          ·rename_i hmh;subst hmh;simp only[FU]at h;subst h;obtain⟨hb,h1,h2⟩:=rB (P:=P) (w:=w) hlo hvh hvm hc hhe ‹_› hle;refine⟨_,?_,hstep m' l m' h1 h2 (FZ _) (by omega) hck,fun _=>⟨⟨_,_,rfl⟩,_,rfl⟩⟩;simp only[Instr.sliceAt,Sem.run_bind,run_underlying hd,Result.andThen_ok,Instr.slice,hb,run_sizeOf hii,Sem.run_pure]
          ·simp at h
         ·simp at h
  ·-- a nil slice
   rename_i e hkk;cases d<;>simp only[kindOf,hkk,reduceCtorEq,TK.slice.injEq]at hk;subst hk;split at h
   ·simp at h
   ·rename_i ei hei;obtain⟨ii,_,_,hii,_,_,_,hsz,_⟩:=(hT.get hei).ex;split at h
    ·simp at h
    ·simp only[fq]at hmx;subst hmx;split at h
     ·simp at h
     ·rename_i hh hhe;split at h
      ·simp at h
      ·rename_i l hle;simp only[FU]at h;subst h;simp only[VR]at hx;subst hx;obtain⟨hbd,h1,h2⟩:=dU (P:=P) (w:=w) (isSlice:=true) (len:=0) (cap:=0) hlo hhi (FZ 0) hhe hle;obtain rfl:hh=0:=by omega
       obtain rfl:l=0:=by omega
       refine⟨.slice none 0 0,?_,by simp only[VR],by simp⟩;simp only[Instr.sliceAt,Sem.run_bind,run_underlying hd,Result.andThen_ok,Instr.slice,hbd,run_sizeOf hii,Sem.run_pure,Gm]
  ·-- slices in the heap
   rename_i e l0 off len sz ag hkk;cases d<;>simp only[kindOf,hkk,reduceCtorEq,TK.slice.injEq]at hk;subst hk;split at h
   ·simp at h
   ·rename_i ei hei;obtain⟨ii,_,_,hii,_,_,_,hsz,_⟩:=(hT.get hei).ex;split at h
    ·simp at h
    ·simp only[fq]at hmx;subst hmx;split at h
     ·simp at h
     ·rename_i hh hhe;split at h
      ·simp at h
      ·rename_i l hle;split at h
       ·rename_i hcond;simp only[VR]at hx;rcases hx with⟨b,cap,hb,hb0,rfl,hcap,hcs⟩|⟨h00,q0,rfl⟩
        rotate_left
        ·subst h00;obtain⟨hbd,h1,h2⟩:=dU (P:=P) (w:=w) (isSlice:=true) (len:=0) (cap:=0) hlo hhi (FZ 0) hhe hle;split at h
         ·omega
         ·simp only[FU]at h;subst h;obtain rfl:hh=0:=by omega
          obtain rfl:l=0:=by omega
          refine⟨.slice (some q0) 0 0,?_,?_,by simp⟩
          ·simp only[Instr.sliceAt,Sem.run_bind,run_underlying hd,Result.andThen_ok,Instr.slice,hbd,run_sizeOf hii,Sem.run_pure,Gm]
          ·simp only[VR,bi];exact⟨_,_,rfl,G4 _,(fun h=>by cases h),fun q hq=>⟨fun h=>absurd h (by omega),0,trivial⟩⟩
        obtain⟨hbd,h1,h2⟩:=dU (P:=P) (w:=w) (isSlice:=true) hlo hhi hcap hhe hle;split at h
        ·rename_i hlt;simp only[FU]at h;subst h;have hml:cap≠l:=by omega
         refine⟨.slice (some ⟨b.1,off+l*sz,none⟩) (hh-l) (cap-l),?_,?_,by simp⟩
         ·simp only[Instr.sliceAt,Sem.run_bind,run_underlying hd,Result.andThen_ok,Instr.slice,hbd,run_sizeOf hii,Sem.run_pure,hml,Gl,Ha,addr_add,hsz,hcond]
         ·simp only[VR];refine .inl ⟨b,cap-l,hb,hb0,rfl,by omega,?_⟩;rw[HZ];have:l*sz<=cap*sz:=Gc _ (by omega);omega
        ·rename_i hlt;simp only[FU]at h;subst h;obtain rfl:l=hh:=by omega
         by_cases hml:cap=l
         ·refine⟨.slice (some ⟨b.1,off,none⟩) (l-l) (cap-l),?_,?_,by simp⟩
          ·rw[hml]at hbd;simp only[Instr.sliceAt,Sem.run_bind,run_underlying hd,Result.andThen_ok,Instr.slice,hml,hbd,run_sizeOf hii,Sem.run_pure,Gm]
          ·simp only[VR,bi];rw[Hz];exact⟨_,_,rfl,G4 _,(fun h=>by cases h),fun q hq=>by cases hq;exact⟨fun _=>rfl,0,trivial⟩⟩
         ·refine⟨.slice (some ⟨b.1,off+l*sz,none⟩) (l-l) (cap-l),?_,?_,by simp⟩
          ·simp only[Instr.sliceAt,Sem.run_bind,run_underlying hd,Result.andThen_ok,Instr.slice,hbd,run_sizeOf hii,Sem.run_pure,hml,Gl,Ha,addr_add,hsz,hcond]
          ·simp only[VR,bi];rw[Hz];exact⟨_,_,rfl,G4 _,(fun h=>by cases h),fun q hq=>by cases hq;exact⟨fun _=>rfl,0,trivial⟩⟩
       ·simp at h
  ·-- an array that is pointed to
   rename_i m e cs hkk;cases d<;>simp only[kindOf,hkk,reduceCtorEq,TK.array.injEq]at hk;obtain⟨rfl,rfl⟩:=hk;split at h
   ·rename_i ei hei;obtain⟨ii,_,_,hii,_,_,_,hsz,_⟩:=(hT.get hei).ex;simp only[fq]at hlo hhi hmx;subst hlo hhi hmx;split at h
    ·rename_i hc;obtain⟨h1,h2,h3,h4⟩:=hc;simp only[FU]at h;subst h;simp only[VR]at hx;obtain⟨b,off,vs,rfl,hvs,hcs⟩:=hx;refine⟨.slice (some ⟨b,off,none⟩) cs.length cs.length,?_,?_,by simp⟩
     ·rw[h2];simp only[Instr.sliceAt,Sem.run_bind,run_underlying hd,Result.andThen_ok,Instr.sureAddr,Instr.sliceBounds,Sem.run_pure,run_sizeOf hii];rw[if_neg (by omega)];simp[addr_add]
     ·simp only[VR];refine⟨_,_,rfl,FZ _,(fun h=>by cases h),fun q hq=>?_⟩;cases hq;refine⟨fun _=>rfl,1,.of_get fun i e he=>?_⟩;obtain⟨v,v1,v2⟩:=hvs.get he;have hs:r7 e=true:=by
       rw[F9]at h4;exact h4 e (GT he)
      cases e<;>simp only[r7,F7]at hs;simp only[VR]at v2;obtain⟨x,rfl,hx⟩:=v2;refine⟨_,⟨x,rfl,hx⟩,rfl,fun j u hu=>?_⟩;have hj:j=0:=by
       cases j with
       |zero=>rfl
       |succ j=>simp[Value.cells]at hu
      subst hj;have hu':u= .string x:=by simpa [Value.cells]using hu.symm
      subst hu';rw[Nat.mul_one,GX];exact hcs i _ v1
    ·simp at h
   ·simp at h
  ·simp at h
theorem ve(hT:TOK P T){t:Nat}{x r:AV}{lo hi mx:Option AV}{vx:Value}{vlo vhi vmx:Option Value}(h:sI T t x lo hi mx=some r)(hx:VR S β x vx)(hlo:fq S β lo vlo)(hhi:fq S β hi vhi)(hmx:fq S β mx vmx):
  ∃v,(Instr.sliceAt t vx vlo vhi vmx).run P w= .ok v w/\VR S β r v/\(mx.isSome=true->(∃a n,v= .slice a n n)/\∃es,r= .sl es):=by cases h
end
end Go.Av
namespace Go.Av
section
variable {P:Program} {T:TT} {w:World} {S:am} {β:List a7}
theorem o5(cs xs:List AV)(off k:Nat)(h:off+xs.length<=cs.length):
  (setCells cs off xs)[k]? = if off<=k/\k<off+xs.length then xs[k-off]? else cs[k]?:=by
 unfold setCells;have htl:(cs.take off).length=off:=by simp;omega
 split
 ·rename_i hc;rw[Hf,Gj (by omega),htl,Gb (by omega)]
 ·rename_i hc;by_cases hk:k<off
  ·rw[Hf,Gb (by omega),Gg,FY hk]
  ·rw[Gj (by simp;omega),GO];congr 1;simp;omega
theorem eH(cs xs:List AV)(off:Nat)(h:off+xs.length<=cs.length):(setCells cs off xs).length=cs.length:=by
 simp[setCells];omega
theorem foldl_set(vs:List Value):∀(k off:Nat)(cells:Array Value),
  ((vs.zipIdx k).foldl (fun cs x=>cs.setIfInBounds (off+x.2) x.1) cells).size=cells.size/\
  (off+k+vs.length<=cells.size->∀i,((vs.zipIdx k).foldl (fun cs x=>cs.setIfInBounds (off+x.2) x.1) cells)[i]? = if off+k<=i/\i<off+k+vs.length then vs[i-(off+k)]? else cells[i]?):=by
 induction vs with
 |nil=>intro k off cells;simp;omega
 | cons v vs ih=>
  intro k off cells;simp only[List.zipIdx_cons,List.foldl_cons,Ge];obtain⟨h1,h2⟩:=ih (k+1) off (cells.setIfInBounds (off+k) v);refine⟨by rw[h1];simp,fun hle i=>?_⟩;rw[h2 (by simp;omega)];by_cases hi:i=off+k
  ·subst hi;rw[if_neg (by omega),FY (by omega)];simp[Hg];omega
  ·by_cases hc:off+(k+1)<=i/\i<off+(k+1)+vs.length
   ·rw[FY hc,FY (by omega)];rw[show i-(off+k)=(i-(off+(k+1)))+1 by omega];simp
   ·rw[if_neg hc,if_neg (by omega)];rw[Hk (by omega)]
theorem aP.splice{cs xs:List AV}{vs:Array Value}{ws:List Value}{off:Nat}(h:aP S β cs vs.toList)(g:aP S β xs ws)(hle:off+xs.length<=cs.length){us:Array Value}(hs:us.size=vs.size)(hu:∀i,us[i]? = if off<=i/\i<off+ws.length then ws[i-off]? else vs[i]?):aP S β (setCells cs off xs) us.toList:=by
 have hl:=h.length;have hl2:=g.length;refine .of_get (by rw[eH _ _ _ hle];simpa [hs]using hl) fun i c v hc hv=>?_;rw[o5 _ _ _ _ hle]at hc;rw[GJ,hu,hl2]at hv;split at hc
 ·rename_i hcc;rw[FY hcc]at hv;obtain⟨v',h1,h2⟩:=g.get hc;rw[hv]at h1;cases h1;exact h2
 ·rename_i hcc;rw[if_neg hcc]at hv;obtain⟨v',h1,h2⟩:=h.get hc;rw[GJ,hv]at h1;cases h1;exact h2
def eS(S:am)(β:List a7):List (Nat×AV)->List (Nat×Value)->Prop
 |[],ps=>ps=[]
 |(i,a):: r,ps=>∃v ps',ps=(i,v):: ps'/\VR S β a v/\eS S β r ps'
theorem tb{pA:Nat->Option (Nat×Nat)}{pV:Nat->Option (Nat×Nat)}(hp:∀i,pA i=pV i):∀(ps:List (Nat×AV))(qs:List (Nat×Value))(cs:List AV)(vs:Array Value)(r:List AV),
  m9 pA cs ps=some r->eS S β ps qs->aP S β cs vs.toList->∃us:Array Value,Instr.fill pV vs qs=some us/\aP S β r us.toList:=by
 intro ps
 induction ps with
 |nil=>
  intro qs cs vs r h hq hv;simp only[eS]at hq;subst hq;simp only[m9,FU]at h;subst h;exact⟨vs,rfl,hv⟩
 | cons p ps ih=>
  obtain⟨i,a⟩:=p;intro qs cs vs r h hq hv;simp only[eS]at hq;obtain⟨v,qs',rfl,hav,hq'⟩:=hq;simp only[m9]at h;unfold Instr.fill;rw[<- hp i];split at h
  ·simp at h
  ·rename_i off size hpi;rw[hpi];simp only;split at h
   ·rename_i hc;obtain⟨h1,h2,h3⟩:=hav.cells hc.1;have hvs:vs.size=cs.length:=by have:=hv.length;simpa using this
    rw[if_neg (by simp[h1];omega)];obtain⟨g1,g2⟩:=foldl_set v.cells.toList 0 off vs;have hfold:v.cells.zipIdx.foldl (fun cs x=>cs.setIfInBounds (off+x.2) x.1) vs=(v.cells.toList.zipIdx 0).foldl (fun cs x=>cs.setIfInBounds (off+x.2) x.1) vs:=by
     rw[<- Array.foldl_toList];simp
    have hle:off+(ab a).length<=cs.length:=by rw[h3];exact hc.2
    exact ih qs' _ _ r h hq' (hv.splice h2 hle (by rw[hfold];exact g1) (fun i=>by rw[hfold];simpa using g2 (by simp[h1];omega) i))
   ·simp at h
theorem mI(hT:TOK P T):∀(fs:List Field)(r:List (Nat×Nat)),eV T (fs.map fun f=>(f.offset,f.type,decide (f.name≠ "_")))=some r->
  (fs.mapM fun f=>(do pure (f.offset,<- sizeOf f.type):Sem (Nat×Nat))).run P w= .ok r w:=by
 intro fs
 induction fs with
 |nil=>intro r h;simp[eV]at h;subst h;simp
 | cons f fs ih=>
  intro r h;simp only[GL,eV]at h;split at h
  ·rename_i ti r' ht hr;simp only[FU]at h;subst h;obtain⟨ii,_,_,hii,_,_,_,hsz,_⟩:=(hT.get ht).ex;simp only[List.mapM_cons,Sem.run_bind,run_sizeOf hii,Result.andThen_ok,Sem.run_pure,ih r' hr,hsz]
  ·simp at h
theorem mB(hT:TOK P T){t:Nat}{ti:TI}(ht:T t=some ti)(told:Bool){i:TypeInfo}{z:Value}(hi:P.info? t=some i)(hz:i.zero=some z):aP S β (cy told ti) z.cells.toList:=by
 obtain⟨i',d,z',hi',hd,hz',_,_,_,_,_,_,hzz,_⟩:=(hT.get ht).ex;rw[hi]at hi';cases hi';rw[hz]at hz';cases hz';unfold cy;rw[<- hzz];cases told with
 |false=>exact oq S β _
 | true=>
  simp only[FW,List.map_map];generalize z.cells.toList=l
  induction l with
  |nil=>simp[aP]
  | cons v l ih=>
   simp only[GL,aP];refine⟨v,l,rfl,?_,ih⟩;simp only[Function.comp];split
   ·rename_i hv;unfold s5 at hv;split at hv<;>simp at hv;simp[VR]
   ·exact oo S β v
theorem pC(hT:TOK P T){told:Bool}{t:Nat}{parts:List (Nat×AV)}{r:AV}{qs:Array (Nat×Value)}(h:bW T told t parts=some r)(hq:eS S β parts qs.toList):
  mC P w S β (Instr.build t qs) r:=by
 unfold bW at h;split at h
 ·simp at h
 ·rename_i ti ht;obtain⟨i,d,z,hi,hd,hz,_,_,_,hk,_,hof,_⟩:=(hT.get ht).ex;have hzero:=mB (S:=S) (β:=β) hT ht told hi hz;have hzr:(zeroValue t).run P w= .ok z w:=by simp[zeroValue,typeInfo,hi,hz]
  split at h
  ·rename_i hkk;split at h
   ·simp at h
   ·rename_i pl hpl;obtain⟨fs,rfl⟩:∃fs,d= .struct fs:=by cases d<;>simp_all[kindOf]
    rw[G0]at h;obtain⟨cs,hcs,rfl⟩:=h;rw[<- hof]at hpl;have hm:=mI (w:=w) hT fs.toList pl hpl;have hma:(fs.mapM fun f=>(do pure (f.offset,<- sizeOf f.type):Sem (Nat×Nat))).run P w= .ok pl.toArray w:=by
     rw[Ig];simp only[Sem.run_map,hm,Result.andThen_ok]
    obtain⟨us,hus,hur⟩:=tb (pV:=(pl.toArray[·]?)) (fun i=>by simp) parts qs.toList _ z.cells cs hcs hq hzero;refine⟨.agg us,?_,by simp only[VR];exact⟨us.toList,by simp,hur⟩⟩;simp only[Instr.build,Sem.run_bind,hzr,Result.andThen_ok,run_underlying hd,hma,hus,Sem.run_pure]
  ·rename_i n e hkk;split at h
   ·simp at h
   ·rename_i ei hei;obtain⟨ii,_,_,hii,_,_,_,hsz,_⟩:=(hT.get hei).ex;cases d<;>simp only[kindOf,hkk,reduceCtorEq,TK.array.injEq]at hk;obtain⟨rfl,rfl⟩:=hk;rw[G0]at h;obtain⟨cs,hcs,rfl⟩:=h;obtain⟨us,hus,hur⟩:=tb (pV:=fun i=>some (i*ei.size,ei.size)) (fun i=>rfl) parts qs.toList _ z.cells cs hcs hq hzero;refine⟨.agg us,?_,by simp only[VR];exact⟨us.toList,by simp,hur⟩⟩;simp only[Instr.build,Sem.run_bind,hzr,Result.andThen_ok,run_underlying hd,run_sizeOf hii,hsz,hus,Sem.run_pure]
  ·simp at h
end
end Go.Av
namespace Go.Av
section
variable {P:Program} {T:TT} {w:World} {S:am} {β:List a7}
def eC(S:am)(β:List a7)(es:List AV)(c:Array Value)(sz:Nat):Prop:=
 ∀(i:Nat)(e:AV),es[i]? = some e->∃v,VR S β e v/\v.cells.size=sz/\∀(j:Nat)(x:Value),v.cells[j]? = some x->c[i*sz+j]? = some x
theorem eC.at{es:List AV}{c:Array Value}{sz b:Nat}{S':am}(h:eC S β es c sz)(hS:S.le S')(hc:∀(o:Nat)(x:Value),c[o]? = some x->S' b o=some x):bi S' β es b 0 sz:=by
 refine .of_get fun i e he=>?_;obtain⟨v,h1,h2,h3⟩:=h i e he;refine⟨v,h1.mono hS (dm.refl β),h2,fun j x hx=>?_⟩;rw[GP];exact hc _ _ (h3 j x (by simpa using hx))
theorem mO(hT:TOK P T){t:Nat}{ti:TI}(ht:T t=some ti){i:TypeInfo}{z:Value}(hi:P.info? t=some i)(hz:i.zero=some z):VR S β (gI ti) z/\z.cells.size=ti.size:=by
 obtain⟨i',d,z',hi',hd,hz',hzs,hsz,_,_,_,_,hzz,_,hag,hna⟩:=(hT.get ht).ex;rw[hi]at hi';cases hi';rw[hz]at hz';cases hz';refine⟨?_,by omega⟩;unfold gI;cases ha:ti.agg with
 |true=>
  obtain⟨cs,rfl⟩:=hag ha;simp only[FW,VR];refine⟨cs.toList,by simp,?_⟩;rw[<- hzz];exact oq S β _
 |false=>
  have hc:z.cells= #[z]:=by cases z<;>first|rfl|exact absurd rfl (hna ha _)
  rw[hc]at hzz;simp only[F0,<- hzz];exact oo S β z
theorem qS(hT:TOK P T){t:Nat}{ti:TI}(ht:T t=some ti){i:TypeInfo}{z:Value}(hi:P.info? t=some i)(hz:i.zero=some z)(n:Nat)(zero:Array Value)(h0:n*ti.size≠0->zero=z.cells):
  eC S β (List.replicate n (gI ti)) ((Array.range (n*ti.size)).map (zero[· % zero.size]!)) ti.size:=by
 obtain⟨h1,h2⟩:=mO (S:=S) (β:=β) hT ht hi hz;intro k e he;rw[List.getElem?_replicate]at he;split at he
 ·rename_i hk;simp only[FU]at he;subst he;refine⟨z,h1,h2,fun j x hx=>?_⟩;have hj:j<ti.size:=by
   rcases Gd j z.cells.size with h|h
   ·omega
   ·rw[Gz h]at hx;simp at hx
  have hle:k*ti.size+j<n*ti.size:=by
   have:(k+1)*ti.size<=n*ti.size:=Gc _ hk;rw[Gy]at this;omega
  have hzero:=h0 (by omega);subst hzero;have hmod:(k*ti.size+j) % z.cells.size=j:=by
   rw[h2,Nat.add_comm,Nat.add_mul_mod_self_right];exact Nat.mod_eq_of_lt hj
  simp only[Array.getElem?_map,Array.getElem?_range,hle,Gm,Ha,hmod];rw[getElem!_def,hx]
 ·simp at he
theorem rX{sz:Nat}:∀(ps:List (Nat×AV))(qs:List (Nat×Value))(es r:List AV)(c:Array Value),iH sz es ps=some r->eS S β ps qs->eC S β es c sz->c.size=es.length*sz->
  ∃us:Array Value,Instr.fill (fun i=>some (i*sz,sz)) c qs=some us/\eC S β r us sz/\us.size=c.size/\r.length=es.length:=by
 intro ps
 induction ps with
 |nil=>
  intro qs es r c h hq hr hc;simp only[eS]at hq;subst hq;simp only[iH,FU]at h;subst h;exact⟨c,rfl,hr,rfl,rfl⟩
 | cons p ps ih=>
  obtain⟨i,a⟩:=p;intro qs es r c h hq hr hc;simp only[eS]at hq;obtain⟨v,qs',rfl,hav,hq'⟩:=hq;simp only[iH]at h;split at h
  ·rename_i hcond;obtain⟨h1,h2,h3⟩:=hav.cells hcond.1;have hle:(i+1)*sz<=es.length*sz:=Gc _ hcond.2;rw[Gy]at hle;unfold Instr.fill;simp only;rw[if_neg (by simp[h1];omega)];have hfold:v.cells.zipIdx.foldl (fun cs x=>cs.setIfInBounds (i*sz+x.2) x.1) c=(v.cells.toList.zipIdx 0).foldl (fun cs x=>cs.setIfInBounds (i*sz+x.2) x.1) c:=by
    rw[<- Array.foldl_toList];simp
   obtain⟨g1,g2⟩:=foldl_set v.cells.toList 0 (i*sz) c;rw[<- hfold]at g1 g2;have g2:=g2 (by simp[h1];omega);generalize v.cells.zipIdx.foldl (fun cs x=>cs.setIfInBounds (i*sz+x.2) x.1) c=c' at g1 g2 |-;obtain⟨us,h4,h5,h6,h7⟩:=ih qs' (es.set i a) r c' h hq' (by
    intro k e he;rw[G8]at he;split at he
    ·rename_i hik;subst hik;split at he
     ·simp only[FU]at he;subst he;refine⟨v,hav,h1,fun j x hx=>?_⟩;have hj:j<sz:=by
       rcases Gd j v.cells.size with h|h
       ·omega
       ·rw[Gz h]at hx;simp at hx
      rw[g2,FY (by simp[h1];omega)];simpa using hx
     ·simp at he
    ·rename_i hik;obtain⟨u,hu1,hu2,hu3⟩:=hr k e he;refine⟨u,hu1,hu2,fun j x hx=>?_⟩;have hj:j<sz:=by
      rcases Gd j u.cells.size with h|h
      ·omega
      ·rw[Gz h]at hx;simp at hx
     rw[g2,if_neg]
     ·exact hu3 j x hx
     ·simp only[GD,h1,GX];rintro⟨ha,hb⟩;rcases Gd k i with hlt|hge
      ·have:(k+1)*sz<=i*sz:=Gc _ hlt;rw[Gy]at this;omega
      ·have:(i+1)*sz<=k*sz:=Gc _ (by omega);rw[Gy]at this;omega) (by rw[g1,hc];simp)
   exact⟨us,h4,h5,by rw[h6,g1],by rw[h7];simp⟩
  ·simp at h
theorem mF(hT:TOK P T){t n:Nat}{parts:List (Nat×AV)}{r:AV}{qs:Array (Nat×Value)}(h:bp T t n parts=some r)(hq:eS S β parts qs.toList):
  ∃(es:List AV)(c:Array Value)(e sz:Nat),r= .sl es/\es.length=n/\eC S β es c sz/\
   (Instr.buildSlice t n qs).run P w= .ok (.slice (some ⟨w.heap.size,0,none⟩) n n) (w.alloc (.cells c e)):=by
 unfold bp at h;split at h
 ·simp at h
 ·rename_i ti ht;obtain⟨i,d,z,hi,hd,hz,_,_,_,hk,_,hof,_⟩:=(hT.get ht).ex;split at h
  ·rename_i e hkk;have hd':d= .slice e:=by cases d<;>simp_all[kindOf]
   subst hd';split at h
   ·simp at h
   ·rename_i ei hei;obtain⟨ii,_,zz,hii,_,hzz,hzs,hsz,_⟩:=(hT.get hei).ex;split at h
    ·rename_i hc;rw[G0]at h;obtain⟨es,hes,rfl⟩:=h;have hzr:(zeroValue e).run P w= .ok zz w:=by simp[zeroValue,typeInfo,hii,hzz]
     have hrow:=qS (S:=S) (β:=β) hT hei hii hzz n (if n*ii.size=0 then #[]else zz.cells) (fun hne=>by rw[hsz,if_neg hne]);obtain⟨us,h1,h2,h3,h4⟩:=rX parts qs.toList _ es _ hes hq hrow (by simp);refine⟨es,us,e,ei.size,rfl,by simpa using h4,h2,?_⟩;have hbig:¬(n*ii.size>2 ^ 24):=by rw[hsz];have:=hc.1;omega
     simp only[Instr.buildSlice,Sem.run_bind,run_underlying hd,Result.andThen_ok,run_sizeOf hii,hbig,Gl];rw[hsz]at h1 |-;by_cases hz0:n*ei.size=0
     ·rw[FY hz0]at h1 |-;simp only[Sem.run_bind,Sem.run_pure,Result.andThen_ok,h1,newRow,run_newObj,World.alloc_eq]
     ·rw[if_neg hz0]at h1 |-;simp only[Sem.run_bind,hzr,Sem.run_pure,Result.andThen_ok,h1,newRow,run_newObj,World.alloc_eq]
    ·simp at h
  ·simp at h
theorem oN(hT:TOK P T){t:Nat}{an ac r:AV}{vn vc:Value}(h:iu T t an ac=some r)(hn:VR S β an vn)(hc:VR S β ac vc):
  ∃(es:List AV)(c:Array Value)(e sz cap:Nat),r= .sl es/\bV T t=some sz/\es.length<=cap/\c.size=cap*sz/\eC S β es c sz/\
   (Instr.makeSlice t vn vc).run P w= .ok (.slice (some ⟨w.heap.size,0,none⟩) es.length cap) (w.alloc (.cells c e)):=by cases h
theorem ej{sz:Nat}{a:AV}{v:Value}(h:bq sz a=true)(hv:VR S β a v):v.cells.size=sz/\aP S β (ab a) v.cells.toList/\∀x∈v.cells.toList,x.oneCell'=true:=by
 unfold bq at h;rw[FV]at h;obtain⟨h1,h2⟩:=h;have h1:bS a=some sz:=by simpa using h1
 obtain⟨g1,g2,_⟩:=hv.cells h1;refine⟨g1,g2,fun x hx=>?_⟩;rw[F9]at h2;obtain⟨i,hi⟩:=HU hx;have hlt:i<(ab a).length:=by
  rw[<- g2.length];rcases Gd i v.cells.toList.length with h|h
  ·exact h
  ·rw[F8 h]at hi;simp at hi
 obtain⟨y,hy,hyr⟩:=g2.get (Gf hlt);rw[hi]at hy;cases hy
 have:=h2 _ (Gs hlt)
 cases hc:(ab a)[i]<;>rw[hc]at this hyr<;>simp[be]at this<;>simp only[VR]at hyr
 case bool=>subst hyr;rfl
 case int=>subst hyr;rfl
 case nilp=>subst hyr;rfl
 case nilf=>subst hyr;rfl
 case nili=>subst hyr;rfl
 case hn=>subst hyr;rfl
 case str=>obtain⟨_,rfl,_⟩:=hyr;rfl
 case sl=>obtain⟨_,_,rfl,_⟩:=hyr;rfl
 case ip=>obtain⟨_,_,_,rfl,_⟩:=hyr;rfl
 case hp=>obtain⟨_,_,_,rfl⟩:=hyr;rfl
 case hs=>rcases hyr with⟨_,_,_,_,rfl,_⟩|⟨_,_,rfl⟩<;>rfl
 case fn=>obtain⟨_,_,rfl,_⟩:=hyr;rfl
 case iface=>obtain⟨_,rfl,_⟩:=hyr;rfl
 case mp=>obtain⟨_,_,_,rfl⟩:=hyr;rfl
 case nilm=>subst hyr;rfl
def cb(S:am)(β:List a7)(es:List AV)(cs:List Value)(sz:Nat):Prop:=cs.length=es.length*sz/\eC S β es cs.toArray sz/\∀x∈cs,x.oneCell'=true
theorem cb.nil(sz:Nat):cb S β [] [] sz:=⟨by simp,fun i e h=>by simp at h,fun x h=>by simp at h⟩
theorem j0{sz:Nat}:∀ {es:List AV} {b off sz':Nat},bi S β es b off sz'->cJ sz es=true->∃cs:List Value,cb S β es cs sz/\c6 S b off cs
 |[],b,off,_,_,_=>⟨[],.nil sz,fun j v h=>by simp at h⟩
 | e :: es,b,off,sz',h,hok=>by
  simp only[bi]at h;simp only[cJ,GR,FV]at hok;obtain⟨⟨v,hv,hs,hc⟩,hes⟩:=h;obtain⟨h1,h2,h3⟩:=ej hok.1 hv;have:sz'=sz:=by omega
  subst this;obtain⟨cs,⟨g1,g2,g3⟩,g4⟩:=j0 hes hok.2;refine⟨v.cells.toList++cs,⟨by simp[g1,hs,Gy];omega,?_,?_⟩,?_⟩
  ·intro i x hx;cases i with
   | zero=>
    simp only[Ga,FU]at hx;subst hx;refine⟨v,hv,hs,fun j y hy=>?_⟩;have hj:j<v.cells.size:=by
     rcases Gd j v.cells.size with h|h
     ·exact h
     ·rw[Gz h]at hy;simp at hy
    simp only[HC,GP,GQ];rw[Gb (by simpa using hj)];simpa using hy
   |succ i=>
    simp only[Gx]at hx;obtain⟨u,u1,u2,u3⟩:=g2 i x hx;refine⟨u,u1,u2,fun j y hy=>?_⟩
    have:=u3 j y hy
    simp only[GQ]at this |-;rw[Gj (by simp[hs,Gy];omega)];rw[show (i+1)*sz'+j-v.cells.toList.length=i*sz'+j by simp[hs,Gy];omega];exact this
  ·intro x hx;rcases Gt.1 hx with hx|hx
   ·exact h3 x hx
   ·exact g3 x hx
  ·intro j y hy;rcases Gd j v.cells.toList.length with hlt|hge
   ·rw[Gb hlt]at hy;exact hc j y hy
   ·rw[Gj hge]at hy
    have:=g4 _ _ hy
    rwa [show off+sz'+(j-v.cells.toList.length)=off+j by simp[hs]at hge |-;omega]at this
theorem cb.append{es fs:List AV}{cs ds:List Value}{sz:Nat}(h:cb S β es cs sz)(g:cb S β fs ds sz):cb S β (es++fs) (cs++ds) sz:=by
 obtain⟨h1,h2,h3⟩:=h;obtain⟨g1,g2,g3⟩:=g;refine⟨by simp[h1,g1,Gy],fun i x hx=>?_,fun x hx=>?_⟩
 ·rcases Gd i es.length with hlt|hge
  ·rw[Gb hlt]at hx;obtain⟨v,v1,v2,v3⟩:=h2 i x hx;refine⟨v,v1,v2,fun j y hy=>?_⟩
   have:=v3 j y hy
   simp only[GQ]at this |-;rw[Gb]
   ·exact this
   ·rcases Gd (i*sz+j) cs.length with h|h
    ·exact h
    ·rw[F8 h]at this;simp at this
  ·rw[Gj hge]at hx;obtain⟨v,v1,v2,v3⟩:=g2 _ x hx;refine⟨v,v1,v2,fun j y hy=>?_⟩
   have:=v3 j y hy
   simp only[GQ]at this |-;have hm:es.length*sz<=i*sz:=Gc _ hge;rw[Gj (by omega),h1];rw[HZ]at this
   rwa [show i*sz+j-es.length*sz=i*sz-es.length*sz+j by omega]
 ·rcases Gt.1 hx with hx|hx
  ·exact h3 x hx
  ·exact g3 x hx
theorem eC.mono_row{es:List AV}{c d:Array Value}{sz:Nat}(h:eC S β es c sz)(hcd:∀(o:Nat)(x:Value),c[o]? = some x->d[o]? = some x):eC S β es d sz:=
 fun i e he=>let ⟨v,h1,h2,h3⟩:=h i e he;⟨v,h1,h2,fun j x hx=>hcd _ _ (h3 j x hx)⟩
theorem src_ok{a:AV}{v:Value}{es:List AV}{sz:Nat}(_hw:Wf S w)(h:g7 a=some es)(hv:VR S β a v)(hok:cJ sz es=true)(hs:∀s,a= .str s->sz=1):
  (Builtin.lenOf v).run P w= .ok es.length w/\∃cs:List Value,cb S β es cs sz/\∀(w':World),(∀(b o:Nat)(x:Value),S b o=some x->w'.cell? ⟨b,o,none⟩=some x)->(Builtin.firstCells sz es.length v).run P w'= .ok cs.toArray w':=by
 unfold g7 at h;split at h
 ·rename_i es0;simp only[FU]at h;subst h;simp only[VR]at hv;obtain⟨ad,cap,rfl,hc,hn,hsm⟩:=hv;refine⟨rfl,?_⟩;cases ad with
  |none=>
   have:=hn rfl
   have he:es0=[]:=Gi (by omega);subst he;exact⟨[],.nil sz,fun w' _=>by simp[Builtin.firstCells]⟩
  | some q=>
   obtain⟨h1,sz',hel⟩:=hsm q rfl;obtain⟨cs,g1,g2⟩:=j0 hel hok;refine⟨cs,g1,fun w' hw'=>?_⟩;refine run_firstCells_some w' sz es0.length q es0.length cap cs g1.1 fun j x hx=>?_;have h0:0<cap:=by
    rcases GF cap with h|h
    ·have hl:es0.length=0:=by omega
     have hc0:=g1.1;rw[hl,HC]at hc0;rw[F8 (by omega)]at hx;cases hx
    ·exact h
   have hq:q=⟨q.block,q.off,none⟩:=by
    have:=h1 h0
    cases q;simp_all
   rw[hq,addr_add];exact hw' _ _ _ (g2 j x hx)
 ·simp only[FU]at h;subst h;simp only[VR]at hv;subst hv;exact⟨rfl,[],.nil sz,fun w' _=>by simp[Builtin.firstCells]⟩
 ·simp only[FU]at h;subst h;simp only[VR]at hv;rcases hv with⟨_,cap,_,_,rfl,_⟩|⟨_,_,rfl⟩
  ·exact⟨rfl,[],.nil sz,fun w' _=>run_firstCells_some w' sz 0 _ 0 cap [] (by simp) fun j x hx=>by simp at hx⟩
  ·exact⟨rfl,[],.nil sz,fun w' _=>run_firstCells_some w' sz 0 _ 0 0 [] (by simp) fun j x hx=>by simp at hx⟩
 ·rename_i s;simp only[FU]at h;subst h
  have:=hs s rfl
  subst this;simp only[VR]at hv;obtain⟨y,rfl,hy⟩:=hv;have hsz:y.size=s.length:=by rw[<- hy,GD];rfl
  refine⟨by simp[Builtin.lenOf,hsz],s.map fun b=>.int .u8 b.toNat,⟨by simp,?_,by simp[Value.oneCell']⟩,fun w' _=>?_⟩
  ·intro i e he;rw[GW]at he;cases hb:s[i]? with
   |none=>rw[hb]at he;simp at he
   | some b=>
    rw[hb]at he;simp only[Ha,FU]at he;subst he;refine⟨.int .u8 b.toNat,by simp[VR],rfl,fun j x hx=>?_⟩;simp only[Value.cells]at hx;have:j=0:=by
     rcases GF j with h|h
     ·exact h
     ·rw[Gz (by simp;omega)]at hx;simp at hx
    subst this;simp at hx;simp[hb,hx]
  ·have hx:(Array.map (fun b:UInt8=>Value.int IntKind.u8 (b.toNat:Int)) (y.extract 0 (s.map fun b=>AV.int IntKind.u8 (b.toNat:Int)).length).data)=(s.map fun b=>Value.int .u8 b.toNat).toArray:=by
    apply Hl;rw[Array.toList_map,extract_toList,hy];simp
   simp only[Builtin.firstCells,Sem.run_pure,hx]
 ·simp at h
end
end Go.Av
namespace Go.Av
section
variable {P:Program} {T:TT} {w:World} {S:am} {β:List a7}
def Row(w:World)(b:Nat)(c:Array Value):Prop:=∃e:TypeId,w.heap[b]? = some (.cells c e (0,0))
theorem Row.cell{b:Nat}{c:Array Value}(h:Row w b c)(o:Nat):w.cell? ⟨b,o,none⟩=c[o]?:=by
 obtain⟨e,h⟩:=h;exact cell_of_row w b o c e _ h
def kN(w:World)(sz:Nat)(v:Value):Prop:=
 ∃a len cap,v= .slice a len cap/\len<=cap/\(a=none->cap=0)/\(len=cap\/∃b off c,a=some ⟨b,off,none⟩/\Row w b c/\off+cap*sz<=c.size)
inductive Appended (S:am) (β:List a7) (w:World) (sz:Nat) (as bs:List AV) (vx:Value):Value->World->Prop where
 |same (h:bs=[]):Appended S β w sz as bs vx vx w
 | place (b off cap:Nat) (c:Array Value) (cs:List Value) (hv:vx= .slice (some ⟨b,off,none⟩) as.length cap) (hr:Row w b c) (hlt:as.length+bs.length<=cap) (hc:off+cap*sz<=c.size) (hb:bs≠[]) (hf:cb S β bs cs sz):
   Appended S β w sz as bs vx (.slice (some ⟨b,off,none⟩) (as.length+bs.length) cap)
    (w.setRow b (c.toList.take (off+as.length*sz)++cs++c.toList.drop (off+as.length*sz+cs.length)).toArray)
 | fresh (c:Array Value) (e cap:Nat) (hlt:as.length+bs.length<=cap) (hc:c.size=cap*sz) (hr:eC S β (as++bs) c sz) (hb:bs≠[]):
   Appended S β w sz as bs vx (.slice (some ⟨w.heap.size,0,none⟩) (as.length+bs.length) cap) (w.drew.alloc (.cells c e))
theorem ru(hT:TOK P T)(hw:Wf S w){t u e ty:Nat}{ti ei:TI}{as bs:List AV}{vx vy:Value}(ht:T t=some ti)(hk:ti.kind= .slice e)(hei:T e=some ei)(hu:eF T u=true)(hx:VR S β (.sl as) vx)(hlen:(Builtin.lenOf vy).run P w= .ok bs.length w){cs:List Value}(hflat:cb S β bs cs ei.size)(hfirst:∀w':World,(∀a:Addr,w'.cell? a=w.cell? a)->(Builtin.firstCells ei.size bs.length vy).run P w'= .ok cs.toArray w')(hoa:cJ ei.size as=true)(hby:(as.length+bs.length)*ei.bytes<=140737488355328)(hb0:0<ei.bytes)(hroom:kN w ei.size vx):
  ∃v w',(Builtin.append_ #[t,u] ty #[vx,vy]).run P w= .ok v w'/\Appended S β w ei.size as bs vx v w':=by
 obtain⟨_,d,_,_,hd,_,_,_,_,hkd,_⟩:=(hT.get ht).ex;have hd':d= .slice e:=by cases d<;>simp_all[kindOf]
 subst hd';obtain⟨ii,_,zz,hii,_,hzz,hzs,hsz,hbb,_⟩:=(hT.get hei).ex;have hz:∃du,P.underlying u=some du/\((∃e',du= .slice e')\/du= .string):=by
  unfold eF at hu;split at hu
  ·rename_i tu htu;obtain⟨_,du,_,_,hdu,_,_,_,_,hku,_⟩:=(hT.get htu).ex;refine⟨du,hdu,?_⟩;split at hu
   ·rename_i e' hk';exact .inl ⟨e',by cases du<;>simp_all[kindOf]⟩
   ·exact .inr (by cases du<;>simp_all[kindOf])
   ·simp at hu
  ·simp at hu
 obtain⟨du,hdu,hduk⟩:=hz;obtain⟨a,len,cap,rfl,hlc,hnone,hspare⟩:=hroom;have hx0:=hx;simp only[VR]at hx;obtain⟨a',cap',he,_,_,hsome⟩:=hx;simp only[Value.slice.injEq]at he;obtain⟨rfl,rfl,rfl⟩:=he;by_cases hfit:as.length+bs.length<=cap
 ·-- in place
  by_cases hnil:bs=[]
  ·subst hnil;refine⟨.slice a as.length cap,w,?_,.same rfl⟩;have hcs:cs=[]:=Gi (by have:=hflat.1;simpa using this);subst hcs;have hf:(Builtin.firstCells ei.size 0 vy).run P w= .ok #[] w:=by simpa using hfirst w (fun _=>rfl)
   rcases hduk with⟨e',rfl⟩|rfl<;>cases a <;>
    simp[Builtin.append_,run_underlying hd,run_underlying hdu,sizeOf,typeInfo,hii,hsz,hlen,hlc,hf,storeCells]
  ·have hpos:0<bs.length:=Hv.2 hnil;rcases hspare with hsp|⟨b,off,c,rfl,⟨ce,hrow⟩,hcap⟩
   ·omega
   ·refine⟨_,_,?_,.place b off cap c cs rfl ⟨ce,hrow⟩ hfit hcap hnil hflat⟩;have hf:=hfirst w (fun _=>rfl);have hl:=hflat.1;have hle:(as.length+bs.length)*ei.size<=cap*ei.size:=Gc _ hfit;rw[Gy]at hle;have hst:=run_storeCells_at P b (off+as.length*ei.size) ce cs 0 c w hrow (by omega) hflat.2.2;simp only[GX]at hst;rcases hduk with⟨e',rfl⟩|rfl <;>
     simp[Builtin.append_,run_underlying hd,run_underlying hdu,sizeOf,typeInfo,hii,hsz,hlen,hfit,hf,addr_add,hst]
 ·-- a new row
  have hne:bs≠[]:=by rintro rfl;simp at hfit;omega
  have hgt:cap<as.length+bs.length:=by omega
  have h63:¬(9223372036854775807<((as.length:Int)+(bs.length:Int))):=by
   have:=He (Im (as.length+bs.length) hb0) hby
   omega
  have hfit48:=growslice_fits hgt hby;have h48:¬(281474976710656<Builtin.nextslicecap (as.length+bs.length) cap*ei.bytes):=by omega
  have hb0':ei.bytes≠0:=by omega
  -- the old cells
  have hold:∃os:List Value,cb S β as os ei.size/\(Builtin.firstCells ei.size as.length (.slice a as.length cap)).run P w.drew= .ok os.toArray w.drew:=by
   obtain⟨_,os,h1,h2⟩:=src_ok (P:=P) (es:=as) (sz:=ei.size) hw (a:=.sl as) rfl hx0 hoa (fun s h=>by cases h);exact⟨os,h1,h2 w.drew (fun b o x hx=>by simpa using hw b o x hx)⟩
  obtain⟨os,hos,hof⟩:=hold;have hf:=hfirst w.drew (fun a=>by simp);have hall:=hos.append hflat;have hcapn:as.length+bs.length<=grownCap w (as.length+bs.length) cap e:=by
   exact Nat.le_add_right _ _
  have hzcs:(Builtin.zeroCells zz.cells (grownCap w (as.length+bs.length) cap e-(as.length+bs.length))).size=(grownCap w (as.length+bs.length) cap e-(as.length+bs.length))*ei.size:=by
   rw[size_zeroCells,hzs,hsz]
  refine⟨_,_,?_,.fresh ((os++cs).toArray++Builtin.zeroCells zz.cells (grownCap w (as.length+bs.length) cap e-(as.length+bs.length))) e (grownCap w (as.length+bs.length) cap e) hcapn ?_ ?_ hne⟩
  ·rcases hduk with⟨e',rfl⟩|rfl <;>
    (simp[Builtin.append_,run_underlying hd,run_underlying hdu,sizeOf,typeInfo,zeroValue,hii,hsz,hzz,hlen,hfit,hbb,h48,hb0',Question.forced,hf,hof,newRow,grownCap]
     congr 2;apply Hl;simp)
  ·rw[Array.size_append,hzcs]
   have:=hall.1
   simp only[List.size_toArray,this,Gh];rw[<- Gy];congr 1;omega
  ·exact hall.2.1.mono_row fun o x hx=>by
    rw[Array.getElem?_append];split
    ·exact hx
    ·rename_i hlt;rw[Gz (by omega)]at hx;simp at hx
end
end Go.Av
namespace Go.Av
inductive Owner where
 |no
 |heap (l:Nat)
 |loc (B:Nat)
 |grp (g:Nat)
class Dr where
 on:Prop
variable [Dr]
structure Gro (w w':World):Prop where
 size:w.heap.size<=w'.heap.size
 os:w'.os=w.os
 out:w'.output=w.output
 tape:w'.tape=w.tape
 cnt:Dr.on->w.drawn<=w'.drawn
theorem Gro.refl(w:World):Gro w w:=⟨FZ _,rfl,rfl,rfl,fun _=>FZ _⟩
theorem Gro.trans{a b c:World}(h:Gro a b)(g:Gro b c):Gro a c:=
 ⟨He h.size g.size,g.os.trans h.os,g.out.trans h.out,g.tape.trans h.tape,fun d=>He (h.cnt d) (g.cnt d)⟩
theorem Gro.drew(w:World):Gro w w.drew:=⟨FZ _,rfl,rfl,rfl,fun _=>by simp⟩
theorem Gro.alloc(w:World)(c:Array Value)(t:TypeId):Gro w (w.alloc (.cells c t)):=
 ⟨by simp,rfl,rfl,rfl,fun _=>by simp⟩
def Ck(S:am):Prop:=∀g cs,tk g=some cs->∃vs,aP S [] cs vs/\c6 S g 0 vs
omit [Dr]in
theorem Ck.mono{S S':am}(h:Ck S)(hl:S.le S'):Ck S':=fun g cs hg=>by
 obtain⟨vs,h1,h2⟩:=h g cs hg;exact⟨vs,aP.mono hl (dm.refl []) _ _ h1,h2.mono hl⟩
structure Entry where
 w:World
 S:am
 β:List a7
 E:Nat->Prop
 gok:GOKw w/\(∀b,b<gN->¬E b)/\Ck S
def dA(S:am)(β:List a7)(lam:Nat->Option Nat):SV->Value->Prop
 |.val a,v=>VR S β a v
 |.loc B off,v=>∃b,lam B=some b/\v= .pointer (some ⟨b,off,none⟩)
def jK(S:am)(w:World)(ω:Nat->Owner)(g:Nat)(z:Option Nat)(v:Value):Prop:=
 ∃a len cap,v= .slice a len cap/\len<=cap/\(a=none->cap=0)/\(len=cap\/∃sz b off x,z=some sz/\a=some ⟨b,off,none⟩/\Row w b x/\off+cap*sz<=x.size/\
  ω b= .grp g/\∀o,off+len*sz<=o->S b o=none)
omit [Dr]in
theorem oP{x:AV}{cs xs:List AV}{off:Nat}(h:x∈setCells cs off xs):x∈cs\/x∈xs:=by
 unfold setCells at h;simp only[Gt]at h;rcases h with(h|h)|h
 ·exact .inl (Hr h)
 ·exact .inr h
 ·exact .inl (List.mem_of_mem_drop h)
def cd(t:Nat)(cs:List AV):Prop:=∃a,a∈cs/\ra a=some t
omit [Dr]in
theorem cd.mono{t:Nat}{cs ds:List AV}(h:cd t cs)(g:∀a,a∈cs->a∈ds):cd t ds:=by
 obtain⟨a,h1,h2⟩:=h;exact⟨a,g a h1,h2⟩
omit [Dr]in
theorem cd.append{t:Nat}{cs ds:List AV}(h:cd t (cs++ds)):cd t cs\/cd t ds:=by
 obtain⟨a,h1,h2⟩:=h;rcases Gt.1 h1 with h1|h1
 ·exact .inl ⟨a,h1,h2⟩
 ·exact .inr ⟨a,h1,h2⟩
omit [Dr]in
theorem cd.cons{t:Nat}{c:AV}{ds:List AV}(h:cd t (c:: ds)):ra c=some t\/cd t ds:=by
 obtain⟨a,h1,h2⟩:=h;rcases Gp.1 h1 with rfl|h1
 ·exact .inl h2
 ·exact .inr ⟨a,h1,h2⟩
omit [Dr]in
theorem cd.setCells{t:Nat}{cs xs:List AV}{off:Nat}(h:cd t (Av.setCells cs off xs)):cd t cs\/cd t xs:=by
 obtain⟨a,h1,h2⟩:=h;rcases oP h1 with h1|h1
 ·exact .inl ⟨a,h1,h2⟩
 ·exact .inr ⟨a,h1,h2⟩
omit [Dr]in
theorem jv{cs:List AV}(h:cs.all be=true)(t:Nat):¬cd t cs:=fun⟨a,h1,h2⟩=>by
 have:=F9.1 h a h1
 cases a<;>simp[ra]at h2<;>simp[be]at this
omit [Dr]in
theorem qE{sz:Nat}{e:AV}(h:bq sz e=true)(t:Nat):¬cd t (ab e):=by
 unfold bq at h;rw[FV]at h;exact jv h.2 t
omit [Dr]in
theorem gB{sz:Nat}{es:List AV}(h:cJ sz es=true)(t:Nat):¬cd t (es.flatMap ab):=fun⟨a,h1,h2⟩=>by
 rw[List.mem_flatMap]at h1;obtain⟨e,he,hh⟩:=h1;exact qE (F9.1 h e he) t ⟨a,hh,h2⟩
omit [Dr]in
theorem y3{cs:List AV}(h:cs.any lM=false)(t:Nat):¬cd t cs:=fun⟨a,h1,h2⟩=>by
 rw[List.any_eq_false]at h;exact h a h1 (by simp[lM,h2])
def fa(S:am)(β:List a7)(es:List AV)(ents:List MapEntry):Prop:=
 es.length=ents.length/\∀(i:Nat)(e:AV)(x:MapEntry),es[i]? = some e->ents[i]? = some x->∃k v,e= .tup [k,v]/\VR S β k x.key/\VR S β v x.val
def kO(ents:List MapEntry)(clock:Nat):Prop:=(∀x∈ents,x.born<clock)/\ents.Pairwise fun x y=>x.born≠y.born
def MapAt(S:am)(β:List a7)(w:World)(b:Nat)(es:List AV):Prop:=
 ∃ents clock,w.heap[b]? = some (.map ents clock)/\fa S β es ents.toList/\kO ents.toList clock
def kE(ents:List MapEntry)(seen:Array Nat):List Nat:=
 (List.range ents.length).filter fun i=>match ents[i]? with
  |some x=>!seen.contains x.born
  |none=>false
def Ae(β:List a7)(w:World)(h:Hp)(b:Nat)(cs:List AV):Prop:=
 (∃l n ps b' since seen last cur,cs=[.tup [],.mp l,.int .i64 (n:Nat),Dw ps,cur]/\β[l]? = some (b',0)/\since<=last/\w.heap[b]? = some (.mapIter (some b') since seen last)/\
  (cur= .any\/∃c:Nat,cur= .int .i64 (c:Nat))/\
  ∀es,h[l]? = some [.tup es]->n<=es.length/\(es.length=n->∃ents clock,w.heap[b']? = some (.map ents clock)/\(∀x∈ents.toList,x.born<since)/\ps=kE ents.toList seen/\last=clock/\
   ∀c:Nat,cur= .int .i64 (c:Nat)->∃x,ents.toList[c]? = some x/\seen.back? = some x.born))\/
 (cs=[.tup [],.nilm]/\∃since seen last,w.heap[b]? = some (.mapIter none since seen last))
def oi(S:am)(β:List a7)(w:World)(h:Hp)(b:Nat)(cs:List AV):Prop:=(∃es,cs=[.tup es]/\MapAt S β w b es)\/Ae β w h b cs
def Ah(w:World)(b:Nat)(cs:List AV):Prop:=∀t,cd t cs->∃y,w.heap[b]? = some (.cells y t (0,0))
def dH(S:am)(β:List a7)(w:World)(ω:Nat->Owner)(h:Hp):Prop:=
 ∀l cs,h[l]? = some cs->cs≠[]->(∃b x,β[l]? = some (b,x.size)/\Row w b x/\ω b= .heap l/\aP S β cs (x.toList.take cs.length)/\(∀o,S b o=none)/\Ah w b cs)\/
  (∃b,β[l]? = some (b,0)/\ω b= .heap l/\(∀o,S b o=none)/\oi S β w h b cs)
omit [Dr]in
theorem fa.mono{S S':am}{β β':List a7}(hS:S.le S')(hβ:dm β β'){es:List AV}{ents:List MapEntry}(h:fa S β es ents):fa S' β' es ents:=
 ⟨h.1,fun i e x he hx=>by
  obtain⟨k,v,h1,h2,h3⟩:=h.2 i e x he hx;exact⟨k,v,h1,VR.mono hS hβ _ _ h2,VR.mono hS hβ _ _ h3⟩⟩
omit [Dr]in
theorem oi.lt{S:am}{β:List a7}{w:World}{h:Hp}{b:Nat}{cs:List AV}(H:oi S β w h b cs):b<w.heap.size:=by
 rcases H with⟨es,_,ents,clock,h1,_⟩|⟨_,_,_,_,_,_,_,_,_,_,_,h1,_⟩|⟨_,_,_,_,h1⟩<;>exact (GC.1 h1).1
omit [Dr]in
theorem oi.keep{S S':am}{β β':List a7}{w w':World}{h h':Hp}{b:Nat}{cs:List AV}(H:oi S β w h b cs)(hS:S.le S')(hβ:dm β β')(hb:w'.heap[b]? = w.heap[b]?)(hm:∀(l b':Nat)(es:List AV),β[l]? = some (b',0)->h'[l]? = some [.tup es]->h[l]? = some [.tup es]/\w'.heap[b']? = w.heap[b']?):oi S' β' w' h' b cs:=by
 rcases H with⟨es,h1,ents,clock,h2,h3,h4⟩|⟨l,n,ps,b',since,seen,last,cur,h1,h2,h3,h4,hcu,h5⟩|⟨h1,since,seen,last,h2⟩
 ·exact .inl ⟨es,h1,ents,clock,hb.trans h2,h3.mono hS hβ,h4⟩
 ·refine .inr (.inl ⟨l,n,ps,b',since,seen,last,cur,h1,hβ _ _ h2,h3,hb.trans h4,hcu,fun es he=>?_⟩);obtain⟨g1,g2⟩:=hm l b' es h2 he;obtain⟨k1,k2⟩:=h5 es g1;refine⟨k1,fun hn=>?_⟩;obtain⟨ents,clock,j1,j2,j3⟩:=k2 hn;exact⟨ents,clock,g2.trans j1,j2,j3⟩
 ·exact .inr (.inr ⟨h1,since,seen,last,hb.trans h2⟩)
omit [Dr]in
theorem dH.rowsA{S S':am}{β β':List a7}{w w':World}{ω ω':Nat->Owner}{h h':Hp}(H:dH S β w ω h)(hS:S.le S')(hβ:dm β β')(_hβl:β.length=h.length)
  (step:∀l cs,h'[l]? = some cs->cs≠[]->(h[l]? = some cs/\∀b,b<w.heap.size->(∃n,β[l]? = some (b,n))->ω b= .heap l->ω' b= .heap l/\w'.heap[b]? = w.heap[b]? /\∀o,S b o=none->S' b o=none)\/
   (∃b x,β'[l]? = some (b,x.size)/\Row w' b x/\ω' b= .heap l/\aP S' β' cs (x.toList.take cs.length)/\(∀o,S' b o=none)/\Ah w' b cs)):dH S' β' w' ω' h':=by
 have hm:∀(l b':Nat)(es:List AV),β[l]? = some (b',0)->h'[l]? = some [.tup es]->h[l]? = some [.tup es]/\w'.heap[b']? = w.heap[b']?:=fun l b' es hl he=>by
  rcases step l _ he (by simp)with⟨g1,g2⟩|⟨b,x,g1,g2,g3,g4,g5⟩
  ·refine⟨g1,?_⟩;rcases H l _ g1 (by simp)with⟨b,x,k1,k2,k3,k4,k5⟩|⟨b,k1,k2,k3,k4⟩
   ·rw[hl]at k1;simp only[FU,GN]at k1
    have:=k4.length
    simp at this;omega
   ·have k0:=k1;rw[hl]at k1;simp only[FU,GN]at k1;rw[k1.1];exact (g2 b k4.lt ⟨_,k0⟩ k2).2.1
  ·have:=hβ _ _ hl
   rw[g1]at this;simp only[FU,GN]at this;have h2:=g4.length;simp at h2;omega
 intro l cs hl hne;rcases step l cs hl hne with⟨g1,g2⟩|g
 ·rcases H l cs g1 hne with⟨b,x,k1,k2,k3,k4,k5,k6⟩|⟨b,k1,k2,k3,k4⟩
  ·have hlt:b<w.heap.size:=by
    obtain⟨t,k2⟩:=k2;exact (GC.1 k2).1
   obtain⟨j1,j2,j3⟩:=g2 b hlt ⟨_,k1⟩ k3;exact .inl ⟨b,x,hβ _ _ k1,by obtain⟨t,k2⟩:=k2;exact⟨t,j2.trans k2⟩,j1,k4.mono hS hβ,fun o=>j3 o (k5 o),fun t ht=>by obtain⟨y,hy⟩:=k6 t ht;exact⟨y,j2.trans hy⟩⟩
  ·obtain⟨j1,j2,j3⟩:=g2 b k4.lt ⟨_,k1⟩ k2;exact .inr ⟨b,hβ _ _ k1,j1,fun o=>j3 o (k3 o),k4.keep hS hβ j2 hm⟩
 ·exact .inl g
omit [Dr]in
theorem dH.rows{S S':am}{β β':List a7}{w w':World}{ω ω':Nat->Owner}{h h':Hp}(H:dH S β w ω h)(hS:S.le S')(hβ:dm β β')(hβl:β.length=h.length)
  (step:∀l cs,h'[l]? = some cs->cs≠[]->(h[l]? = some cs/\∀b,b<w.heap.size->ω b= .heap l->ω' b= .heap l/\w'.heap[b]? = w.heap[b]? /\∀o,S b o=none->S' b o=none)\/
   (∃b x,β'[l]? = some (b,x.size)/\Row w' b x/\ω' b= .heap l/\aP S' β' cs (x.toList.take cs.length)/\(∀o,S' b o=none)/\Ah w' b cs)):dH S' β' w' ω' h':=H.rowsA hS hβ hβl fun l cs hl hne=>(step l cs hl hne).imp (fun⟨g1,g2⟩=>⟨g1,fun b h1 _ h2=>g2 b h1 h2⟩) id
omit [Dr]in
theorem dH.own{S:am}{β:List a7}{w:World}{ω:Nat->Owner}{h:Hp}(H:dH S β w ω h){l:Nat}{cs:List AV}(hl:h[l]? = some cs)(hne:cs≠[]):
  ∃b n,β[l]? = some (b,n)/\b<w.heap.size/\ω b= .heap l/\∀o,S b o=none:=by
 rcases H l cs hl hne with⟨b,x,k1,⟨t,k2⟩,k3,_,k5,_⟩|⟨b,k1,k2,k3,k4⟩
 ·exact⟨b,_,k1,(GC.1 k2).1,k3,k5⟩
 ·exact⟨b,_,k1,k4.lt,k2,k3⟩
omit [Dr]in
theorem dH.cells{S:am}{β:List a7}{w:World}{ω:Nat->Owner}{h:Hp}(H:dH S β w ω h){l b n:Nat}{cs:List AV}(hl:h[l]? = some cs)(hne:cs≠[])(hb:β[l]? = some (b,n))(h0:n≠0):
  ∃x,β[l]? = some (b,x.size)/\Row w b x/\ω b= .heap l/\aP S β cs (x.toList.take cs.length)/\∀o,S b o=none:=by
 rcases H l cs hl hne with⟨b',x,k1,k2,k3,k4,k5,_⟩|⟨b',k1,k2⟩
 ·rw[hb]at k1;simp only[FU,GN]at k1;obtain⟨rfl,rfl⟩:=k1;exact⟨x,hb,k2,k3,k4,k5⟩
 ·rw[hb]at k1;simp only[FU,GN]at k1;exact absurd k1.2 h0
omit [Dr]in
theorem dH.of_row{S:am}{β:List a7}{w:World}{ω:Nat->Owner}{h:Hp}(H:dH S β w ω h){l b n:Nat}{cs:List AV}{x:Array Value}(hl:h[l]? = some cs)(hne:cs≠[])(hb:β[l]? = some (b,n))(hrow:Row w b x):
  β[l]? = some (b,x.size)/\ω b= .heap l/\aP S β cs (x.toList.take cs.length)/\∀o,S b o=none:=by
 rcases H l cs hl hne with⟨b',x',k1,⟨t',k2⟩,k3,k4,k5,_⟩|⟨b',k1,_,_,k2⟩
 ·rw[hb]at k1;simp only[FU,GN]at k1;obtain⟨rfl,rfl⟩:=k1;obtain⟨t,hrow⟩:=hrow;rw[k2]at hrow;simp only[FU,Obj.cells.injEq]at hrow;obtain⟨rfl,_⟩:=hrow;exact⟨hb,k3,k4,k5⟩
 ·rw[hb]at k1;simp only[FU,GN]at k1;obtain⟨rfl,_⟩:=k1;obtain⟨t,hrow⟩:=hrow;rcases k2 with⟨_,_,_,_,k,_⟩|⟨_,_,_,_,_,_,_,_,_,_,_,k,_⟩|⟨_,_,_,_,k⟩<;>(rw[hrow]at k;cases k)
omit [Dr]in
theorem dH.tag{S:am}{β:List a7}{w:World}{ω:Nat->Owner}{h:Hp}(H:dH S β w ω h){l b n t:Nat}{cs:List AV}(hl:h[l]? = some cs)(ht:cd t cs)(hb:β[l]? = some (b,n)):∃y,w.heap[b]? = some (.cells y t (0,0)):=by
 rcases H l cs hl (by rintro rfl;obtain⟨_,h,_⟩:=ht;cases h)with⟨b',x,k1,_,_,_,_,k6⟩|⟨b',_,_,_,k4⟩
 ·rw[hb]at k1;simp only[FU,GN]at k1;rw[k1.1];exact k6 t ht
 ·rcases k4 with⟨es,h1,_⟩|⟨l',n,ps,b',since,seen,last,cur,h1,_,_,_,rfl|⟨c,rfl⟩,_⟩|⟨h1,_⟩<;>(subst h1;simp[Dw,cd,ra]at ht)
def dR(c:Entry)(ω:Nat->Owner)(b:Nat):Prop:=(c.E b/\∀g,ω b≠.grp g)\/c.w.heap.size<=b
omit [Dr]in
theorem dR.of_eq{c:Entry}{ω ω':Nat->Owner}{b:Nat}(h:dR c ω b)(he:ω' b=ω b):dR c ω' b:=
 h.imp (fun⟨h1,h2⟩=>⟨h1,fun g=>by rw[he];exact h2 g⟩) id
omit [Dr]in
theorem dR.of_not{c:Entry}{ω ω':Nat->Owner}{b:Nat}(h:dR c ω b)(he:∀g,ω' b≠.grp g):dR c ω' b:=h.imp (fun⟨h1,_⟩=>⟨h1,he⟩) id
omit [Dr]in
theorem dR.low{c:Entry}{ω:Nat->Owner}{b:Nat}(h:dR c ω b):c.E b\/c.w.heap.size<=b:=h.imp And.left id
omit [Dr]in
theorem dR.grp{c:Entry}{ω:Nat->Owner}{b g:Nat}(h:dR c ω b)(hg:ω b= .grp g):c.w.heap.size<=b:=by
 rcases h with⟨_,h⟩|h
 ·exact absurd hg (h g)
 ·exact h
structure FR (c:Entry) (N:Nat) (U:Nat->Prop) (e:Env) (h:Hp) (a:Act) (w:World) (S:am) (β:List a7) (γ:Nat->Value) (lam:Nat->Option Nat) (ω:Nat->Owner):Prop where
 wf:Wf S w
 gro:Gro c.w w
 keep:∀b,b<c.w.heap.size->¬c.E b->w.heap[b]? = c.w.heap[b]? /\∀o,S b o=c.S b o
 le:c.S.le S
 ext:dm c.β β
 hlen:β.length=h.length
 heap:dH S β w ω h
 tsz:N<=a.tmps.size/\N<=1000
 slots:∀t,t<1000->dA S β lam (e.get t).v (a.tmps.getD t undef)
 grps:∀t g z,t<1000->(e.get t).g=some g->aA e.al g=some z->a.tmps.getD t undef=γ g
 lblk:∀B n,aW e.lb B=some n->B % 1000=0/\1000<=B/\n<1000/\∃b x,lam B=some b/\Row w b x/\ω b= .loc B/\(∀o,S b o=none)/\
  ∀i,i<n->∃v a',x[i]? = some v/\(e.get (B+i)).v= .val a'/\VR S β a' v/\∀g z,(e.get (B+i)).g=some g->aA e.al g=some z->v=γ g
 free:∀g z,aA e.al g=some z->jK S w ω g z (γ g)
 mine:∀b,ω b≠.no->dR c ω b/\b<w.heap.size
 used:(∀t g,(e.get t).g=some g->U g)/\(∀g z,aA e.al g=some z->U g)
theorem FR.size{c:Entry}{N:Nat}{U:Nat->Prop}{e:Env}{h:Hp}{a:Act}{w:World}{S:am}{β:List a7}{γ:Nat->Value}{lam:Nat->Option Nat}{ω:Nat->Owner}(H:FR c N U e h a w S β γ lam ω):c.w.heap.size<=w.heap.size:=H.gro.size
theorem FR.gokw{c:Entry}{N:Nat}{U:Nat->Prop}{e:Env}{h:Hp}{a:Act}{w:World}{S:am}{β:List a7}{γ:Nat->Value}{lam:Nat->Option Nat}{ω:Nat->Owner}(H:FR c N U e h a w S β γ lam ω):GOKw w:=
 c.gok.1.mono fun b hb=>(H.keep b (Gu hb c.gok.1.lt) (c.gok.2.1 b hb)).1
omit [Dr]in
theorem Row.lt{w:World}{b:Nat}{x:Array Value}(h:Row w b x):b<w.heap.size:=by
 obtain⟨e,h⟩:=h;exact (GC.1 h).1
omit [Dr]in
theorem Row.of_eq{w w':World}{b:Nat}{x:Array Value}(h:Row w b x)(he:w'.heap[b]? = w.heap[b]?):Row w' b x:=by
 obtain⟨e,h⟩:=h;exact⟨e,by rw[he,h]⟩
omit [Dr]in
theorem Wf.lt{S:am}{w:World}(h:Wf S w){b o:Nat}{v:Value}(hv:S b o=some v):b<w.heap.size:=block_lt_of_cell (h b o v hv)
omit [Dr]in
theorem Wf.none{S:am}{w:World}(h:Wf S w){b:Nat}(hb:w.heap.size<=b)(o:Nat):S b o=none:=by
 cases hs:S b o with
 |none=>rfl
 |some v=>have:=h.lt hs;omega
omit [Dr]in
theorem cell_of_heap{w w':World}{b:Nat}(h:w'.heap[b]? = w.heap[b]?)(o:Nat):w'.cell? ⟨b,o,none⟩=w.cell? ⟨b,o,none⟩:=by
 simp[World.cell?,h]
section
variable {c:Entry} {N:Nat} {U:Nat->Prop} {e:Env} {h:Hp} {a:Act} {w:World} {S:am} {β:List a7} {γ:Nat->Value} {lam:Nat->Option Nat} {ω:Nat->Owner}
theorem FR.world(H:FR c N U e h a w S β γ lam ω){w':World}{S':am}(hw:Wf S' w')(hg:Gro w w')(hk:∀b,b<w.heap.size->w'.heap[b]? = w.heap[b]? /\∀o,S' b o=S b o)(hle:S.le S'):FR c N U e h a w' S' β γ lam ω:=by
 have hrow:∀ {b x},Row w b x->Row w' b x:=fun hr=>hr.of_eq (hk _ hr.lt).1;have hs:=hg.size;refine⟨hw,H.gro.trans hg,fun b hb hE=>?_,am.le_trans H.le hle,H.ext,H.hlen,?_,H.tsz,?_,H.grps,?_,?_,fun b hb=>⟨(H.mine b hb).1,Gu (H.mine b hb).2 hs⟩,H.used⟩
 ·have h1:=hk b (Gu hb H.size);have h2:=H.keep b hb hE;exact⟨h1.1.trans h2.1,fun o=>(h1.2 o).trans (h2.2 o)⟩
 ·exact H.heap.rows hle (dm.refl β) H.hlen fun l cs hl hne=>.inl ⟨hl,fun b hb ho=>⟨ho,(hk b hb).1,fun o h0=>by rw[(hk b hb).2];exact h0⟩⟩
 ·intro t ht
  have:=H.slots t ht
  cases hv:(e.get t).v with
  |val av=>rw[hv]at this;exact VR.mono hle (dm.refl β) _ _ this
  |loc B off=>rw[hv]at this;exact this
 ·intro B n hB;obtain⟨h1,h2,h3,b,x,h4,h5,h6,h7,h8⟩:=H.lblk B n hB;refine⟨h1,h2,h3,b,x,h4,hrow h5,h6,fun o=>by rw[(hk b h5.lt).2];exact h7 o,fun i hi=>?_⟩;obtain⟨v,a',g1,g2,g3,g4⟩:=h8 i hi;exact⟨v,a',g1,g2,VR.mono hle (dm.refl β) _ _ g3,g4⟩
 ·intro g z hg;obtain⟨a',len,cap,h1,h2,h3,h4⟩:=H.free g z hg;refine⟨a',len,cap,h1,h2,h3,h4.imp id ?_⟩;rintro⟨sz,b,off,x,g1,g2,g3,g4,g5,g6⟩;exact⟨sz,b,off,x,g1,g2,hrow g3,g4,g5,fun o ho=>by rw[(hk b g3.lt).2];exact g6 o ho⟩
theorem FR.drew(H:FR c N U e h a w S β γ lam ω):FR c N U e h a w.drew S β γ lam ω:=
 H.world (fun b o v hv=>by rw[World.cell?_drew];exact H.wf b o v hv) (Gro.drew w) (fun b _=>⟨rfl,fun _=>rfl⟩) (am.le_refl S)
omit [Dr]in
theorem alloc_old(w:World)(o:Obj){b:Nat}(hb:b<w.heap.size):(w.alloc o).heap[b]? = w.heap[b]?:=heap_alloc_old w o hb
theorem FR.alloc(H:FR c N U e h a w S β γ lam ω)(x:Array Value)(t:TypeId):FR c N U e h a (w.alloc (.cells x t)) S β γ lam ω:=
 H.world (fun b o v hv=>by rw[cell_of_heap (alloc_old w _ (H.wf.lt hv))];exact H.wf b o v hv) (Gro.alloc w x t) (fun b hb=>⟨alloc_old w _ hb,fun _=>rfl⟩) (am.le_refl S)
omit [Dr]in
theorem FD(w:World)(x:Array Value)(t:TypeId):Row (w.alloc (.cells x t)) w.heap.size x:=⟨t,heap_alloc_new w _⟩
def am.withRowTo(S:am)(b k:Nat)(x:Array Value):am:=fun b' o=>if b'=b then(if o<k then x[o]? else none)else S b' o
theorem FR.allocS(H:FR c N U e h a w S β γ lam ω)(x:Array Value)(t:TypeId)(k:Nat):FR c N U e h a (w.alloc (.cells x t)) (S.withRowTo w.heap.size k x) β γ lam ω:=by
 have hn:∀o,S w.heap.size o=none:=fun o=>H.wf.none (FZ _) o;refine H.world (fun b o v hv=>?_) (Gro.alloc w x t) (fun b hb=>⟨alloc_old w _ hb,fun o=>?_⟩) (fun b o v hv=>?_)
 ·unfold am.withRowTo at hv;split at hv
  ·rename_i hb;subst hb;rw[(FD w x t).cell];split at hv
   ·exact hv
   ·simp at hv
  ·rw[cell_of_heap (alloc_old w _ (H.wf.lt hv))];exact H.wf b o v hv
 ·unfold am.withRowTo;rw[if_neg (by omega)]
 ·unfold am.withRowTo;split
  ·rename_i hb;subst hb;rw[hn]at hv;simp at hv
  ·exact hv
omit [Dr]in
theorem bJ(e:Env)(d:Option Tmp)(u:Upd)(t:Nat):(e.upd d u).get t=if d=some t then u.ent else bg (u.ls++e.sl) t:=by
 unfold Env.upd Env.get mD;cases d with
 |none=>simp
 | some s=>
  simp only[bg,FU];by_cases hs:s=t
  ·subst hs;simp
  ·have:Nat.beq s t=false:=by
    rw[G3];intro hh;exact hs (F6 hh)
   simp[hs,this]
omit [Dr]in
theorem eB(a:Act)(d:Option Tmp)(v:Value){N:Nat}(hd:∀t,d=some t->t<N)(hN:N<=a.tmps.size)(t:Nat):
  (a.put d v).tmps.getD t undef=if d=some t then v else a.tmps.getD t undef:=by
 cases d with
 |none=>simp[Act.put]
 | some s=>
  have hlt:=hd s rfl;simp only[Act.put,FU,Gn,Hg];by_cases hs:s=t
  ·subst hs;simp[Gu hlt hN]
  ·simp[hs]
omit [Dr]in
theorem ek(a:Act)(d:Option Tmp)(v:Value):(a.put d v).tmps.size=a.tmps.size:=by
 cases d<;>simp[Act.put]
omit [Dr]in
theorem bj(k:Nat)(x:Option Nat)(r:List (Nat×Option Nat))(g:Nat):aA ((k,x):: r) g=if k=g then some x else aA r g:=by
 simp only[aA];by_cases hk:k=g
 ·subst hk;simp
 ·have:Nat.beq k g=false:=by rw[G3];intro hh;exact hk (F6 hh)
  simp[hk,this]
omit [Dr]in
theorem gf(r:List (Nat×Option Nat))(k g:Nat):aA (m5 r k) g=if k=g then none else aA r g:=by
 induction r with
 |nil=>simp[m5,aA]
 | cons x r ih=>
  obtain⟨j,y⟩:=x;simp only[m5];by_cases hj:j=k
  ·subst hj;simp only[Ih,FW,ih,bj];split<;>rfl
  ·have:Nat.beq j k=false:=by rw[G3];intro hh;exact hj (F6 hh)
   simp only[this,F0,bj,ih];by_cases hg:j=g
   ·subst hg;rw[FY rfl,if_neg (fun h=>hj h.symm),FY rfl]
   ·rw[if_neg hg,if_neg hg]
theorem FR.set(H:FR c N U e h a w S β γ lam ω){d:Option Tmp}{x:Ent}{v:Value}(hd:∀t,d=some t->t<N)(hs:dA S β lam x.v v)(hg:∀g z,x.g=some g->aA e.al g=some z->v=γ g)(hu:∀g,x.g=some g->U g):
  FR c N U (e.upd d { ent:=x }) h (a.put d v) w S β γ lam ω:=by
 have hget:∀t,(e.upd d { ent:=x }).get t=if d=some t then x else e.get t:=fun t=>by rw[bJ];rfl
 have hal:(e.upd d { ent:=x }).al=e.al:=rfl;have hlb:(e.upd d { ent:=x }).lb=e.lb:=rfl;have hdl:∀B i:Nat,1000<=B->d≠some (B+i):=fun B i hB hh=>by have h1:B+i<N:=hd _ hh;have h2:=H.tsz.2;omega
 refine⟨H.wf,H.gro,H.keep,H.le,H.ext,H.hlen,H.heap,by rw[ek];exact H.tsz,fun t ht=>?_,fun t g z ht hgg hz=>?_,fun B n hB=>?_,H.free,H.mine,⟨fun t g hgg=>?_,H.used.2⟩⟩
 ·rw[hget,eB a d v hd H.tsz.1];split
  ·exact hs
  ·exact H.slots t ht
 ·rw[hget]at hgg;rw[eB a d v hd H.tsz.1];split at hgg
  ·rename_i hdt;rw[FY hdt];exact hg g z hgg hz
  ·rename_i hdt;rw[if_neg hdt];exact H.grps t g z ht hgg hz
 ·rw[hlb]at hB;obtain⟨h1,h2,h3,b,y,h4,h5,h6,h7,h8⟩:=H.lblk B n hB;refine⟨h1,h2,h3,b,y,h4,h5,h6,h7,fun i hi=>?_⟩;rw[hget,if_neg (hdl B i h2)];exact h8 i hi
 ·rw[hget]at hgg;split at hgg
  ·exact hu g hgg
  ·exact H.used.1 t g hgg
theorem FR.setV(H:FR c N U e h a w S β γ lam ω){d:Option Tmp}{r:AV}{v:Value}(hd:∀t,d=some t->t<N)(hv:VR S β r v):
  FR c N U (e.upd d (.ofV r)) h (a.put d v) w S β γ lam ω:=
 H.set (x:=⟨.val r,none⟩) hd hv (fun _ _ h=>by cases h) (fun _ h=>by cases h)
def b9(ω:Nat->Owner)(b:Nat)(y:Owner):Nat->Owner:=fun b'=>if b'=b then y else ω b'
theorem FR.own(H:FR c N U e h a w S β γ lam ω){d:Option Tmp}{r:AV}{v:Value}{gid:Nat}{z:Option Nat}(hd:∀t,d=some t->t<N)(hv:VR S β r v)(hU:∀g,gid<=g->g<gid+1000->¬U g)
  (hf:(∃a len,v= .slice a len len/\(a=none->len=0))\/∃len cap sz b off x,v= .slice (some ⟨b,off,none⟩) len cap/\len<=cap/\z=some sz/\Row w b x/\off+cap*sz<=x.size/\ω b= .no/\c.w.heap.size<=b/\
   (∀o,off+len*sz<=o->S b o=none)):
  ∃ω',FR c N (fun g=>U g\/(gid<=g/\g<gid+1000)) (e.upd d (.own r gid z)) h (a.put d v) w S β (fun g=>if g=gid then v else γ g) lam ω':=by
 have hget:∀t,(e.upd d (.own r gid z)).get t=if d=some t then⟨.val r,some gid⟩else e.get t:=fun t=>by rw[bJ];rfl
 have hal:(e.upd d (.own r gid z)).al=(gid,z):: e.al:=rfl;have hlb:(e.upd d (.own r gid z)).lb=e.lb:=rfl;have hdl:∀B i:Nat,1000<=B->d≠some (B+i):=fun B i hB hh=>by have h1:B+i<N:=hd _ hh;have h2:=H.tsz.2;omega
 have hne:∀t g,(e.get t).g=some g->g≠gid:=fun t g hg hh=>hU g (by omega) (by omega) (H.used.1 t g hg);have hna:∀g y,aA e.al g=some y->g≠gid:=fun g y hg hh=>hU g (by omega) (by omega) (H.used.2 g y hg);have halv:∀g,g≠gid->aA ((gid,z):: e.al) g=aA e.al g:=fun g hg=>by rw[bj,if_neg (fun h=>hg h.symm)]
 have key:∀ω':Nat->Owner,(∀b,ω b≠.no->ω' b=ω b)->(∀b,ω' b≠.no->dR c ω' b/\b<w.heap.size)->jK S w ω' gid z v->
   FR c N (fun g=>U g\/(gid<=g/\g<gid+1000)) (e.upd d (.own r gid z)) h (a.put d v) w S β (fun g=>if g=gid then v else γ g) lam ω':=by
  intro ω' hω hmine hfree;refine⟨H.wf,H.gro,H.keep,H.le,H.ext,H.hlen,?_,by rw[ek];exact H.tsz,fun t ht=>?_,fun t g y ht hgg hz=>?_,fun B n hB=>?_,fun g y hg=>?_,hmine,⟨fun t g hgg=>?_,fun g y hg=>?_⟩⟩
  ·exact H.heap.rows (am.le_refl S) (dm.refl β) H.hlen fun l cs hl _=>.inl ⟨hl,fun b _ ho=>⟨by rw[hω b (by rw[ho];simp)];exact ho,rfl,fun o h=>h⟩⟩
  ·rw[hget,eB a d v hd H.tsz.1];split
   ·exact hv
   ·exact H.slots t ht
  ·rw[hget]at hgg;rw[hal]at hz;rw[eB a d v hd H.tsz.1];split at hgg
   ·rename_i hdt;rw[FY hdt];simp only[FU]at hgg;simp[<- hgg]
   ·rename_i hdt;have hg:=hne t g hgg;rw[if_neg hdt,if_neg hg];rw[halv g hg]at hz;exact H.grps t g y ht hgg hz
  ·rw[hlb]at hB;obtain⟨h1,h2,h3,b,x,h4,h5,h6,h7,h8⟩:=H.lblk B n hB;refine⟨h1,h2,h3,b,x,h4,h5,by rw[hω b (by rw[h6];simp)];exact h6,h7,fun i hi=>?_⟩;rw[hget,if_neg (hdl B i h2)];obtain⟨u,a',g1,g2,g3,g4⟩:=h8 i hi;refine⟨u,a',g1,g2,g3,fun g y hg hy=>?_⟩;have hgn:=hne _ g hg;rw[if_neg hgn];rw[hal,halv g hgn]at hy;exact g4 g y hg hy
  ·rw[hal,bj]at hg;split at hg
   ·rename_i hgg;subst hgg;simp only[FU]at hg;subst hg;simpa using hfree
   ·rename_i hgg;have hgn:g≠gid:=fun h=>hgg h.symm;simp only[if_neg hgn];obtain⟨a',len,cap,h1,h2,h3,h4⟩:=H.free g y hg;refine⟨a',len,cap,h1,h2,h3,h4.imp id ?_⟩;rintro⟨sz,b,off,x,g1,g2,g3,g4,g5,g6⟩;exact⟨sz,b,off,x,g1,g2,g3,g4,by rw[hω b (by rw[g5];simp)];exact g5,g6⟩
  ·rw[hget]at hgg;split at hgg
   ·simp only[FU]at hgg;exact .inr (by omega)
   ·exact .inl (H.used.1 t g hgg)
  ·rw[hal,bj]at hg;split at hg
   ·rename_i hgg;exact .inr (by omega)
   ·exact .inl (H.used.2 g y hg)
 rcases hf with⟨ad,len,rfl,hn⟩|⟨len,cap,sz,b,off,x,rfl,h1,h2,h3,h4,h5,h6,h7⟩
 ·exact⟨ω,key ω (fun _ _=>rfl) H.mine ⟨ad,len,len,rfl,FZ _,hn,.inl rfl⟩⟩
 ·refine⟨b9 ω b (.grp gid),key _ (fun b' hb'=>?_) (fun b' hb'=>?_) ⟨some ⟨b,off,none⟩,len,cap,rfl,h1,(fun h=>by cases h),.inr ⟨sz,b,off,x,h2,rfl,h3,h4,by simp[b9],h7⟩⟩⟩
  ·unfold b9;rw[if_neg];rintro rfl;exact hb' h5
  ·unfold b9 at hb';split at hb'
   ·rename_i hbb;subst hbb;exact⟨.inr h6,h3.lt⟩
   ·rename_i hbb;exact⟨(H.mine b' hb').1.of_eq (by unfold b9;rw[if_neg hbb]),(H.mine b' hb').2⟩
end
end Go.Av
namespace Go.Av
variable [Dr]
omit [Dr]in
theorem bu(k:Nat)(x:Ent)(r:List (Nat×Ent))(t:Nat):bg ((k,x):: r) t=if k=t then x else bg r t:=by
 simp only[bg];by_cases hk:k=t
 ·subst hk;simp
 ·have:Nat.beq k t=false:=by rw[G3];intro hh;exact hk (F6 hh)
  simp[hk,this]
omit [Dr]in
theorem qx(f:Nat->Ent)(B:Nat)(r:List (Nat×Ent))(t:Nat):∀n k,bg (((List.range' k n).map fun i=>(B+i,f i))++r) t=
  if B+k<=t/\t<B+k+n then f (t-B)else bg r t:=by
 intro n
 induction n with
 |zero=>intro k;simp;omega
 | succ n ih=>
  intro k;simp only[List.range'_succ,GL,GH,bu,ih];by_cases h:B+k=t
  ·subst h;rw[FY rfl,FY (by omega)];congr 1;omega
  ·rw[if_neg h];by_cases h2:B+(k+1)<=t/\t<B+(k+1)+n
   ·rw[FY h2,FY (by omega)]
   ·rw[if_neg h2,if_neg (by omega)]
def fb(cs:List AV)(offs:List Nat)(gid i:Nat):Ent:=bif dw offs i then⟨.val (.sl []),some (gid+i)⟩else⟨.val (nth cs i),none⟩
omit [Dr]in
theorem lU(B:Nat)(cs:List AV)(offs:List Nat)(gid n:Nat)(r:List (Nat×Ent))(t:Nat):
  bg (gz B cs offs gid n++r) t=if B<=t/\t<B+n then fb cs offs gid (t-B)else bg r t:=by
 have:=qx (fb cs offs gid) B r t n 0
 rw[<- List.range_eq_range']at this;show bg ((List.range n).map (fun i=>(B+i,fb cs offs gid i))++r) t=_;simpa using this
omit [Dr]in
theorem mE(A r:List (Nat×Option Nat))(g:Nat):aA (A++r) g=match aA A g with|some z=>some z|none=>aA r g:=by
 induction A with
 |nil=>simp[aA]
 |cons x A ih=>
  obtain⟨k,y⟩:=x;simp only[GH,bj];by_cases hk:k=g
  ·simp[hk]
  ·simp[hk,ih]
omit [Dr]in
theorem cF(k n:Nat)(r:List (Nat×Nat))(B:Nat):aW ((k,n):: r) B=if k=B then some n else aW r B:=by
 simp only[aW];by_cases hk:k=B
 ·subst hk;simp
 ·have:Nat.beq k B=false:=by rw[G3];intro hh;exact hk (F6 hh)
  simp[hk,this]
omit [Dr]in
theorem qv(r:List (Nat×Nat))(k B:Nat):aW (gZ r k) B=if k=B then none else aW r B:=by
 induction r with
 |nil=>simp[gZ,aW]
 | cons x r ih=>
  obtain⟨j,y⟩:=x;simp only[gZ];by_cases hj:j=k
  ·subst hj;simp only[Ih,FW,ih,cF];split<;>rfl
  ·have:Nat.beq j k=false:=by rw[G3];intro hh;exact hj (F6 hh)
   simp only[this,F0,cF,ih];by_cases hg:j=B
   ·subst hg;rw[FY rfl,if_neg (fun h=>hj h.symm),FY rfl]
   ·rw[if_neg hg,if_neg hg]
omit [Dr]in
theorem ey(l:List Nat)(t:Nat):dw l t=true↔t∈l:=by
 induction l with
 |nil=>simp[dw]
 | cons k l ih=>
  simp only[dw,Gp];by_cases hk:k=t
  ·subst hk;simp
  ·have:Nat.beq k t=false:=by rw[G3];intro hh;exact hk (F6 hh)
   simp[this,ih,Ne.symm hk]
def dz(A:List (Nat×Option Nat))(gid:Nat):Prop:=∀g z,aA A g=some z->z=none/\gid<=g/\g<gid+1000
omit [Dr]in
theorem gA{offs:List Nat}{gid n:Nat}(h:∀i∈offs,i<n)(hn:n<1000):dz (kA offs gid) gid:=by
 intro g z hg;unfold kA at hg
 induction offs with
 |nil=>simp[aA]at hg
 | cons i offs ih=>
  simp only[GL,bj]at hg;split at hg
  ·rename_i hi;simp only[FU]at hg
   have:=h i (by simp)
   exact⟨hg.symm,by omega,by omega⟩
  ·exact ih (fun j hj=>h j (by simp[hj])) hg
omit [Dr]in
theorem eh(gid:Nat):dz [] gid:=fun g z h=>by simp[aA]at h
omit [Dr]in
theorem mL(gid:Nat):dz [(gid,none)] gid:=fun g z h=>by
 rw[bj]at h;split at h
 ·simp only[FU]at h;exact⟨h.symm,by omega,by omega⟩
 ·simp[aA]at h
section
variable {c:Entry} {N:Nat} {U:Nat->Prop} {e:Env} {h:Hp} {a:Act} {w:World} {S:am} {β:List a7} {γ:Nat->Value} {lam:Nat->Option Nat} {ω:Nat->Owner}
def γN(γ:Nat->Value)(gid:Nat):Nat->Value:=fun g=>if gid<=g/\g<gid+1000 then .slice none 0 0 else γ g
theorem dB(H:FR c N U e h a w S β γ lam ω){A:List (Nat×Option Nat)}{gid:Nat}(hU:∀g,gid<=g->g<gid+1000->¬U g)(hA:dz A gid){g:Nat}{z:Option Nat}(hg:aA (A++e.al) g=some z):(z=none/\gid<=g/\g<gid+1000)\/(aA e.al g=some z/\¬(gid<=g/\g<gid+1000)):=by
 rw[mE]at hg;cases hh:aA A g with
 |some y=>rw[hh]at hg;simp only[FU]at hg;subst hg;exact .inl (hA g _ hh)
 |none=>
  rw[hh]at hg;exact .inr ⟨hg,fun hr=>hU g hr.1 hr.2 (H.used.2 g z hg)⟩
theorem qe(H:FR c N U e h a w S β γ lam ω){A:List (Nat×Option Nat)}{gid:Nat}(hU:∀g,gid<=g->g<gid+1000->¬U g)(hA:dz A gid){ω':Nat->Owner}{w':World}(hω:∀b,ω b≠.no->ω' b=ω b)(hrow:∀b x g,ω b= .grp g->Row w b x->Row w' b x){g:Nat}{z:Option Nat}(hg:aA (A++e.al) g=some z):jK S w' ω' g z (γN γ gid g):=by
 rcases dB H hU hA hg with⟨rfl,h1⟩|⟨h1,h2⟩
 ·unfold γN;rw[FY h1];exact⟨none,0,0,rfl,FZ _,fun _=>rfl,.inl rfl⟩
 ·unfold γN;rw[if_neg h2];obtain⟨a',len,cap,g1,g2,g3,g4⟩:=H.free g z h1;refine⟨a',len,cap,g1,g2,g3,g4.imp id ?_⟩;rintro⟨sz,b,off,x,k1,k2,k3,k4,k5,k6⟩;exact⟨sz,b,off,x,k1,k2,hrow b x g k5 k3,k4,by rw[hω b (by rw[k5];simp)];exact k5,k6⟩
theorem FR.allocL(H:FR c N U e h a w S β γ lam ω){s n gid:Nat}{x:Array Value}{t:TypeId}{cs:List AV}{offs:List Nat}(hs:s<N)(hU:∀g,gid<=g->g<gid+1000->¬U g)(hn:n<1000)(hcs:∀i,i<n->∃v,x[i]? = some v/\VR S β (nth cs i) v)(hnil:∀i∈offs,i<n/\x[i]? = some (.slice none 0 0))(hfree:aL e.sl (aT s)=true):
  ∃lam' ω',FR c N (fun g=>U g\/(gid<=g/\g<gid+1000)) (e.upd (some s) { ent:=⟨.loc (aT s) 0,none⟩,ls:=gz (aT s) cs offs gid n,add:=kA offs gid,lb:=some (aT s,n) }) h
   (a.put (some s) (.pointer (some ⟨w.heap.size,0,none⟩))) (w.alloc (.cells x t)) S β (γN γ gid) lam' ω':=by
 have H2:=H.alloc x t;have hA:dz (kA offs gid) gid:=gA (fun i hi=>(hnil i hi).1) hn;have hwn:∀o,S w.heap.size o=none:=fun o=>H.wf.none (FZ _) o;have hωn:ω w.heap.size= .no:=by
  cases ho:ω w.heap.size with
  |no=>rfl
  |_=>have:=(H.mine w.heap.size (by rw[ho];simp)).2;omega
 have hω:∀b,ω b≠.no->b9 ω w.heap.size (.loc (aT s)) b=ω b:=fun b hb=>by
  unfold b9;rw[if_neg];rintro rfl;exact hb hωn
 have hget:∀t',(e.upd (some s) { ent:=⟨.loc (aT s) 0,none⟩,ls:=gz (aT s) cs offs gid n,add:=kA offs gid,lb:=some (aT s,n) }).get t'=
   if s=t' then⟨.loc (aT s) 0,none⟩else if aT s<=t'/\t'<aT s+n then fb cs offs gid (t'-aT s)else e.get t':=by
  intro t';rw[bJ,lU];simp only[FU];rfl
 have hB:aT s=1000*(s+1):=rfl;have hN:=H.tsz.2;have hnoloc:∀t' off,(e.get t').v≠.loc (aT s) off:=by
  intro t' off hv;unfold Env.get at hv;unfold aL at hfree;rw[F9]at hfree;revert hv hfree;generalize e.sl=l;intro hfree
  induction l with
  |nil=>intro hv;simp[bg,Ent.none]at hv
  | cons y l ih=>
   obtain⟨k,y⟩:=y;intro hv;rw[bu]at hv;split at hv
   ·have:=hfree (k,y) (by simp)
    simp[hv]at this
   ·exact ih (fun z hz=>hfree z (by simp[hz])) hv
 have hmemoff:∀i,dw offs i=true->i<n/\x[i]? = some (.slice none 0 0):=fun i hi=>hnil i ((ey _ _).1 hi);refine⟨fun B'=>if B'=aT s then some w.heap.size else lam B',b9 ω w.heap.size (.loc (aT s)),H2.wf,H2.gro,H2.keep,H2.le,H2.ext,H2.hlen,?_,by rw[ek];exact H.tsz,?_,?_,?_,?_,?_,?_,?_⟩
 ·exact H2.heap.rows (am.le_refl S) (dm.refl β) H2.hlen fun l cs' hl _=>.inl ⟨hl,fun b _ ho=>⟨by rw[hω b (by rw[ho];simp)];exact ho,rfl,fun o h=>h⟩⟩
 ·intro t' ht';rw[hget,eB a (some s) _ (fun t h=>by cases h;exact hs) H.tsz.1];simp only[FU];by_cases hst:s=t'
  ·subst hst;simp only[Gm,dA];exact⟨_,rfl,rfl⟩
  ·rw[if_neg hst,if_neg hst,if_neg (by omega)]
   have:=H2.slots t' ht'
   cases hv:(e.get t').v with
   |val av=>rw[hv]at this;exact this
   |loc B' off=>
    rw[hv]at this;simp only[dA]at this |-;rw[if_neg]
    ·exact this
    ·rintro rfl;exact hnoloc t' off hv
 ·intro t' g z ht' hg hz;rw[hget]at hg;rw[eB a (some s) _ (fun t h=>by cases h;exact hs) H.tsz.1];simp only[FU];by_cases hst:s=t'
  ·rw[FY hst]at hg;simp at hg
  ·rw[if_neg hst,if_neg (by omega)]at hg;rw[if_neg hst];have hr:¬(gid<=g/\g<gid+1000):=fun hr=>hU g hr.1 hr.2 (H.used.1 t' g hg);rcases dB H hU hA hz with⟨_,h1⟩|⟨h1,_⟩
   ·exact absurd h1 hr
   ·unfold γN;rw[if_neg hr];exact H.grps t' g z ht' hg h1
 ·intro B' n' hB';have hlb:(e.upd (some s) { ent:=⟨.loc (aT s) 0,none⟩,ls:=gz (aT s) cs offs gid n,add:=kA offs gid,lb:=some (aT s,n) }).lb=(aT s,n):: e.lb:=rfl;rw[hlb,cF]at hB';by_cases hBB:aT s=B'
  ·subst hBB;rw[FY rfl]at hB';simp only[FU]at hB';subst hB';refine⟨by omega,by omega,hn,w.heap.size,x,by simp,FD w x t,by simp[b9],hwn,fun i hi=>?_⟩;rw[hget,if_neg (by omega),FY (by omega),show aT s+i-aT s=i by omega];obtain⟨v,hv,hvr⟩:=hcs i hi;unfold fb;cases hm:dw offs i with
   | true=>
    obtain⟨_,hx⟩:=hmemoff i hm;refine⟨_,.sl [],hx,rfl,?_,fun g z hg _=>?_⟩
    ·simp only[VR];exact⟨none,0,rfl,FZ _,fun _=>rfl,fun q hq=>by cases hq⟩
    ·simp only[FW,FU]at hg;unfold γN;rw[FY (by omega)]
   |false=>
    exact⟨v,nth cs i,hv,rfl,hvr,fun g z hg _=>by simp at hg⟩
  ·rw[if_neg hBB]at hB';obtain⟨h1,h2,h3,b,y,h4,h5,h6,h7,h8⟩:=H2.lblk B' n' hB';refine⟨h1,h2,h3,b,y,by rw[if_neg (fun h=>hBB h.symm)];exact h4,h5,by rw[hω b (by rw[h6];simp)];exact h6,h7,fun i hi=>?_⟩;rw[hget,if_neg (by omega),if_neg (by omega)];obtain⟨v,a',g1,g2,g3,g4⟩:=h8 i hi;refine⟨v,a',g1,g2,g3,fun g z hg hz=>?_⟩;have hr:¬(gid<=g/\g<gid+1000):=fun hr=>hU g hr.1 hr.2 (H.used.1 _ g hg);rcases dB H hU hA hz with⟨_,k1⟩|⟨k1,_⟩
   ·exact absurd k1 hr
   ·unfold γN;rw[if_neg hr];exact g4 g z hg k1
 ·intro g z hg;exact qe H hU hA hω (fun b y g' _ hr=>hr.of_eq (alloc_old w _ hr.lt)) hg
 ·intro b hb;unfold b9 at hb;split at hb
  ·rename_i hbb;subst hbb;exact⟨.inr H.size,by simp⟩
  ·rename_i hbb;exact⟨(H2.mine b hb).1.of_eq (by unfold b9;rw[if_neg hbb]),(H2.mine b hb).2⟩
 ·intro t' g hg;rw[hget]at hg;split at hg
  ·simp at hg
  ·split at hg
   ·rename_i hr;unfold fb at hg;cases hm:dw offs (t'-aT s)with
    |true=>
     rw[hm]at hg;simp only[FW,FU]at hg
     have:=(hmemoff _ hm).1
     exact .inr (by omega)
    |false=>rw[hm]at hg;simp at hg
   ·exact .inl (H.used.1 t' g hg)
 ·intro g z hg;rcases dB H hU hA hg with⟨_,h1⟩|⟨h1,_⟩
  ·exact .inr h1
  ·exact .inl (H.used.2 g z h1)
omit [Dr]in
theorem cu(w:World)(b:Nat)(y:Array Value){k:Nat}(h:k≠b):(w.setRow b y).heap[k]? = w.heap[k]?:=setRow_other w b k y h
theorem Gro.setRow{w:World}{b:Nat}{x:Array Value}(_:Row w b x)(y:Array Value):Gro w (w.setRow b y):=⟨by simp[World.setRow],rfl,rfl,rfl,fun _=>by simp[World.setRow]⟩
omit [Dr]in
theorem Row.setRow{w:World}{b:Nat}{x y:Array Value}(h:Row w b x):Row (w.setRow b y) b y:=by
 obtain⟨e,h⟩:=h;exact⟨e,setRow_heap w b x y e _ h⟩
theorem od(H:FR c N U e h a w S β γ lam ω){b:Nat}{x y:Array Value}(hr:Row w b x)(hy:∀o v,S b o=some v->y[o]? = some v):Wf S (w.setRow b y):=by
 intro b' o v hv;by_cases hb:b'=b
 ·subst hb;rw[hr.setRow.cell];exact hy o v hv
 ·rw[cell_of_heap (cu w b y hb)];exact H.wf b' o v hv
theorem FR.storeL(H:FR c N U e h a w S β γ lam ω){B m off n gid b:Nat}{x:Array Value}{vs:List Value}{L:List (Nat×Ent)}{A:List (Nat×Option Nat)}{ent:Nat->Ent}(hU:∀g,gid<=g->g<gid+1000->¬U g)(hA:dz A gid)(hm:aW e.lb B=some m)(hle:off+n<=m)(hvs:vs.length=n)(hlam:lam B=some b)(hrow:Row w b x)(hL:∀t,bg (L++e.sl) t=if B+off<=t/\t<B+off+n then ent (t-(B+off))else e.get t)(hent:∀i,i<n->∃v a',vs[i]? = some v/\(ent i).v= .val a'/\VR S β a' v/\(∀g z,(ent i).g=some g->aA (A++e.al) g=some z->v=γN γ gid g)/\∀g,(ent i).g=some g->U g\/(gid<=g/\g<gid+1000))(u:Ent):
  FR c N (fun g=>U g\/(gid<=g/\g<gid+1000)) (e.upd none { ent:=u,ls:=L,add:=A }) h a (w.setRow b (x.toList.take off++vs++x.toList.drop (off+vs.length)).toArray) S β (γN γ gid) lam ω:=by
 obtain⟨hB1,hB2,hB3,b',x',h4,h5,h6,h7,h8⟩:=H.lblk B m hm;rw[hlam]at h4;cases h4;have hxx:x'=x:=by
  obtain⟨e1,h51⟩:=h5;obtain⟨e2,h52⟩:=hrow;rw[h51]at h52;simp only[FU,Obj.cells.injEq]at h52;exact h52.1
 subst hxx;have hxs:m<=x'.size:=by
  rcases GF m with h0|h0
  ·omega
  ·obtain⟨v,_,hv,_⟩:=h8 (m-1) (by omega);rcases Gd (m-1) x'.size with h|h
   ·omega
   ·rw[Gz h]at hv;simp at hv
 have hynew:∀i,(x'.toList.take off++vs++x'.toList.drop (off+vs.length)).toArray[i]? = if off<=i/\i<off+n then vs[i-off]? else x'[i]?:=by
  intro i;have htl:(x'.toList.take off).length=off:=by simp;omega
  simp only[GQ];by_cases hi:i<off
  ·rw[Hf,Gb (by omega),Gg,FY hi,if_neg (by omega)];simp
  ·by_cases hi2:i<off+n
   ·rw[Hf,Gj (by omega),htl,Gb (by omega),FY (by omega)]
   ·rw[Gj (by simp;omega),GO,if_neg (by omega),GJ];congr 1;simp;omega
 have hwf:Wf S (w.setRow b (x'.toList.take off++vs++x'.toList.drop (off+vs.length)).toArray):=od H h5 fun o v hv=>by rw[h7]at hv;simp at hv
 have hother:∀k,ω k≠.loc B->(w.setRow b (x'.toList.take off++vs++x'.toList.drop (off+vs.length)).toArray).heap[k]? = w.heap[k]?:=fun k hk=>cu w b _ (by rintro rfl;exact hk h6);have hget:∀t',(e.upd none { ent:=u,ls:=L,add:=A }).get t'=if B+off<=t'/\t'<B+off+n then ent (t'-(B+off))else e.get t':=by
  intro t';rw[bJ];simp only[reduceCtorEq,Gl];exact hL t'
 have hal:(e.upd none { ent:=u,ls:=L,add:=A }).al=A++e.al:=rfl;have hlb:(e.upd none { ent:=u,ls:=L,add:=A }).lb=e.lb:=rfl;refine⟨hwf,H.gro.trans (Gro.setRow h5 _),fun k hk hE=>?_,H.le,H.ext,H.hlen,?_,H.tsz,?_,?_,?_,?_,?_,?_,?_⟩
 ·have:=H.keep k hk hE
  have hkb:k≠b:=by
   rintro rfl
   have:=(H.mine k (by rw[h6];simp)).1.low
   rcases this with h|h
   ·exact hE h
   ·omega
  rw[cu w b _ hkb];exact this
 ·exact H.heap.rows (am.le_refl S) (dm.refl β) H.hlen fun l cs' hl _=>.inl ⟨hl,fun k _ ho=>⟨ho,hother k (by rw[ho];simp),fun o h=>h⟩⟩
 ·intro t' ht';rw[hget,if_neg (by omega)];exact H.slots t' ht'
 ·intro t' g z ht' hg hz;rw[hget,if_neg (by omega)]at hg;have hr:¬(gid<=g/\g<gid+1000):=fun hr=>hU g hr.1 hr.2 (H.used.1 t' g hg);rcases dB H hU hA hz with⟨_,h1⟩|⟨h1,_⟩
  ·exact absurd h1 hr
  ·unfold γN;rw[if_neg hr];exact H.grps t' g z ht' hg h1
 ·intro B' n' hB';rw[hlb]at hB';obtain⟨k1,k2,k3,b',y,k4,k5,k6,k7,k8⟩:=H.lblk B' n' hB';by_cases hBB:B'=B
  ·subst hBB;rw[hm]at hB';cases hB';refine⟨k1,k2,k3,b,_,hlam,h5.setRow,h6,h7,fun i hi=>?_⟩;rw[hget,hynew];by_cases hin:off<=i/\i<off+n
   ·rw[FY hin,FY (by omega)];obtain⟨v,a',g1,g2,g3,g4,_⟩:=hent (i-off) (by omega);have hix:B'+i-(B'+off)=i-off:=by omega
    exact⟨v,a',g1,by rw[hix];exact g2,g3,fun g z hg hz=>g4 g z (by rw[hix]at hg;exact hg) hz⟩
   ·rw[if_neg hin,if_neg (by omega)];obtain⟨v,a',g1,g2,g3,g4⟩:=h8 i hi;refine⟨v,a',g1,g2,g3,fun g z hg hz=>?_⟩;have hr:¬(gid<=g/\g<gid+1000):=fun hr=>hU g hr.1 hr.2 (H.used.1 _ g hg);rcases dB H hU hA hz with⟨_,h1⟩|⟨h1,_⟩
    ·exact absurd h1 hr
    ·unfold γN;rw[if_neg hr];exact g4 g z hg h1
  ·refine⟨k1,k2,k3,b',y,k4,k5.of_eq (hother b' (by rw[k6];simp[hBB])),k6,k7,fun i hi=>?_⟩;rw[hget,if_neg (by omega)];obtain⟨v,a',g1,g2,g3,g4⟩:=k8 i hi;refine⟨v,a',g1,g2,g3,fun g z hg hz=>?_⟩;have hr:¬(gid<=g/\g<gid+1000):=fun hr=>hU g hr.1 hr.2 (H.used.1 _ g hg);rcases dB H hU hA hz with⟨_,h1⟩|⟨h1,_⟩
   ·exact absurd h1 hr
   ·unfold γN;rw[if_neg hr];exact g4 g z hg h1
 ·intro g z hg;exact qe H hU hA (fun _ _=>rfl) (fun k y g' hk hr=>hr.of_eq (hother k (by rw[hk];simp))) hg
 ·intro k hk;exact⟨(H.mine k hk).1,by simpa using(H.mine k hk).2⟩
 ·intro t' g hg;rw[hget]at hg;split at hg
  ·obtain⟨_,_,_,_,_,_,k5⟩:=hent (t'-(B+off)) (by omega);exact k5 g hg
  ·exact .inl (H.used.1 t' g hg)
 ·intro g z hg;rcases dB H hU hA hg with⟨_,h1⟩|⟨h1,_⟩
  ·exact .inr h1
  ·exact .inl (H.used.2 g z h1)
end
end Go.Av
namespace Go.Av
variable [Dr]
section
variable {c:Entry} {N:Nat} {U:Nat->Prop} {e:Env} {h:Hp} {a:Act} {w:World} {S:am} {β:List a7} {γ:Nat->Value} {lam:Nat->Option Nat} {ω:Nat->Owner}
omit [Dr]in
theorem Row.inj{b:Nat}{x y:Array Value}(h:Row w b x)(g:Row w b y):x=y:=by
 obtain⟨e1,h1⟩:=h;obtain⟨e2,h2⟩:=g;rw[h1]at h2;simp only[FU,Obj.cells.injEq]at h2;exact h2.1
theorem FR.storeS(H:FR c N U e h a w S β γ lam ω){B m p b:Nat}{x:Array Value}{vs:List Value}{cs:List AV}(hp:p<N)(hm:aW e.lb B=some m)(hvs:vs.length=m)(hlam:lam B=some b)(hrow:Row w b x)(hcs:aP S β cs vs)(hslot:a.tmps.getD p undef= .pointer (some ⟨b,0,none⟩))(u:Ent):
  ∃S' ω',S.le S'/\FR c N U (e.upd none { ent:=u,ls:=[(p,⟨.val (.ip cs),none⟩)],unlb:=some B }) h a (w.setRow b (vs++x.toList.drop vs.length).toArray) S' β γ lam ω':=by
 obtain⟨hB1,hB2,hB3,b',x',h4,h5,h6,h7,h8⟩:=H.lblk B m hm;rw[hlam]at h4;cases h4;cases h5.inj hrow;have hN:=H.tsz.2;have hy:∀i,i<m->(vs++x.toList.drop vs.length).toArray[i]? = vs[i]?:=fun i hi=>by
  simp only[GQ];rw[Gb (by omega)]
 have hle:S.le (S.withRowTo b m (vs++x.toList.drop vs.length).toArray):=fun k o v hv=>by
  unfold am.withRowTo;split
  ·rename_i hk;subst hk;rw[h7]at hv;simp at hv
  ·exact hv
 have hSb:∀o v,vs[o]? = some v->S.withRowTo b m (vs++x.toList.drop vs.length).toArray b o=some v:=fun o v hv=>by
  have ho:o<m:=by
   rcases Gd o vs.length with h|h
   ·omega
   ·rw[F8 h]at hv;simp at hv
  unfold am.withRowTo;rw[FY rfl,FY ho,hy o ho,hv]
 have hSo:∀k,k≠b->∀o,S.withRowTo b m (vs++x.toList.drop vs.length).toArray k o=S k o:=fun k hk o=>by
  unfold am.withRowTo;rw[if_neg hk]
 have hωb:∀k,ω k≠.loc B->k≠b:=fun k hk=>by rintro rfl;exact hk h6
 have hother:∀k,ω k≠.loc B->(w.setRow b (vs++x.toList.drop vs.length).toArray).heap[k]? = w.heap[k]?:=fun k hk=>cu w b _ (hωb k hk);have hω:∀k,ω k≠.no->ω k≠.loc B->b9 ω b .no k=ω k:=fun k _ hk=>by unfold b9;rw[if_neg (hωb k hk)]
 have hget:∀t',(e.upd none { ent:=u,ls:=[(p,⟨.val (.ip cs),none⟩)],unlb:=some B }).get t'=if p=t' then⟨.val (.ip cs),none⟩else e.get t':=by
  intro t';rw[bJ];simp only[reduceCtorEq,Gl,GH,GY,bu];rfl
 have hlb:(e.upd none { ent:=u,ls:=[(p,⟨.val (.ip cs),none⟩)],unlb:=some B }).lb=gZ e.lb B:=rfl;have hal:(e.upd none { ent:=u,ls:=[(p,⟨.val (.ip cs),none⟩)],unlb:=some B }).al=e.al:=rfl;refine⟨_,b9 ω b .no,hle,?_,H.gro.trans (Gro.setRow hrow _),fun k hk hE=>?_,am.le_trans H.le hle,H.ext,H.hlen,?_,H.tsz,?_,?_,?_,?_,?_,?_⟩
 ·intro k o v hv;by_cases hk:k=b
  ·subst hk;rw[hrow.setRow.cell];unfold am.withRowTo at hv;rw[FY rfl]at hv;split at hv
   ·exact hv
   ·simp at hv
  ·rw[hSo k hk]at hv;rw[cell_of_heap (cu w b _ hk)];exact H.wf k o v hv
 ·have hkb:k≠b:=by
   rintro rfl
   have:=(H.mine k (by rw[h6];simp)).1.low
   rcases this with h|h
   ·exact hE h
   ·omega
  have:=H.keep k hk hE
  exact⟨by rw[cu w b _ hkb];exact this.1,fun o=>by rw[hSo k hkb];exact this.2 o⟩
 ·exact H.heap.rows hle (dm.refl β) H.hlen fun l cs' hl _=>.inl ⟨hl,fun k _ ho=>by
   have hk:ω k≠.loc B:=by rw[ho];simp
   exact⟨by rw[hω k (by rw[ho];simp) hk];exact ho,hother k hk,fun o h=>by rw[hSo k (hωb k hk)];exact h⟩⟩
 ·intro t' ht';rw[hget];split
  ·rename_i hpt;subst hpt;rw[hslot];simp only[dA,VR];exact⟨b,0,vs,rfl,hcs.mono hle (dm.refl β),fun j v hj=>by rw[GP];exact hSb j v hj⟩
  ·have:=H.slots t' ht'
   cases hv:(e.get t').v with
   |val av=>rw[hv]at this;exact VR.mono hle (dm.refl β) _ _ this
   |loc B off=>rw[hv]at this;exact this
 ·intro t' g z ht' hg hz;rw[hget]at hg;split at hg
  ·simp at hg
  ·exact H.grps t' g z ht' hg hz
 ·intro B' n' hB';rw[hlb,qv]at hB';split at hB'
  ·simp at hB'
  ·rename_i hBB;obtain⟨k1,k2,k3,b',y,k4,k5,k6,k7,k8⟩:=H.lblk B' n' hB';have hk:ω b'≠.loc B:=by rw[k6];simp only[H1,Owner.loc.injEq];exact fun h=>hBB h.symm
   refine⟨k1,k2,k3,b',y,k4,k5.of_eq (hother b' hk),by rw[hω b' (by rw[k6];simp) hk];exact k6,fun o=>by rw[hSo b' (hωb b' hk)];exact k7 o,fun i hi=>?_⟩;rw[hget,if_neg (by omega)];obtain⟨v,a',g1,g2,g3,g4⟩:=k8 i hi;exact⟨v,a',g1,g2,VR.mono hle (dm.refl β) _ _ g3,g4⟩
 ·intro g z hg;obtain⟨a',len,cap,g1,g2,g3,g4⟩:=H.free g z hg;refine⟨a',len,cap,g1,g2,g3,g4.imp id ?_⟩;rintro⟨sz,k,off,y,k1,k2,k3,k4,k5,k6⟩;have hk:ω k≠.loc B:=by rw[k5];simp
  exact⟨sz,k,off,y,k1,k2,k3.of_eq (hother k hk),k4,by rw[hω k (by rw[k5];simp) hk];exact k5,fun o ho=>by rw[hSo k (hωb k hk)];exact k6 o ho⟩
 ·intro k hk;unfold b9 at hk;split at hk
  ·exact absurd rfl hk
  ·rename_i hkk;exact⟨(H.mine k hk).1.of_eq (by unfold b9;rw[if_neg hkk]),by simpa using(H.mine k hk).2⟩
 ·refine⟨fun t' g hg=>?_,H.used.2⟩;rw[hget]at hg;split at hg
  ·simp at hg
  ·exact H.used.1 t' g hg
theorem FR.newH(H:FR c N U e h a w S β γ lam ω)(x:Array Value)(t:TypeId){cs:List AV}(hcs:aP S β cs (x.toList.take cs.length))(htag:∀t',cd t' cs->t'=t):
  ∃ω',FR c N U e (h++[cs]) a (w.alloc (.cells x t)) S (β++[(w.heap.size,x.size)]) γ lam ω'/\(β++[(w.heap.size,x.size)])[h.length]? = some (w.heap.size,x.size)/\dm β (β++[(w.heap.size,x.size)]):=by
 have H2:=H.alloc x t;have hext:dm β (β++[(w.heap.size,x.size)]):=fun l b hb=>by
  have:l<β.length:=by
   rcases Gd l β.length with h|h
   ·exact h
   ·rw[F8 h]at hb;simp at hb
  rw[Gb this];exact hb
 have hnew:(β++[(w.heap.size,x.size)])[h.length]? = some (w.heap.size,x.size):=by rw[<- H.hlen];simp
 have hωn:ω w.heap.size= .no:=by
  cases ho:ω w.heap.size with
  |no=>rfl
  |_=>have:=(H.mine w.heap.size (by rw[ho];simp)).2;omega
 have hω:∀b,ω b≠.no->b9 ω w.heap.size (.heap h.length) b=ω b:=fun b hb=>by
  unfold b9;rw[if_neg];rintro rfl;exact hb hωn
 refine⟨b9 ω w.heap.size (.heap h.length),⟨H2.wf,H2.gro,H2.keep,H2.le,dm.trans H2.ext hext,by simp[H.hlen],?_,H2.tsz,?_,H2.grps,?_,?_,?_,H2.used⟩,hnew,hext⟩
 ·refine H2.heap.rows (am.le_refl S) hext H2.hlen fun l cs' hl hne=>?_;rcases Gd l h.length with hlt|hge
  ·rw[Gb hlt]at hl;exact .inl ⟨hl,fun b _ ho=>⟨by rw[hω b (by rw[ho];simp)];exact ho,rfl,fun o h=>h⟩⟩
  ·rw[Gj hge]at hl;have hlz:l=h.length:=by
    rcases GF (l-h.length)with h0|h0
    ·omega
    ·rw[F8 (by simp;omega)]at hl;simp at hl
   subst hlz;simp only[Hz,Ga,FU]at hl;subst hl;exact .inr ⟨w.heap.size,x,hnew,FD w x t,by simp[b9],hcs.mono (am.le_refl S) hext,fun o=>H.wf.none (FZ _) o,fun t' ht'=>⟨x,by rw[htag t' ht'];exact heap_alloc_new w _⟩⟩
 ·intro t' ht'
  have:=H2.slots t' ht'
  cases hv:(e.get t').v with
  |val av=>rw[hv]at this;exact VR.mono (am.le_refl S) hext _ _ this
  |loc B off=>rw[hv]at this;exact this
 ·intro B n hB;obtain⟨h1,h2,h3,b,y,h4,h5,h6,h7,h8⟩:=H2.lblk B n hB;refine⟨h1,h2,h3,b,y,h4,h5,by rw[hω b (by rw[h6];simp)];exact h6,h7,fun i hi=>?_⟩;obtain⟨v,a',g1,g2,g3,g4⟩:=h8 i hi;exact⟨v,a',g1,g2,VR.mono (am.le_refl S) hext _ _ g3,g4⟩
 ·intro g z hg;obtain⟨a',len,cap,g1,g2,g3,g4⟩:=H2.free g z hg;refine⟨a',len,cap,g1,g2,g3,g4.imp id ?_⟩;rintro⟨sz,k,off,y,k1,k2,k3,k4,k5,k6⟩;exact⟨sz,k,off,y,k1,k2,k3,k4,by rw[hω k (by rw[k5];simp)];exact k5,k6⟩
 ·intro b hb;unfold b9 at hb;split at hb
  ·rename_i hbb;subst hbb;exact⟨.inr H.size,by simp⟩
  ·rename_i hbb;exact⟨(H2.mine b hb).1.of_eq (by unfold b9;rw[if_neg hbb]),(H2.mine b hb).2⟩
theorem FR.turnH(H:FR c N U e h a w S β γ lam ω){l b:Nat}{cs cs':List AV}{x y:Array Value}(hl:h[l]? = some cs)(hne:cs≠[])(hb:∃n,β[l]? = some (b,n))(hrow:Row w b x)(hys:y.size=x.size)(hcs:aP S β cs' (y.toList.take cs'.length))(htag:∀t,cd t cs'->cd t cs):
  FR c N U e (h.set l cs') a (w.setRow b y) S β γ lam ω:=by
 obtain⟨n,hb⟩:=hb;obtain⟨h1,h3,h4,h5⟩:=H.heap.of_row hl hne hb hrow;rw[hb]at h1;cases h1;have h2:=hrow;have hlt:l<h.length:=by
  rcases Gd l h.length with h'|h'
  ·exact h'
  ·rw[F8 h']at hl;simp at hl
 have hωb:∀k,ω k≠.heap l->k≠b:=fun k hk=>by rintro rfl;exact hk h3
 have hother:∀k,ω k≠.heap l->(w.setRow b y).heap[k]? = w.heap[k]?:=fun k hk=>cu w b _ (hωb k hk);refine⟨od H hrow fun o v hv=>by rw[h5]at hv;simp at hv,H.gro.trans (Gro.setRow hrow _),fun k hk hE=>?_,H.le,H.ext,by simp[H.hlen],?_,H.tsz,H.slots,H.grps,?_,?_,fun k hk=>⟨(H.mine k hk).1,by simpa using(H.mine k hk).2⟩,H.used⟩
 ·have hkb:k≠b:=by
   rintro rfl
   have:=(H.mine k (by rw[h3];simp)).1.low
   rcases this with h|h
   ·exact hE h
   ·omega
  have:=H.keep k hk hE
  exact⟨by rw[cu w b _ hkb];exact this.1,this.2⟩
 ·refine H.heap.rows (am.le_refl S) (dm.refl β) H.hlen fun j ds hj hd=>?_;rw[G8]at hj;split at hj
  ·rename_i hlj;subst hlj;simp only[FU]at hj;subst hj;exact .inr ⟨b,y,by rw[hb,hys],hrow.setRow,h3,hcs,h5,fun t ht=>by obtain⟨z,hz⟩:=H.heap.tag hl (htag t ht) hb;exact⟨y,setRow_heap w b z y t _ hz⟩⟩
  ·rename_i hlj;exact .inl ⟨hj,fun k _ ho=>⟨ho,hother k (by rw[ho];simp only[H1,Owner.heap.injEq];exact fun h=>hlj h.symm),fun o h=>h⟩⟩
 ·intro B n hB;obtain⟨k1,k2,k3,k,z,k4,k5,k6,k7,k8⟩:=H.lblk B n hB;exact⟨k1,k2,k3,k,z,k4,k5.of_eq (hother k (by rw[k6];simp)),k6,k7,k8⟩
 ·intro g z hg;obtain⟨a',len,cap,g1,g2,g3,g4⟩:=H.free g z hg;refine⟨a',len,cap,g1,g2,g3,g4.imp id ?_⟩;rintro⟨sz,k,off,z',k1,k2,k3,k4,k5,k6⟩;exact⟨sz,k,off,z',k1,k2,k3.of_eq (hother k (by rw[k5];simp)),k4,k5,k6⟩
theorem FR.killH(H:FR c N U e h a w S β γ lam ω)(l:Nat):FR c N U e (h.set l []) a w S β γ lam ω:=by
 refine⟨H.wf,H.gro,H.keep,H.le,H.ext,by simp[H.hlen],?_,H.tsz,H.slots,H.grps,H.lblk,H.free,H.mine,H.used⟩;refine H.heap.rows (am.le_refl S) (dm.refl β) H.hlen fun j ds hj hd=>?_;rw[G8]at hj;split at hj
 ·split at hj
  ·simp only[FU]at hj;exact absurd hj.symm hd
  ·simp at hj
 ·exact .inl ⟨hj,fun k _ ho=>⟨ho,rfl,fun o h=>h⟩⟩
theorem FR.moveH(H:FR c N U e h a w S β γ lam ω){l b:Nat}{cs cs':List AV}{x:Array Value}(hl:h[l]? = some cs)(hne:cs≠[])(hb:∃n,β[l]? = some (b,n))(hrow:Row w b x)(hcs:aP S β cs' (x.toList.take cs'.length))(htag:∀t,cd t cs'->cd t cs):
  ∃ω',FR c N U e (h.set l []++[cs']) a w S (β++[(b,x.size)]) γ lam ω'/\(β++[(b,x.size)])[h.length]? = some (b,x.size)/\dm β (β++[(b,x.size)]):=by
 obtain⟨n,hb⟩:=hb;obtain⟨h1,h3,h4,h5⟩:=H.heap.of_row hl hne hb hrow;rw[hb]at h1;cases h1;have h2:=hrow;have hlt:l<h.length:=by
  rcases Gd l h.length with h'|h'
  ·exact h'
  ·rw[F8 h']at hl;simp at hl
 have hext:dm β (β++[(b,x.size)]):=fun l b hb=>by
  have:l<β.length:=by
   rcases Gd l β.length with h|h
   ·exact h
   ·rw[F8 h]at hb;simp at hb
  rw[Gb this];exact hb
 have hnew:(β++[(b,x.size)])[h.length]? = some (b,x.size):=by rw[<- H.hlen];simp
 have hωb:∀k,ω k≠.heap l->k≠b:=fun k hk=>by rintro rfl;exact hk h3
 have hω:∀k,ω k≠.heap l->b9 ω b (.heap h.length) k=ω k:=fun k hk=>by unfold b9;rw[if_neg (hωb k hk)]
 refine⟨b9 ω b (.heap h.length),⟨H.wf,H.gro,H.keep,H.le,dm.trans H.ext hext,by simp[H.hlen],?_,H.tsz,?_,H.grps,?_,?_,?_,H.used⟩,hnew,hext⟩
 ·refine H.heap.rows (am.le_refl S) hext H.hlen fun j ds hj hd=>?_;rcases Gd j h.length with hlj|hge
  ·rw[Gb (by simpa using hlj),G8]at hj;split at hj
   ·rename_i hlj2;subst hlj2;simp only[FU]at hj;exact absurd hj.symm hd
   ·rename_i hne';exact .inl ⟨hj,fun k _ ho=>⟨by rw[hω k (by rw[ho];simp only[H1,Owner.heap.injEq];exact fun h=>hne' h.symm)];exact ho,rfl,fun o h=>h⟩⟩
  ·rw[Gj (by simpa using hge)]at hj;have hjz:j=h.length:=by
    rcases GF (j-h.length)with h0|h0
    ·omega
    ·rw[F8 (by simp;omega)]at hj;simp at hj
   subst hjz;simp only[HV,Hz,Ga,FU]at hj;subst hj;exact .inr ⟨b,x,hnew,hrow,by simp[b9],hcs.mono (am.le_refl S) hext,h5,fun t ht=>H.heap.tag hl (htag t ht) hb⟩
 ·intro t' ht'
  have:=H.slots t' ht'
  cases hv:(e.get t').v with
  |val av=>rw[hv]at this;exact VR.mono (am.le_refl S) hext _ _ this
  |loc B off=>rw[hv]at this;exact this
 ·intro B n hB;obtain⟨k1,k2,k3,k,z,k4,k5,k6,k7,k8⟩:=H.lblk B n hB;refine⟨k1,k2,k3,k,z,k4,k5,by rw[hω k (by rw[k6];simp)];exact k6,k7,fun i hi=>?_⟩;obtain⟨v,a',g1,g2,g3,g4⟩:=k8 i hi;exact⟨v,a',g1,g2,VR.mono (am.le_refl S) hext _ _ g3,g4⟩
 ·intro g z hg;obtain⟨a',len,cap,g1,g2,g3,g4⟩:=H.free g z hg;refine⟨a',len,cap,g1,g2,g3,g4.imp id ?_⟩;rintro⟨sz,k,off,y,k1,k2,k3,k4,k5,k6⟩;exact⟨sz,k,off,y,k1,k2,k3,k4,by rw[hω k (by rw[k5];simp)];exact k5,k6⟩
 ·intro k hk;unfold b9 at hk;split at hk
  ·rename_i hkk;subst hkk;exact⟨(H.mine k (by rw[h3];simp)).1.of_not (fun g=>by unfold b9;rw[FY rfl];simp),(H.mine k (by rw[h3];simp)).2⟩
  ·rename_i hkk;exact⟨(H.mine k hk).1.of_eq (by unfold b9;rw[if_neg hkk]),(H.mine k hk).2⟩
end
end Go.Av
namespace Go.Av
variable [Dr]
section
variable {c:Entry} {N:Nat} {U:Nat->Prop} {e:Env} {h:Hp} {a:Act} {w:World} {S:am} {β:List a7} {γ:Nat->Value} {lam:Nat->Option Nat} {ω:Nat->Owner}
theorem FR.regrp(H:FR c N U e h a w S β γ lam ω){d:Option Tmp}{r:AV}{v:Value}{gid:Nat}{z:Option Nat}{g0:Option Nat}{w':World}{S':am}{ω':Nat->Owner}(hd:∀t,d=some t->t<N)(hU:∀g,gid<=g->g<gid+1000->¬U g)(hwf:Wf S' w')(hg:Gro w w')(hle:S.le S')(hk:∀k,k<w.heap.size->(∀g,g0=some g->ω k≠.grp g)->w'.heap[k]? = w.heap[k]? /\∀o,S' k o=S k o)(hω:∀k,ω k≠.no->(∀g,g0=some g->ω k≠.grp g)->ω' k=ω k)(hmine:∀b,ω' b≠.no->dR c ω' b/\b<w'.heap.size)(hv:VR S' β r v)(hf:jK S' w' ω' gid z v):
  FR c N (fun g=>U g\/(gid<=g/\g<gid+1000)) (e.upd d { Upd.own r gid z with drop:=g0 }) h (a.put d v) w' S' β (fun g=>if g=gid then v else γ g) lam ω':=by
 have hget:∀t,(e.upd d { Upd.own r gid z with drop:=g0 }).get t=if d=some t then⟨.val r,some gid⟩else e.get t:=fun t=>by rw[bJ];rfl
 have hal:(e.upd d { Upd.own r gid z with drop:=g0 }).al=(gid,z):: cS e.al g0:=rfl;have hlb:(e.upd d { Upd.own r gid z with drop:=g0 }).lb=e.lb:=rfl;have hdl:∀B i:Nat,1000<=B->d≠some (B+i):=fun B i hB hh=>by have h1:B+i<N:=hd _ hh;have h2:=H.tsz.2;omega
 have hdrop:∀g y,aA (cS e.al g0) g=some y->aA e.al g=some y/\g0≠some g:=by
  intro g y hg;cases g0 with
  |none=>exact⟨hg,by simp⟩
  |some k=>
   simp only[cS,gf]at hg;split at hg
   ·simp at hg
   ·rename_i hkg;exact⟨hg,by simpa using hkg⟩
 have hne:∀t g,(e.get t).g=some g->g≠gid:=fun t g hg hh=>hU g (by omega) (by omega) (H.used.1 t g hg);have hna:∀g y,aA e.al g=some y->g≠gid:=fun g y hg hh=>hU g (by omega) (by omega) (H.used.2 g y hg);have halv:∀g y,g≠gid->aA ((gid,z):: cS e.al g0) g=some y->aA e.al g=some y/\g0≠some g:=fun g y hg hy=>by
  rw[bj,if_neg (fun h=>hg h.symm)]at hy;exact hdrop g y hy
 have hrow:∀ {b x},Row w b x->(∀g,g0=some g->ω b≠.grp g)->Row w' b x:=fun hr hb=>hr.of_eq (hk _ hr.lt hb).1;have hsz:=hg.size;refine⟨hwf,H.gro.trans hg,fun b hb hE=>?_,am.le_trans H.le hle,H.ext,H.hlen,?_,by rw[ek];exact H.tsz,fun t ht=>?_,fun t g y ht hgg hz=>?_,fun B n hB=>?_,fun g y hg=>?_,hmine,⟨fun t g hgg=>?_,fun g y hg=>?_⟩⟩
 ·have hnb:∀g,g0=some g->ω b≠.grp g:=fun g _ hbg=>by
   have:=(H.mine b (by rw[hbg];simp)).1.low
   rcases this with h|h
   ·exact hE h
   ·omega
  have h1:=hk b (Gu hb H.size) hnb;have h2:=H.keep b hb hE;exact⟨h1.1.trans h2.1,fun o=>(h1.2 o).trans (h2.2 o)⟩
 ·exact H.heap.rows hle (dm.refl β) H.hlen fun l cs hl _=>.inl ⟨hl,fun b hb ho=>by
   have hnb:∀g,g0=some g->ω b≠.grp g:=fun g _=>by rw[ho];simp
   exact⟨by rw[hω b (by rw[ho];simp) hnb];exact ho,(hk b hb hnb).1,fun o h=>by rw[(hk b hb hnb).2];exact h⟩⟩
 ·rw[hget,eB a d v hd H.tsz.1];split
  ·exact hv
  ·have:=H.slots t ht
   cases hv:(e.get t).v with
   |val av=>rw[hv]at this;exact VR.mono hle (dm.refl β) _ _ this
   |loc B off=>rw[hv]at this;exact this
 ·rw[hget]at hgg;rw[hal]at hz;rw[eB a d v hd H.tsz.1];split at hgg
  ·rename_i hdt;rw[FY hdt];simp only[FU]at hgg;simp[<- hgg]
  ·rename_i hdt;have hg:=hne t g hgg;rw[if_neg hdt,if_neg hg];exact H.grps t g y ht hgg (halv g y hg hz).1
 ·rw[hlb]at hB;obtain⟨h1,h2,h3,b,x,h4,h5,h6,h7,h8⟩:=H.lblk B n hB;have hnb:∀g,g0=some g->ω b≠.grp g:=fun g _=>by rw[h6];simp
  refine⟨h1,h2,h3,b,x,h4,hrow h5 hnb,by rw[hω b (by rw[h6];simp) hnb];exact h6,fun o=>by rw[(hk b h5.lt hnb).2];exact h7 o,fun i hi=>?_⟩;rw[hget,if_neg (hdl B i h2)];obtain⟨u,a',g1,g2,g3,g4⟩:=h8 i hi;refine⟨u,a',g1,g2,VR.mono hle (dm.refl β) _ _ g3,fun g y hg hy=>?_⟩;have hgn:=hne _ g hg;rw[if_neg hgn];rw[hal]at hy;exact g4 g y hg (halv g y hgn hy).1
 ·rw[hal]at hg;by_cases hgg:g=gid
  ·subst hgg;rw[bj,FY rfl]at hg;simp only[FU]at hg;subst hg;simpa using hf
  ·simp only[if_neg hgg];obtain⟨h1,h2⟩:=halv g y hgg hg;obtain⟨a',len,cap,k1,k2,k3,k4⟩:=H.free g y h1;refine⟨a',len,cap,k1,k2,k3,k4.imp id ?_⟩;rintro⟨sz,b,off,x,j1,j2,j3,j4,j5,j6⟩;have hnb:∀g',g0=some g'->ω b≠.grp g':=fun g' hg'=>by
    rw[j5];simp only[H1,Owner.grp.injEq];rintro rfl;exact h2 hg'
   exact⟨sz,b,off,x,j1,j2,hrow j3 hnb,j4,by rw[hω b (by rw[j5];simp) hnb];exact j5,fun o ho=>by rw[(hk b j3.lt hnb).2];exact j6 o ho⟩
 ·rw[hget]at hgg;split at hgg
  ·simp only[FU]at hgg;exact .inr (by omega)
  ·exact .inl (H.used.1 t g hgg)
 ·rw[hal]at hg;by_cases hgg:g=gid
  ·exact .inr (by omega)
  ·exact .inl (H.used.2 g y (halv g y hgg hg).1)
omit [Dr]in
theorem wv{S:am}{β:List a7}{es:List AV}{b off sz sz':Nat}(h:bi S β es b off sz')(hok:cJ sz es=true)(hne:es≠[]):sz'=sz:=by
 cases es with
 |nil=>exact absurd rfl hne
 |cons x es=>
  simp only[bi]at h;simp only[cJ,GR,FV]at hok;obtain⟨⟨v,hv,hs,_⟩,_⟩:=h
  have:=(ej hok.1 hv).1
  omega
open Classical in
theorem FR.app(H:FR c N U e h a w S β γ lam ω){d:Option Tmp}{as bs:List AV}{vx v:Value}{w':World}{gid sz:Nat}{g0:Option Nat}{z:Option Nat}(hd:∀t,d=some t->t<N)(hU:∀g,gid<=g->g<gid+1000->¬U g)(hx:VR S β (.sl as) vx)(hoa:cJ sz as=true)(hfree:(g0=none/\vx= .slice none 0 0)\/∃g,g0=some g/\jK S w ω g z vx)(hz:z=none\/z=some sz)(happ:Appended S β w sz as bs vx v w'):
  ∃S' ω',FR c N (fun g=>U g\/(gid<=g/\g<gid+1000)) (e.upd d { Upd.own (.sl (as++bs)) gid (some sz)with drop:=g0 }) h (a.put d v) w' S' β (fun g=>if g=gid then v else γ g) lam ω':=by
 cases happ with
 | same hb=>
  subst hb;refine⟨S,fun k=>if ∃g,g0=some g/\ω k= .grp g then .grp gid else ω k,H.regrp hd hU H.wf (Gro.refl _) (am.le_refl S) (fun k _ _=>⟨rfl,fun _=>rfl⟩) ?_ ?_ (by simpa using hx) ?_⟩
  ·intro k _ hk;rw[if_neg];rintro⟨g,h1,h2⟩;exact hk g h1 h2
  ·intro b hb
   (try simp only at hb)
   split at hb
   ·rename_i hg;obtain⟨g,_,hg⟩:=hg;exact⟨.inr ((H.mine b (by rw[hg];simp)).1.grp hg),(H.mine b (by rw[hg];simp)).2⟩
   ·rename_i hg;exact⟨(H.mine b hb).1.of_eq (if_neg hg),(H.mine b hb).2⟩
  ·rcases hfree with⟨_,rfl⟩|⟨g,rfl,a',len,cap,h1,h2,h3,h4⟩
   ·exact⟨none,0,0,rfl,FZ _,fun _=>rfl,.inl rfl⟩
   ·refine⟨a',len,cap,h1,h2,h3,h4.imp id ?_⟩;rintro⟨sz',b,off,x,g1,g2,g3,g4,g5,g6⟩;have:sz'=sz:=by rcases hz with rfl|rfl<;>simp_all
    subst this;exact⟨sz',b,off,x,rfl,g2,g3,g4,by(try simp only);rw[FY ⟨g,rfl,g5⟩],g6⟩
 | place b off cap x cs hv hr hlt hc hb hf=>
  subst hv;rcases hfree with⟨_,hcon⟩|⟨g,rfl,a',len,cap',h1,h2,h3,h4⟩
  ·cases hcon
  ·simp only[Value.slice.injEq]at h1;obtain⟨rfl,rfl,rfl⟩:=h1;have hpos:0<bs.length:=Hv.2 hb;rcases h4 with h4|⟨sz',b',off',x',g1,g2,g3,g4,g5,g6⟩
   ·omega
   ·have:sz'=sz:=by rcases hz with rfl|rfl<;>simp_all
    subst this;simp only[FU,Addr.mk.injEq]at g2;obtain⟨rfl,rfl,_⟩:=g2;cases hr.inj g3;have hcl:=hf.1;have hle:(as.length+bs.length)*sz'<=cap*sz':=Gc _ hlt;rw[Gy]at hle;have hynew:∀i,(x.toList.take (off+as.length*sz')++cs++x.toList.drop (off+as.length*sz'+cs.length)).toArray[i]? =
      if off+as.length*sz'<=i/\i<off+as.length*sz'+cs.length then cs[i-(off+as.length*sz')]? else x[i]?:=by
     intro i;have htl:(x.toList.take (off+as.length*sz')).length=off+as.length*sz':=by simp;omega
     simp only[GQ];by_cases hi:i<off+as.length*sz'
     ·rw[Hf,Gb (by omega),Gg,FY hi,if_neg (by omega)];simp
     ·by_cases hi2:i<off+as.length*sz'+cs.length
      ·rw[Hf,Gj (by omega),htl,Gb (by omega),FY (by omega)]
      ·rw[Gj (by simp;omega),GO,if_neg (by omega),GJ];congr 1;simp;omega
    generalize hy:(x.toList.take (off+as.length*sz')++cs++x.toList.drop (off+as.length*sz'+cs.length)).toArray=y at hynew
    -- the new stable cells
    refine⟨fun k o=>if k=b/\off+as.length*sz'<=o/\o<off+as.length*sz'+cs.length then cs[o-(off+as.length*sz')]? else S k o,b9 ω b (.grp gid),?_⟩;have hleS:S.le (fun k o=>if k=b/\off+as.length*sz'<=o/\o<off+as.length*sz'+cs.length then cs[o-(off+as.length*sz')]? else S k o):=by
     intro k o v hv
     (try simp only)
     rw[if_neg]
     ·exact hv
     ·rintro⟨rfl,h1,_⟩;rw[g6 o h1]at hv;simp at hv
    have hysz:y.size=x.size:=by
     rw[<- hy];simp;omega
    refine H.regrp hd hU (fun k o v hv=>?_) (Gro.setRow hr _) hleS (fun k hk hkg=>?_) (fun k hk hkg=>?_) (fun k hk=>?_) ?_ ?_
    ·(try simp only at hv)
     split at hv
     ·rename_i hc';obtain⟨rfl,h1,h2⟩:=hc';rw[hr.setRow.cell,hynew,FY ⟨h1,h2⟩];exact hv
     ·rename_i hc';by_cases hkb:k=b
      ·subst hkb;have hcell:=H.wf k o v hv;rw[hr.cell]at hcell;rw[hr.setRow.cell,hynew,if_neg (fun h=>hc' ⟨rfl,h⟩)];exact hcell
      ·rw[cell_of_heap (cu w b y hkb)];exact H.wf k o v hv
    ·have hkb:k≠b:=by rintro rfl;exact hkg g rfl g5
     exact⟨cu w b y hkb,fun o=>by(try simp only);rw[if_neg (fun h=>hkb h.1)]⟩
    ·unfold b9;rw[if_neg];rintro rfl;exact hkg g rfl g5
    ·unfold b9 at hk;split at hk
     ·rename_i hkb;subst hkb
      have:=H.mine k (by rw[g5];simp)
      exact⟨.inr (this.1.grp g5),by simpa using this.2⟩
     ·rename_i hkb
      have:=H.mine k hk
      exact⟨this.1.of_eq (by unfold b9;rw[if_neg hkb]),by simpa using this.2⟩
    ·-- the value
     simp only[VR]at hx |-;obtain⟨a2,cap2,he,hc2,hn2,hs2⟩:=hx;simp only[Value.slice.injEq]at he;obtain⟨rfl,_,rfl⟩:=he;refine⟨some ⟨b,off,none⟩,cap,by simp,by simpa using hlt,(fun h=>by cases h),fun q hq=>?_⟩;simp only[FU]at hq;subst hq;obtain⟨_,sz2,hel⟩:=hs2 _ rfl;refine⟨fun _=>rfl,sz',?_⟩;have hels:bi S β as b off sz':=by
      by_cases hne:as=[]
      ·subst hne;simp[bi]
      ·have:=wv hel hoa hne
       subst this;exact hel
     refine bi.append (bi.mono hleS (dm.refl β) _ _ _ _ hels) (.of_get fun i x' hx'=>?_);obtain⟨v',hv1,hv2,hv3⟩:=hf.2.1 i x' hx';refine⟨v',VR.mono hleS (dm.refl β) _ _ hv1,hv2,fun j u hu=>?_⟩;have hcs:=hv3 j u (by simpa using hu);simp only[GQ]at hcs;have hlt':i*sz'+j<cs.length:=by
      rcases Gd (i*sz'+j) cs.length with h|h
      ·exact h
      ·rw[F8 h]at hcs;simp at hcs
     (try simp only)
     rw[FY ⟨by trivial,by omega,by omega⟩];rw[show off+as.length*sz'+i*sz'+j-(off+as.length*sz')=i*sz'+j by omega];exact hcs
    ·refine⟨some ⟨b,off,none⟩,as.length+bs.length,cap,rfl,hlt,(fun h=>by cases h),.inr ⟨sz',b,off,y,rfl,rfl,hr.setRow,by rw[hysz];exact hc,by simp[b9],fun o ho=>?_⟩⟩
     (try simp only)
     rw[Gy]at ho;rw[if_neg (by omega)];exact g6 o (by omega)
 | fresh x t cap hlt hc hr hb=>
  have H2:=(H.drew).allocS x t ((as++bs).length*sz);have hsz:w.drew.heap.size=w.heap.size:=rfl;have hωn:ω w.heap.size= .no:=by
   cases ho:ω w.heap.size with
   |no=>rfl
   |_=>have:=(H.mine w.heap.size (by rw[ho];simp)).2;omega
  have hle:(as.length+bs.length)*sz<=cap*sz:=Gc _ hlt;refine⟨S.withRowTo w.heap.size ((as++bs).length*sz) x,b9 ω w.heap.size (.grp gid),H.regrp hd hU H2.wf ((Gro.drew w).trans (Gro.alloc w.drew x t)) ?_ (fun k hk _=>⟨by rw[alloc_old _ _ (by simpa using hk)];rfl,fun o=>?_⟩) (fun k hk _=>?_) (fun k hk=>?_) ?_ ?_⟩
  ·intro k o v hv;unfold am.withRowTo;split
   ·rename_i hk;subst hk;rw[H.wf.none (FZ _)]at hv;simp at hv
   ·exact hv
  ·unfold am.withRowTo;rw[if_neg (by omega)]
  ·unfold b9;rw[if_neg];rintro rfl;exact hk hωn
  ·unfold b9 at hk;split at hk
   ·rename_i hkk;subst hkk;exact⟨.inr H.size,by simp⟩
   ·rename_i hkk
    have:=H.mine k hk
    exact⟨this.1.of_eq (by unfold b9;rw[if_neg hkk]),by simp;omega⟩
  ·simp only[VR];refine⟨some ⟨w.heap.size,0,none⟩,cap,by simp,by simpa using hlt,(fun h=>by cases h),fun q hq=>?_⟩;simp only[FU]at hq;subst hq;refine⟨fun _=>rfl,sz,.of_get fun i x' hx'=>?_⟩;obtain⟨v',hv1,hv2,hv3⟩:=hr i x' hx';have hi:i<(as++bs).length:=by
    rcases Gd i (as++bs).length with h|h
    ·exact h
    ·rw[F8 h]at hx';simp at hx'
   refine⟨v',VR.mono (fun k o v hv=>?_) (dm.refl β) _ _ hv1,hv2,fun j u hu=>?_⟩
   ·unfold am.withRowTo;split
    ·rename_i hk;subst hk;rw[H.wf.none (FZ _)]at hv;simp at hv
    ·exact hv
   ·have hj:j<sz:=by
     rcases Gd j v'.cells.toList.length with h|h
     ·simp[hv2]at h;exact h
     ·rw[F8 h]at hu;simp at hu
    have hm:(i+1)*sz<=(as++bs).length*sz:=Gc _ hi;rw[Gy]at hm;unfold am.withRowTo;rw[FY rfl,FY (Gu (show 0+i*sz+j<i*sz+1*sz by omega) hm),GP];exact hv3 j u (by simpa using hu)
  ·refine⟨some ⟨w.heap.size,0,none⟩,as.length+bs.length,cap,rfl,hlt,(fun h=>by cases h),.inr ⟨sz,w.heap.size,0,x,rfl,rfl,FD w.drew x t,by omega,by simp[b9],fun o ho=>?_⟩⟩;unfold am.withRowTo;rw[FY rfl,if_neg];rw[Gh];exact Nat.not_lt.2 (by simpa using ho)
end
end Go.Av
