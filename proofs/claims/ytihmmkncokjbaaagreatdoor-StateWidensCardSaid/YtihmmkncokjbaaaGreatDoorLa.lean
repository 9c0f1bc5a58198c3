/- The abstract evaluator and plain laws, part 1. Condition: the table of types is the program's. -/
import Derived.Calls
import Derived.Lib.ItoaNum
import Derived.WalkKit
set_option linter.defProp false
set_option linter.unusedSimpArgs false
set_option linter.unusedVariables false
namespace Go
abbrev F7:=@Option.some.injEq
abbrev F8:=@Bool.and_eq_true
abbrev F9:=@cond_true
abbrev Ga:=@Nat.le_refl
abbrev Gb:=@congrArg
abbrev Gc:=@List.getElem?_append_left
abbrev Gd:=@cond_false
abbrev Ge:=@decide_eq_true_eq
abbrev Gf:=@List.length_append
abbrev Gg:=@if_pos
abbrev Gh:=@Nat.eq_of_beq_eq_true
abbrev Gi:=@List.getElem?_eq_none
abbrev Gj:=@List.getElem?_take
abbrev Gk:=@List.all_eq_true
abbrev Gl:=@List.length_take
abbrev Gm:=@List.getElem?_eq_getElem
abbrev Gn:=@List.getElem?_append_right
abbrev Gp:=@Nat.lt_or_ge
abbrev Gq:=@Bool.false_eq_true
abbrev Gr:=@Nat.mul_le_mul_right
abbrev Gs:=@Array.length_toList
abbrev Gt:=@List.mem_cons
abbrev Gu:=@List.length_cons
abbrev Gv:=@Array.getElem?_toList
abbrev Gw:=@List.getElem?_cons_zero
abbrev Gx:=@List.mem_append
abbrev Gy:=@Array.getD_eq_getD_getElem?
abbrev Gz:=@List.eq_nil_of_length_eq_zero
abbrev GA:=@List.drop_eq_getElem_cons
abbrev GC:=@List.getElem_mem
abbrev GD:=@Nat.lt_of_lt_of_le
abbrev GE:=@Nat.zero_add
abbrev GF:=@Array.getElem?_eq_some_iff
abbrev GG:=@List.getD_eq_getElem?_getD
abbrev GH:=@if_false
abbrev GI:=@List.append_assoc
abbrev GJ:=@List.cons_append
abbrev GK:=@Nat.add_mul
abbrev GL:=@Array.getElem?_eq_none
abbrev GM:=@List.length_nil
abbrev GN:=@Nat.eq_zero_or_pos
abbrev GO:=@List.all_cons
abbrev GP:=@if_true
abbrev GQ:=@List.nil_append
abbrev GR:=@List.getElem?_drop
abbrev GT:=@Array.getElem?_eq_getElem
abbrev GU:=@beq_iff_eq
abbrev GV:=@List.mem_cons_of_mem
abbrev GW:=@Bool.not_eq_true'
abbrev GX:=@decide_eq_true
abbrev GY:=@List.map_cons
abbrev GZ:=@List.length_set
abbrev G0:=@List.drop_eq_nil_of_le
abbrev G1:=@getElem!_pos
abbrev G2:=@List.getElem?_toArray
abbrev G3:=@Bool.not_true
abbrev G4:=@Nat.add_zero
abbrev G5:=@Nat.le_trans
abbrev G6:=@Int.toNat_natCast
abbrev G7:=@List.getElem?_set_ne
abbrev G8:=@Option.map_eq_some_iff
abbrev G9:=@Bool.or_eq_true
abbrev Ha:=@Prod.mk.injEq
abbrev Hb:=@decide_eq_false
abbrev Hc:=@List.length_drop
abbrev Hd:=@Bool.eq_false_iff
abbrev He:=@List.mem_of_getElem?
abbrev Hf:=@List.mem_cons_self
abbrev Hg:=@List.mem_of_mem_take
abbrev Hh:=@List.mem_of_mem_drop
abbrev Hi:=@Nat.zero_le
abbrev Hj:=@Bool.not_false
abbrev Hk:=@List.getElem?_map
abbrev Hl:=@List.take_append_drop
abbrev Hm:=@List.size_toArray
abbrev Hn:=@Bool.eq_iff_iff
abbrev Ho:=@beq_eq_false_iff_ne
abbrev Hq:=@Nat.sub_self
abbrev Hr:=@Array.ext'
abbrev Hs:=@List.mem_singleton
abbrev Ht:=@Bool.or_eq_false_iff
abbrev Hu:=@Nat.min_eq_left
abbrev Hv:=@decide_eq_false_iff_not
abbrev Hw:=@List.length_pos_iff
abbrev Hy:=@Array.getElem?_setIfInBounds
abbrev Hz:=@List.length_map
abbrev HC:=@Bool.true_and
abbrev HD:=@of_decide_eq_true
abbrev HE:=@List.getElem?_eq_some_iff
abbrev HF:=@List.take_take
abbrev HG:=@beq_self_eq_true
abbrev HH:=@Array.getElem?_setIfInBounds_ne
abbrev HJ:=@Option.map_some
abbrev HK:=@List.pairwise_cons
abbrev HL:=@Nat.mul_pos
abbrev HM:=@Option.mem_toList
abbrev HO:=@Nat.zero_mul
abbrev HP:=@List.sizeOf_lt_of_mem
abbrev HQ:=@Option.bind_some
abbrev HR:=@List.getElem_map
abbrev HS:=@Array.replicate_succ
abbrev HT:=@Array.replicate_zero
abbrev HU:=@Bool.and_true
abbrev HV:=@Prod.mk.sizeOf_spec
abbrev HW:=@List.append_toArray
abbrev HX:=@List.take_left'
abbrev HY:=@Option.some.inj
abbrev HZ:=@List.mem_or_eq_of_mem_set
abbrev H1:=@Bool.not_eq_false'
abbrev H3:=@List.mem_map
abbrev H4:=@List.mem_filterMap
abbrev H5:=@Bool.and_false
abbrev H6:=@List.length_eq_zero_iff
abbrev H7:=@List.getElem?_set
abbrev H8:=@List.flatMap_cons
abbrev H9:=@List.push_toArray
abbrev Ia:=@List.take_of_length_le
abbrev Ib:=@List.getElem?_set_self
abbrev Ic:=@List.set_eq_take_append_cons_drop
abbrev Ie:=@List.take_append
abbrev Ig:=@decide_eq_decide
abbrev Ih:=@Classical.choose_spec
abbrev Ii:=@Bool.and_eq_false_iff
abbrev Ij:=@List.getElem?_append
abbrev Ik:=@List.getElem?_of_mem
abbrev Il:=@Nat.beq_refl
abbrev Im:=@List.map_append
abbrev Io:=@List.map_congr_left
abbrev Ip:=@List.takeWhile_cons
abbrev Iq:=@Array.getElem?_push
abbrev Ir:=@and_self
abbrev Is:=@List.take_zero
abbrev It:=@List.drop_zero
abbrev Iu:=@List.take_left
abbrev Iv:=@decide_true
abbrev Iw:=@Nat.le_succ
abbrev Ix:=@Array.getElem?_append_left
abbrev Iy:=@Bool.and_self
abbrev Iz:=@Nat.lt_trichotomy
abbrev IA:=@Classical.byContradiction
abbrev IB:=@List.extract_eq_take_drop
abbrev IC:=@Array.mapM_eq_mapM_toList
abbrev ID:=@List.exists_mem_of_ne_nil
abbrev IE:=@List.getElem_append_right
abbrev IF:=@Nat.succ_mul
abbrev IG:=@List.mem_flatMap
abbrev II:=@Array.getElem?_replicate
abbrev IJ:=@List.take_length
abbrev IK:=@Nat.add_sub_cancel_left
abbrev IL:=@List.getElem?_cons_succ
abbrev IM:=@Nat.le_mul_of_pos_right
abbrev IP:=@Option.bind_eq_some_iff
abbrev IQ:=@List.not_any_eq_all_not
abbrev IR:=@List.nodup_cons
abbrev IU:=@List.all_append
abbrev IV:=@List.mem_filter
abbrev IW:=@List.drop_take
abbrev IX:=@List.drop_drop
abbrev IY:=@Bool.false_and
abbrev IZ:=@Nat.not_lt
end Go
namespace Go.Av
inductive AV where
 |any
 |bool (b:Bool)
 |int (k:IntKind) (n:Int)
 |str (s:List UInt8)
 |nilp|nilf|nili
 |agg (cs:List AV)
 |tup (vs:List AV)
 |sl (es:List AV)
 |ip (cs:List AV)
 |hp (l off:Nat)
 |hs (l off len sz:Nat) (ag:Bool)
 |hn
 |fn (f:Fn) (first captured:List AV)
 |iface (t:TypeId) (v:AV)
 |mp (l:Nat)
 |nilm
 |nilb (t:Nat)
 |byt (t:Nat) (n:Int)
 |it (l:Nat)
 deriving Inhabited
abbrev aZ:=Nat×Nat
abbrev ap:=Nat->Nat->Option Value
def cY(S:ap)(b off:Nat)(vs:List Value):Prop:=∀(j:Nat)(v:Value),vs[j]? = some v->S b (off+j)=some v
mutual
def VR(S:ap)(β:List aZ):AV->Value->Prop
 |.any,_=>True
 |.bool b,v=>v= .bool b
 |.int k n,v=>v= .int k n
 |.str s,v=>∃x:ByteArray,v= .string x/\x.data.toList=s
 |.nilp,v=>v= .pointer none
 |.nilf,v=>v= .nilFunc
 |.nili,v=>v= .nilIface
 |.agg cs,v=>∃vs:List Value,v= .agg vs.toArray/\aP S β cs vs
 |.tup cs,v=>∃vs:List Value,v= .tuple vs.toArray/\aP S β cs vs
 | .sl es,v=>∃a cap,v= .slice a es.length cap/\es.length<=cap/\
   (a=none->cap=0)/\∀q,a=some q->(0<cap->q.spot=none)/\∃sz,bg S β es q.block q.off sz
 |.ip cs,v=>∃b off vs,v= .pointer (some ⟨b,off,none⟩)/\aP S β cs vs/\cY S b off vs
 |.hp l off,v=>∃b:aZ,β[l]? = some b/\b.2≠0/\v= .pointer (some ⟨b.1,off,none⟩)
 |.hs l off len sz _,v=>(∃(b:aZ)(cap:Nat),β[l]? = some b/\b.2≠0/\v= .slice (some ⟨b.1,off,none⟩) len cap/\len<=cap/\off+cap*sz<=b.2)\/(len=0/\∃q,v= .slice (some q) 0 0)
 |.hn,v=>v= .slice none 0 0
 |.fn f a c,v=>∃x y:List Value,v= .func f x.toArray y.toArray/\aP S β a x/\aP S β c y
 |.iface t a,v=>∃x,v= .iface t x/\VR S β a x
 |.mp l,v=>∃b:aZ,β[l]? = some b/\b.2=0/\v= .map (some b.1)
 |.nilm,v=>v= .map none
 |.nilb _,v=>v= .pointer none
 |.byt _ n,v=>v= .int .u8 n
 |.it l,v=>∃b:aZ,β[l]? = some b/\b.2=0/\v= .pointer (some ⟨b.1,0,none⟩)
def aP(S:ap)(β:List aZ):List AV->List Value->Prop
 |[],vs=>vs=[]
 |c:: cs,vs=>∃x xs,vs=x:: xs/\VR S β c x/\aP S β cs xs
def bg(S:ap)(β:List aZ):List AV->Nat->Nat->Nat->Prop
 |[],_,_,_=>True
 |e:: es,b,off,sz=>(∃v,VR S β e v/\v.cells.size=sz/\cY S b off v.cells.toList)/\bg S β es b (off+sz) sz
end
def ae:AV->List AV
 |.agg cs=>cs
 |.any=>[]
 |x=>[x]
def bP:AV->Option Nat
 |.any=>none
 |.agg cs=>some cs.length
 |_=>some 1
def ap.le(S S':ap):Prop:=∀b o v,S b o=some v->S' b o=some v
def ap.le_refl(S:ap):S.le S:=fun _ _ _ h=>h
def ap.le_trans{S T U:ap}(h:S.le T)(g:T.le U):S.le U:=fun b o v x=>g b o v (h b o v x)
def cY.mono{S S':ap}(h:S.le S'){b off:Nat}{vs:List Value}(c:cY S b off vs):cY S' b off vs:=
 fun j v x=>h _ _ _ (c j v x)
def cq(β β':List aZ):Prop:=∀(l:Nat)(b:aZ),β[l]? = some b->β'[l]? = some b
def cq.refl(β:List aZ):cq β β:=fun _ _ h=>h
def cq.nil(β:List aZ):cq [] β:=fun l b h=>by simp at h
def cq.trans{a b c:List aZ}(h:cq a b)(g:cq b c):cq a c:=fun l x y=>g l x (h l x y)
mutual
theorem VR.mono{S S':ap}{β β':List aZ}(h:S.le S')(g:cq β β'):(a:AV)->(v:Value)->VR S β a v->VR S' β' a v
 |.any,_,_=>by simp[VR]
 |.bool _,_,x=>by simpa [VR]using x
 |.int _ _,_,x=>by simpa [VR]using x
 |.str _,_,x=>by simpa [VR]using x
 |.nilp,_,x=>by simpa [VR]using x
 |.nilf,_,x=>by simpa [VR]using x
 |.nili,_,x=>by simpa [VR]using x
 |.agg cs,v,x=>by
  simp only[VR]at x |-;obtain⟨vs,rfl,y⟩:=x;exact⟨vs,rfl,aP.mono h g cs vs y⟩
 |.tup cs,v,x=>by
  simp only[VR]at x |-;obtain⟨vs,rfl,y⟩:=x;exact⟨vs,rfl,aP.mono h g cs vs y⟩
 |.sl es,v,x=>by
  simp only[VR]at x |-;obtain⟨a,cap,rfl,hc,hn,hq⟩:=x;refine⟨a,cap,rfl,hc,hn,fun q e=>?_⟩;obtain⟨hs,sz,he⟩:=hq q e;exact⟨hs,sz,bg.mono h g es _ _ _ he⟩
 |.ip cs,v,x=>by
  simp only[VR]at x |-;obtain⟨b,off,vs,rfl,y,z⟩:=x;exact⟨b,off,vs,rfl,aP.mono h g cs vs y,z.mono h⟩
 |.hp l off,v,x=>by
  simp only[VR]at x |-;obtain⟨b,hb,h0,rfl⟩:=x;exact⟨b,g l b hb,h0,rfl⟩
 |.hn,_,x=>by simpa [VR]using x
 |.hs l off len _ _,v,x=>by
  simp only[VR]at x |-;rcases x with⟨b,cap,hb,h0,rfl,hc,hs⟩|x
  ·exact .inl ⟨b,cap,g l b hb,h0,rfl,hc,hs⟩
  ·exact .inr x
 |.fn f a c,v,x=>by
  simp only[VR]at x |-;obtain⟨x,y,rfl,hx,hy⟩:=x;exact⟨x,y,rfl,aP.mono h g a x hx,aP.mono h g c y hy⟩
 |.iface t a,v,x=>by
  simp only[VR]at x |-;obtain⟨y,rfl,hy⟩:=x;exact⟨y,rfl,VR.mono h g a y hy⟩
 |.mp l,v,x=>by
  simp only[VR]at x |-;obtain⟨b,hb,h0,rfl⟩:=x;exact⟨b,g l b hb,h0,rfl⟩
 |.nilm,_,x=>by simpa [VR]using x
 |.nilb _,_,x=>by simpa [VR]using x
 |.byt _ _,_,x=>by simpa [VR]using x
 |.it l,v,x=>by
  simp only[VR]at x |-;obtain⟨b,hb,h0,rfl⟩:=x;exact⟨b,g l b hb,h0,rfl⟩
theorem aP.mono{S S':ap}{β β':List aZ}(h:S.le S')(g:cq β β'):(cs:List AV)->(vs:List Value)->aP S β cs vs->aP S' β' cs vs
 |[],_,x=>by simpa [aP]using x
 |c:: cs,vs,x=>by
  simp only[aP]at x |-;obtain⟨y,ys,rfl,hy,hys⟩:=x;exact⟨y,ys,rfl,VR.mono h g c y hy,aP.mono h g cs ys hys⟩
theorem bg.mono{S S':ap}{β β':List aZ}(h:S.le S')(g:cq β β'):(es:List AV)->(b off sz:Nat)->bg S β es b off sz->bg S' β' es b off sz
 |[],_,_,_,_=>by simp[bg]
 |e:: es,b,off,sz,x=>by
  simp only[bg]at x |-;obtain⟨⟨v,hv,hs,hc⟩,hes⟩:=x;exact⟨⟨v,VR.mono h g e v hv,hs,hc.mono h⟩,bg.mono h g es b (off+sz) sz hes⟩
end
theorem aP.length{S:ap}{β:List aZ}:{cs:List AV} ->{vs:List Value} ->aP S β cs vs->vs.length=cs.length
 |[],_,h=>by simp[aP]at h;simp[h]
 |c:: cs,vs,h=>by
  simp only[aP]at h;obtain⟨y,ys,rfl,_,hys⟩:=h;simp[aP.length hys]
theorem aP.get{S:ap}{β:List aZ}:{cs:List AV} ->{vs:List Value} ->aP S β cs vs->∀ {i:Nat} {c:AV},cs[i]? = some c->∃v,vs[i]? = some v/\VR S β c v
 |[],_,_,i,c,h=>by simp at h
 |c:: cs,vs,h,i,d,hd=>by
  simp only[aP]at h;obtain⟨y,ys,rfl,hy,hys⟩:=h;cases i with
  |zero=>simp at hd;subst hd;exact⟨y,by simp,hy⟩
  |succ i=>simpa using aP.get hys (by simpa using hd)
theorem aP.of_get{S:ap}{β:List aZ}:{cs:List AV} ->{vs:List Value} ->vs.length=cs.length->
  (∀(i:Nat)(c:AV)(v:Value),cs[i]? = some c->vs[i]? = some v->VR S β c v)->aP S β cs vs
 |[],vs,h,_=>by simp[aP];simpa using h
 |c:: cs,[],h,_=>by simp at h
 |c:: cs,v:: vs,h,g=>by
  simp only[aP];exact⟨v,vs,rfl,g 0 c v (by simp) (by simp),aP.of_get (by simpa using h) fun i c' v' h1 h2=>g (i+1) c' v' (by simpa using h1) (by simpa using h2)⟩
def aP.drop{S:ap}{β:List aZ}{cs:List AV}{vs:List Value}(h:aP S β cs vs)(n:Nat):aP S β (cs.drop n) (vs.drop n):=by
 refine .of_get (by simp[h.length]) fun i c v hc hv=>?_;rw[GR]at hc hv;obtain⟨v',hv',hr⟩:=h.get hc;rw[hv]at hv';cases hv';exact hr
def aP.take{S:ap}{β:List aZ}{cs:List AV}{vs:List Value}(h:aP S β cs vs)(n:Nat):aP S β (cs.take n) (vs.take n):=by
 refine .of_get (by simp[h.length]) fun i c v hc hv=>?_;rw[Gj]at hc hv;split at hc
 ·rename_i hlt;rw[Gg hlt]at hv;obtain⟨v',hv',hr⟩:=h.get hc;rw[hv]at hv';cases hv';exact hr
 ·simp at hc
def aP.append{S:ap}{β:List aZ}{cs ds:List AV}{vs ws:List Value}(h:aP S β cs vs)(g:aP S β ds ws):aP S β (cs++ds) (vs++ws):=by
 induction cs generalizing vs with
 |nil=>simp[aP]at h;subst h;simpa using g
 |cons c cs ih=>
  simp only[aP,GJ]at h|-;obtain⟨y,ys,rfl,hy,hys⟩:=h;exact⟨y,ys++ws,rfl,hy,ih hys⟩
def VR.cells{S:ap}{β:List aZ}{a:AV}{v:Value}(h:VR S β a v){n:Nat}(hn:bP a=some n):v.cells.size=n/\aP S β (ae a) v.cells.toList/\(ae a).length=n:=by
 cases a<;>simp only[bP,F7,reduceCtorEq]at hn<;>subst hn<;>simp only[VR]at h<;>simp only[ae,aP,VR]
 case agg cs=>
  obtain⟨vs,rfl,hv⟩:=h;simp[Value.cells,hv,hv.length]
 case bool=>subst h;simp[Value.cells]
 case hn=>subst h;simp[Value.cells]
 case int=>subst h;simp[Value.cells]
 case nilp=>subst h;simp[Value.cells]
 case nilf=>subst h;simp[Value.cells]
 case nili=>subst h;simp[Value.cells]
 case str=>obtain⟨x,rfl,hx⟩:=h;simp[Value.cells,hx]
 case tup=>obtain⟨x,rfl,hx⟩:=h;simp[Value.cells,hx]
 case hp=>obtain⟨b,hb,h0,rfl⟩:=h;exact⟨by simp[Value.cells],⟨_,_,rfl,⟨b,hb,h0,rfl⟩,rfl⟩,rfl⟩
 case mp=>obtain⟨b,hb,h0,rfl⟩:=h;exact⟨by simp[Value.cells],⟨_,_,rfl,⟨b,hb,h0,rfl⟩,rfl⟩,rfl⟩
 case it=>obtain⟨b,hb,h0,rfl⟩:=h;exact⟨by simp[Value.cells],⟨_,_,rfl,⟨b,hb,h0,rfl⟩,rfl⟩,rfl⟩
 case nilm=>subst h;simp[Value.cells]
 case nilb=>subst h;simp[Value.cells]
 case byt=>subst h;simp[Value.cells]
 case hs=>
  rcases h with⟨b,c,hb,h0,rfl,hc⟩|⟨h0,q,rfl⟩
  ·exact⟨by simp[Value.cells],⟨_,_,rfl,.inl ⟨b,c,hb,h0,rfl,hc⟩,rfl⟩,rfl⟩
  ·exact⟨by simp[Value.cells],⟨_,_,rfl,.inr ⟨h0,q,rfl⟩,rfl⟩,rfl⟩
 case iface=>obtain⟨x,rfl,hx⟩:=h;simp[Value.cells,hx]
 case fn=>obtain⟨x,y,rfl,hx,hy⟩:=h;exact⟨by simp[Value.cells],⟨_,_,rfl,⟨x,y,rfl,hx,hy⟩,rfl⟩,rfl⟩
 case ip=>obtain⟨b,o,vs,rfl,hx,hc⟩:=h;exact⟨by simp[Value.cells],⟨_,_,rfl,⟨b,o,vs,rfl,hx,hc⟩,rfl⟩,rfl⟩
 case sl=>obtain⟨x,c,rfl,h1,h2,h3⟩:=h;exact⟨by simp[Value.cells],⟨_,_,rfl,⟨x,c,rfl,h1,h2,h3⟩,rfl⟩,rfl⟩
def VR.acells{S:ap}{β:List aZ}{a:AV}{v:Value}(h:VR S β a v):∃vs:List Value,aP S β (ae a) vs/\∀(j:Nat)(x:Value),vs[j]? = some x->v.cells.toList[j]? = some x:=by
 cases hs:bP a with
 |some n=>exact⟨_,(h.cells hs).2.1,fun _ _ h=>h⟩
 |none=>
  cases a<;>simp[bP]at hs;exact⟨[],by simp[Av.ae,aP],fun j x h=>by simp at h⟩
theorem bg.get{S:ap}{β:List aZ}{sz b:Nat}:{es:List AV} ->{off:Nat} ->bg S β es b off sz->∀ {i:Nat} {e:AV},es[i]? = some e->
  ∃v,VR S β e v/\v.cells.size=sz/\cY S b (off+i*sz) v.cells.toList
 |[],_,_,i,e,h=>by simp at h
 | d:: es,off,h,i,e,he=>by
  simp only[bg]at h;obtain⟨⟨v,hv,hs,hc⟩,hes⟩:=h;cases i with
  |zero=>simp at he;subst he;exact⟨v,hv,hs,by simpa using hc⟩
  |succ i=>
   obtain⟨v',hv',hs',hc'⟩:=bg.get hes (i:=i) (by simpa using he);exact⟨v',hv',hs',by rw[show off+(i+1)*sz=off+sz+i*sz by rw[IF];omega];exact hc'⟩
theorem bg.of_get{S:ap}{β:List aZ}{sz b:Nat}:{es:List AV} ->{off:Nat} ->
  (∀i e,es[i]? = some e->∃v,VR S β e v/\v.cells.size=sz/\cY S b (off+i*sz) v.cells.toList)->bg S β es b off sz
 |[],_,_=>by simp[bg]
 |d:: es,off,h=>by
  simp only[bg];refine⟨by simpa using h 0 d (by simp),.of_get fun i e he=>?_⟩;obtain⟨v',hv',hs',hc'⟩:=h (i+1) e (by simpa using he);exact⟨v',hv',hs',by rw[show off+sz+i*sz=off+(i+1)*sz by rw[IF];omega];exact hc'⟩
def bg.drop{S:ap}{β:List aZ}{es:List AV}{b off sz:Nat}(h:bg S β es b off sz)(n:Nat):bg S β (es.drop n) b (off+n*sz) sz:=by
 refine .of_get fun i e he=>?_;rw[GR]at he;obtain⟨v,h1,h2,h3⟩:=h.get he;exact⟨v,h1,h2,by rw[show off+n*sz+i*sz=off+(n+i)*sz by rw[GK];omega];exact h3⟩
def bg.take{S:ap}{β:List aZ}{es:List AV}{b off sz:Nat}(h:bg S β es b off sz)(n:Nat):bg S β (es.take n) b off sz:=by
 refine .of_get fun i e he=>?_;rw[Gj]at he;split at he
 ·exact h.get he
 ·simp at he
def bg.append{S:ap}{β:List aZ}{es fs:List AV}{b off sz:Nat}(h:bg S β es b off sz)(g:bg S β fs b (off+es.length*sz) sz):bg S β (es++fs) b off sz:=by
 refine .of_get fun i e he=>?_;rw[Ij]at he;split at he
 ·exact h.get he
 ·rename_i hlt;obtain⟨v,h1,h2,h3⟩:=g.get he;refine⟨v,h1,h2,?_⟩;rw[show off+i*sz=off+es.length*sz+(i-es.length)*sz by rw[Nat.sub_mul];have:=Gr sz (Nat.le_of_not_lt hlt);omega];exact h3
def VR.hs_some{S:ap}{β:List aZ}{l off len sz:Nat}{ag:Bool}{v:Value}(h:VR S β (.hs l off len sz ag) v):∃q cap,v= .slice (some q) len cap/\len<=cap:=by
 simp only[VR]at h;rcases h with⟨b,cap,_,_,h,hc,_⟩|⟨h0,q,h⟩
 ·exact⟨_,cap,h,hc⟩
 ·exact⟨q,0,by rw[h,h0],by omega⟩
def VR.hs_pos{S:ap}{β:List aZ}{l off len sz:Nat}{ag:Bool}{v:Value}(h:VR S β (.hs l off len sz ag) v)(h0:0<len):∃(b:aZ)(cap:Nat),β[l]? = some b/\b.2≠0/\v= .slice (some ⟨b.1,off,none⟩) len cap/\len<=cap/\off+cap*sz<=b.2:=by
 simp only[VR]at h;rcases h with h|⟨h1,_⟩
 ·exact h
 ·omega
abbrev Hp:=List (List AV)
inductive R (α:Type) where
 |ok (a:α) (h:Hp)
 |pan (v:AV) (h:Hp)
 |fail
def M(α:Type):=Hp->R α
def aw{α:Type}(a:α):M α:=fun h=>.ok a h
def af{α β:Type}(m:M α)(f:α->M β):M β:=fun h=>
 match m h with
 |.ok a h'=>f a h'
 |.pan v h'=>.pan v h'
 |.fail=>.fail
def c7{α:Type}:M α:=fun _=>.fail
def aj{α:Type}(o:Option α):M α:=fun h=>match o with|some a=>.ok a h|none=>.fail
def dG{α:Type}(v:AV):M α:=fun h=>.pan v h
def aF{α:Type}(c:AV)(x y:M α):M α:=match c with
 |.bool true=>x
 |.bool false=>y
 |_=>c7
def jn{α:Type}(k:List AV->M α)(m:(List AV->M α)->M α):M α:=m k
def ax(c:AV)(want:Bool)(n:Nat)(m:M (List AV)):M (List AV):=match c with
 |.bool b=>bif b== want then m else aw (List.replicate n (.tup []))
 |.tup []=>aw (List.replicate n (.tup []))
 |_=>c7
def bU{α:Type}:Nat->((List AV->M α)->List AV->M α)->List AV->M α
 |0,_,_=>c7
 |n+1,F,vs=>F (bU n F) vs
def ah(l:List AV)(i:Nat):AV:=l.getD i .any
theorem aO{α β:Type}(a:α)(f:α->M β):af (aw a) f=f a:=rfl
theorem aR{α β:Type}(a:α)(f:α->M β):af (aj (some a)) f=f a:=rfl
theorem vJ{α β:Type}(f:α->M β):af (c7) f=c7:=rfl
theorem tR{α β:Type}(v:AV)(f:α->M β):af (dG v) f=dG v:=rfl
def cO{α β γ:Type}(m:M α)(f:α->M β)(g:β->M γ):af (af m f) g=af m fun a=>af (f a) g:=by
 funext h;simp only[af];cases m h<;>rfl
def vK{α:Type}(m:M α):af m aw=m:=by
 funext h;simp only[af];cases hm:m h<;>rfl
def gN:Nat:=4
structure GOKw (w:World):Prop where
 max:∃m,w.cell? ⟨1,0,none⟩=some (.int .i64 m)
 pow:∃t fr,w.heap[0]? = some (.cells (Lib.pow10Tab.map fun z=>Value.int .u64 z).toArray t fr)
 syn:∃t p,w.cell? ⟨2,0,none⟩=some (.iface t p)
 rng:∃t p,w.cell? ⟨3,0,none⟩=some (.iface t p)
def GOKw.mono{w w':World}(hk:∀b,b<gN->w'.heap[b]? = w.heap[b]?)(h:GOKw w):GOKw w':=by
 have hc:∀b,b<gN->∀o,w'.cell? ⟨b,o,none⟩=w.cell? ⟨b,o,none⟩:=fun b hb o=>by simp[World.cell?,hk b hb]
 exact⟨by rw[hc 1 (by decide)];exact h.max,by rw[hk 0 (by decide)];exact h.pow,by rw[hc 2 (by decide)];exact h.syn,by rw[hc 3 (by decide)];exact h.rng⟩
def GOKw.lt{w:World}(h:GOKw w):gN<=w.heap.size:=by
 obtain⟨t,p,hc⟩:=h.rng;rcases Gp 3 w.heap.size with hl|hl
 ·exact hl
 ·simp[World.cell?,GL hl]at hc
def sV:Nat->Option (List AV):=fun _=>none
def ze{w:World}(_:GOKw w):∀g cs,sV g=some cs->∃vs,aP (fun b o=>w.cell? ⟨b,o,none⟩) [] cs vs/\cY (fun b o=>w.cell? ⟨b,o,none⟩) g 0 vs:=fun _ _ h=>by cases h
end Go.Av
namespace Go.Av
inductive TK where
 |other|bool|int (k:IntKind)|str|slice (elem:Nat)|struct|array (len elem:Nat)|iface|ptr|func|map (key elem:Nat)
structure TI where
 agg:Bool
 size:Nat
 bytes:Nat
 kind:TK
 offs:List (Nat×Nat×Bool):=[]
 zero:List AV:=[]
 eqok:Bool:=false
abbrev TT:=Nat->Option TI
def sL:Value->AV
 |.bool b=>.bool b
 |.int k n=>.int k n
 |.string s=>.str s.data.toList
 |.pointer none=>.nilp
 |.slice none 0 0=>.sl []
 |.nilFunc=>.nilf
 |.nilIface=>.nili
 |.map none=>.nilm
 |_=>.any
def cA:Value->AV
 |.agg cs=>.agg (cs.toList.map sL)
 |.tuple vs=>bif vs.isEmpty then .tup []else .any
 |v=>sL v
def qu(ti:TI)(cs:List AV)(off:Nat):Option AV:=
 bif ti.agg then some (.agg ((cs.drop off).take ti.size))else cs[off]?
mutual
def zP(T:TT):Nat->Nat->AV->AV->Option Bool
 |0,_,_,_=>none
 | d+1,t,x,y=>match T t with
  |none=>none
  |some ti=>match ti.kind,x,y with
   |.bool,.bool a,.bool b=>some (a== b)
   |.int _,.int k a,.int k' b=>if k=k' then some (a== b)else none
   |.str,.str a,.str b=>some (a== b)
   |.ptr,.nilp,.nilp=>some true
   |.ptr,.nilp,.ip _=>some false
   |.ptr,.ip _,.nilp=>some false
   |.ptr,.nilp,.hp _ _=>some false
   |.ptr,.hp _ _,.nilp=>some false
   |.iface,.nili,.iface _ _=>some false
   |.iface,.iface _ _,.nili=>some false
   |.struct,.agg xs,.agg ys=>bif ti.eqok then rt T d ti.offs xs ys else none
   |.slice _,.hn,.hn=>some true
   |.slice _,.sl (_:: _),.hn=>some false
   |.slice _,.hs _ _ _ _ _,.hn=>some false
   |.iface,.nili,.nili=>some true
   |_,_,_=>none
def rt(T:TT):Nat->List (Nat×Nat×Bool)->List AV->List AV->Option Bool
 |_,[],_,_=>some true
 |0,_:: _,_,_=>none
 | d + 1,(o,t,named):: fs,xs,ys=>
  bif named then
   match T t with
   |none=>none
   | some ti=>match qu ti xs o,qu ti ys o with
    |some a,some b=>match zP T d t a b with
     |some true=>rt T d fs xs ys
     |some false=>some false
     |none=>none
    |_,_=>none
  else rt T d fs xs ys
end
def aC:List UInt8->List UInt8->Bool
 |_,[]=>false
 |[],_:: _=>true
 |a:: x,b:: y=>a<b||(a== b&&aC x y)
def Dy(op:BinOp)(k:IntKind)(a b:Int):Option AV:=
 match op with
 |.add=>some (.int k (k.wrap (a+b)))
 |.sub=>some (.int k (k.wrap (a-b)))
 |.mul=>some (.int k (k.wrap (a*b)))
 |.quo=>if b=0 then none else some (.int k (k.wrap (a.tdiv b)))
 |.rem=>if b=0 then none else some (.int k (a.tmod b))
 |.and=>some (.int k (k.wrap (BitVec.ofInt k.bits a &&& BitVec.ofInt k.bits b).toNat))
 |.or=>some (.int k (k.wrap (BitVec.ofInt k.bits a ||| BitVec.ofInt k.bits b).toNat))
 |.xor=>some (.int k (k.wrap (BitVec.ofInt k.bits a ^^^ BitVec.ofInt k.bits b).toNat))
 |.andNot=>some (.int k (k.wrap (BitVec.ofInt k.bits a &&& ~~~ BitVec.ofInt k.bits b).toNat))
 |.eql=>some (.bool (a== b))
 |.neq=>some (.bool (a != b))
 |.lss=>some (.bool (a<b))
 |.leq=>some (.bool (a<=b))
 |.gtr=>some (.bool (a>b))
 |.geq=>some (.bool (a >= b))
 |_=>none
def Eb(op:BinOp)(a b:List UInt8):Option AV:=
 match op with
 |.add=>if a.length+b.length<=4611686018427387904 then some (.str (a++b))else none
 |.eql=>some (.bool (a== b))
 |.neq=>some (.bool !(a== b))
 |.lss=>some (.bool (aC a b))
 |.leq=>some (.bool (aC a b||a== b))
 |.gtr=>some (.bool !(aC a b||a== b))
 |.geq=>some (.bool !(aC a b))
 |_=>none
def FD(op:BinOp)(k:IntKind)(a b:Int):Option AV:=
 if b<0 then none else
 match op with
 |.shl=>some (.int k (k.wrap (a*2 ^ (min b.toNat k.bits))))
 |.shr=>some (.int k (a.fdiv (2 ^ (min b.toNat k.bits))))
 |_=>none
def oo:BinOp->Bool
 |.shl|.shr=>true
 |_=>false
def az(T:TT)(op:BinOp)(t:TypeId)(x y:AV):Option AV:=
 match x,y with
 |.int k a,.int k' b=>bif oo op then FD op k a b else if k=k' then Dy op k a b else none
 |.str a,.str b=>Eb op a b
 |x,y=>match op with
  |.eql=>(zP T 20 t x y).map .bool
  |.neq=>(zP T 20 t x y).map fun b=>.bool !b
  |_=>none
def iq(op:UnOp)(x:AV):Option AV:=
 match op,x with
 |.not,.bool b=>some (.bool !b)
 |.neg,.int k n=>some (.int k (k.wrap (0-n)))
 |_,_=>none
def lm(T:TT)(src dst:TypeId)(x:AV):Option AV:=
 match T src,T dst with
 |some _,some d=>match d.kind,x with
  |.int k,.int _ n=>some (.int k (k.wrap n))
  |.str,.str s=>some (.str s)
  |_,_=>none
 |_,_=>none
def aa(T:TT)(t:TypeId)(x:AV)(f:Nat):Option AV:=
 match T t with
 |none=>none
 | some ti=>match ti.offs[f]? with
  |none=>none
  | some (o,ft,_)=>match T ft with
   |none=>none
   |some fi=>if fi.size=0 then none else
    match x with
    |.ip cs=>some (.ip (cs.drop o))
    |.hp l off=>some (.hp l (off+o))
    |_=>none
def ay(T:TT)(t:TypeId)(x i:AV):Option AV:=
 match T t,i with
 | some ti,.int _ n=>match ti.kind,x with
  | .slice e,.sl es=>match T e with
   |some ei=>if n<0 then none else match es[n.toNat]? with
    |some a=>if bP a=some ei.size then some (.ip (ae a))else none
    |none=>none
   |none=>none
  |.slice e,.hs l off len _ _=>match T e with
   |some ei=>if 0<=n/\n<len then some (.hp l (off+n.toNat*ei.size))else none
   |none=>none
  |.array m e,.ip cs=>match T e with
   |some ei=>if 0<=n/\n<m then some (.ip (cs.drop (n.toNat*ei.size)))else none
   |none=>none
  |.array m e,.hp l off=>match T e with
   |some ei=>if 0<=n/\n<m then some (.hp l (off+n.toNat*ei.size))else none
   |none=>none
  |_,_=>none
 |_,_=>none
def am(T:TT)(t:TypeId)(x:AV):Option AV:=
 match T t,x with
 |some ti,.ip cs=>bif ti.agg then(if ti.size<=cs.length then some (.agg (cs.take ti.size))else none)else cs.head?
 |_,_=>none
def jb:AV->Option AV
 |.ip cs=>some (.ip cs)
 |.hp l off=>some (.hp l off)
 |.iface t v=>some (.iface t v)
 |.fn (.func f) a c=>some (.fn (.func f) a c)
 |_=>none
def dM(T:TT)(t:TypeId)(x i:AV):Option AV:=
 match T t,i with
 | some ti,.int _ n=>match ti.kind,x with
  |.str,.str s=>if n<0 then none else s[n.toNat]?.map fun b=>.int .u8 b.toNat
  |.array m e,.agg cs=>match T e with
   |some ei=>if 0<=n/\n<m then qu ei cs (n.toNat*ei.size)else none
   |none=>none
  |_,_=>none
 |_,_=>none
def we(T:TT)(t:TypeId)(x:AV)(f:Nat):Option AV:=none
def cr(x:Option AV)(dflt most:Nat):Option Nat:=
 match x with
 |none=>some dflt
 |some (.int _ n)=>if 0<=n/\n<=most then some n.toNat else none
 |some _=>none
def aE:AV->Bool
 |.any|.agg _|.tup _|.nilb _|.byt _ _|.it _=>false
 |_=>true
def bo(sz:Nat)(e:AV):Bool:=bP e== some sz&&(ae e).all aE
def b6(sz:Nat)(es:List AV):Bool:=es.all (bo sz)
def rL:AV->Bool
 |.str _=>true
 |_=>false
def oL(T:TT)(t:TypeId)(x:AV)(lo hi mx:Option AV):Option AV:=
 match T t with
 |none=>none
 | some ti=>match ti.kind,x with
  | .str,.str s=>match mx with
   |some _=>none
   | none=>match cr hi s.length s.length with
    |none=>none
    |some h=>match cr lo 0 h with
     |none=>none
     |some l=>some (.str ((s.take h).drop l))
  | .slice e,.sl es=>match T e with
   |none=>none
   | some ei=>match cr hi es.length es.length with
    |none=>none
    | some h=>match cr lo 0 h with
     |none=>none
     | some l=>bif decide (l=0)||b6 ei.size es then
      (match mx with
      |none=>some (.sl ((es.take h).drop l))
      |some m=>match hi,cr (some m) 0 es.length with
       |some _,some m'=>if m'=h then some (.sl ((es.take h).drop l))else none
       |_,_=>none)
      else none
  | .slice e,.hn=>match T e with
   |none=>none
   | some _=>match mx with
    |some _=>none
    | none=>match cr hi 0 0 with
     |none=>none
     |some h=>match cr lo 0 h with
      |none=>none
      |some _=>some .hn
  | .slice e,.hs l0 off len sz ag=>match T e with
   |none=>none
   | some ei=>match mx with
    |some _=>none
    | none=>match cr hi len len with
     |none=>none
     |some h=>match cr lo 0 h with
      |none=>none
      |some l=>if ei.size=sz then(if l<h then some (.hs l0 (off+l*sz) (h-l) sz ag)else some (.sl []))else none
  |.array m e,.ip cs=>match T e,lo,hi,mx with
   |some ei,none,none,none=>if ei.size=1/\cs.length=m/\0<m/\cs.all rL=true then some (.sl cs)else none
   |_,_,_,_=>none
  |_,_=>none
def sf(T:TT)(t:TypeId)(x:AV)(lo hi mx:Option AV):Option AV:=none
def Ff(T:TT)(t:TypeId)(x:AV)(lo:Option AV):Option AV:=none
def setCells(cs:List AV)(off:Nat)(xs:List AV):List AV:=cs.take off++xs++cs.drop (off+xs.length)
def mZ(place:Nat->Option (Nat×Nat))(cs:List AV):List (Nat×AV)->Option (List AV)
 |[]=>some cs
 |(i,v):: rest=>match place i with
  |none=>none
  |some (off,size)=>if bP v=some size/\off+size<=cs.length then mZ place (setCells cs off (ae v)) rest else none
def eI(T:TT):List (Nat×Nat×Bool)->Option (List (Nat×Nat))
 |[]=>some []
 |(o,t,_):: fs=>match T t,eI T fs with
  |some ti,some r=>some ((o,ti.size):: r)
  |_,_=>none
def cp(told:Bool)(ti:TI):List AV:=bif told then ti.zero.map (fun|.sl []=>.hn|x=>x)else ti.zero
def ct(T:TT)(told:Bool)(t:TypeId)(parts:List (Nat×AV)):Option AV:=
 match T t with
 |none=>none
 | some ti=>match ti.kind with
  |.struct=>match eI T ti.offs with
   |none=>none
   |some pl=>(mZ (fun i=>pl[i]?) (cp told ti) parts).map .agg
  |.array _ e=>match T e with
   |none=>none
   |some ei=>(mZ (fun i=>some (i*ei.size,ei.size)) (cp told ti) parts).map .agg
  |_=>none
def mq(ti:TI):AV:=bif ti.agg then .agg ti.zero else ah ti.zero 0
def iV(sz:Nat)(es:List AV):List (Nat×AV)->Option (List AV)
 |[]=>some es
 |(i,v):: rest=>if bP v=some sz/\i<es.length then iV sz (es.set i v) rest else none
def bm(T:TT)(t:TypeId)(len:Nat)(parts:List (Nat×AV)):Option AV:=
 match T t with
 |none=>none
 | some ti=>match ti.kind with
  |.slice e=>match T e with
   |none=>none
   |some ei=>if len*ei.size<=16777216/\bP (mq ei)=some ei.size then(iV ei.size (List.replicate len (mq ei)) parts).map .sl else none
  |_=>none
def iI(T:TT)(t:TypeId)(len cap:AV):Option AV:=none
def fW:AV->Option (List AV)
 |.sl es=>some es
 |.hn=>some []
 |.hs _ _ 0 _ _=>some []
 |.str s=>some (s.map fun b=>.int .u8 b.toNat)
 |_=>none
def jl:AV->Nat->Bool
 |.str _,n=>Nat.beq n 1
 |_,_=>true
def ew(T:TT)(t:TypeId)(x y:AV):Option AV:=
 match T t with
 |none=>none
 | some ti=>match ti.kind with
  | .slice e=>match T e with
   |none=>none
   |some ei=>match x,fW y with
    |.sl as,some bs=>bif b6 ei.size as&&b6 ei.size bs&&decide ((as.length+bs.length)*ei.bytes<=140737488355328)&&decide (0<ei.bytes)&&jl y ei.size then some (.sl (as++bs))else none
    |_,_=>none
  |_=>none
def bq(T:TT)(t:TypeId)(x:AV):Option AV:=
 match T t with
 |none=>none
 |some ti=>match ti.kind,x with
  |.slice _,.sl es=>some (.int .i64 es.length)
  |.slice _,.hs _ _ n _ _=>some (.int .i64 n)
  |.slice _,.hn=>some (.int .i64 0)
  |.str,.str s=>some (.int .i64 s.length)
  |.array n _,_=>some (.int .i64 n)
  |_,_=>none
def wM(big:Bool):AV->AV->Option AV
 |.int k x,.int _ y=>some (.int k (bif big then(if y>x then y else x)else(if y<x then y else x)))
 |_,_=>none
def fZ(big:Bool):List AV->Option AV
 |[]=>none
 |[x]=>some x
 |x:: y:: r=>match wM big x y with
  |some z=>fZ big (z:: r)
  |none=>none
 termination_by l=>l.length
def bh(x:AV)(i:Nat):Option AV:=match x with
 |.tup vs=>vs[i]?
 |_=>none
def aV(c a b:AV):Option AV:=match c with
 |.bool true=>some a
 |.bool false=>some b
 |_=>none
def lP(T:TT)(t:TypeId)(x:AV):Option AV:=match T t with
 |none=>none
 |some ti=>match ti.kind with
  |.iface=>none
  |_=>some (.iface t x)
def qM:AV->Option Nat
 |.nilb t=>some t
 |.byt t _=>some t
 |_=>none
def lG(a:AV):Bool:=(qM a).isSome
def newH(cs:List AV):M AV:=fun h=>bif cs.isEmpty||cs.any lG then .fail else .ok (.hp h.length 0) (h++[cs])
def yT(t:Nat)(cs:List AV):M AV:=fun _=>.fail
def dH(T:TT)(t:TypeId)(x:AV):M AV:=fun h=>
 match x with
 | .hp l off=>match T t,h[l]? with
  | some ti,some cs=>bif ti.agg then(if off+ti.size<=cs.length then .ok (.agg ((cs.drop off).take ti.size)) h else .fail)
   else match cs[off]? with
    |some v=>.ok v h
    |none=>.fail
  |_,_=>.fail
 |x=>match am T t x with
  |some v=>.ok v h
  |none=>.fail
def fS(T:TT)(t:TypeId)(x v:AV):M AV:=fun h=>
 match x,T t with
 |.hp l off,some ti=>match h[l]? with
  |some cs=>bif bo ti.size v&&decide (off+ti.size<=cs.length)&&decide (0<ti.size)then .ok (.tup []) (h.set l (setCells cs off (ae v)))else .fail
  |none=>.fail
 |_,_=>.fail
def appH(T:TT)(t:TypeId)(z:Bool)(x y:AV):M AV:=fun h=>
 match T t with
 |none=>.fail
 | some ti=>match ti.kind with
  | .slice e=>match T e with
   |none=>.fail
   | some ei=>match fW y with
    |none=>.fail
    | some bs=>bif b6 ei.size bs&&decide (0<ei.bytes)&&decide (0<ei.size)&&jl y ei.size then
      match x with
      |.hn=>bif bs.isEmpty then .ok .hn h else
       bif decide (bs.length*ei.bytes<=140737488355328)then .ok (.hs h.length 0 bs.length ei.size ei.agg) (h++[bs.flatMap ae])else .fail
      |.sl []=>bif z then(bif bs.isEmpty then .ok (.sl []) h else
       bif decide (bs.length*ei.bytes<=140737488355328)then .ok (.hs h.length 0 bs.length ei.size ei.agg) (h++[bs.flatMap ae])else .fail)else .fail
      | .hs l 0 len sz ag=>match h[l]? with
       |none=>.fail
       | some cs=>bif sz== ei.size&&ag== ei.agg&&cs.all aE&&decide (len*sz<=cs.length)&&decide (0<cs.length)&&decide ((len+bs.length)*ei.bytes<=140737488355328)then
         (bif bs.isEmpty then .ok (.hs l 0 len sz ag) h
         else .ok (.hs h.length 0 (len+bs.length) sz ag) ((h.set l [])++[cs.take (len*sz)++bs.flatMap ae]))
        else .fail
      |_=>.fail
     else .fail
  |_=>.fail
def xP(T:TT)(t:TypeId)(x y:AV):M AV:=fun _=>.fail
def fF(T:TT)(t:TypeId)(len:Nat)(parts:List (Nat×AV)):M AV:=fun h=>
 match bm T t len parts with
 | some (.sl es)=>match T t with
  |none=>.fail
  | some ti=>match ti.kind with
   |.slice e=>match T e with
    |none=>.fail
    |some ei=>bif b6 ei.size es&&decide (0<ei.size)&&decide (0<len)then .ok (.hs h.length 0 len ei.size ei.agg) (h++[es.flatMap ae])else .fail
   |_=>.fail
 |_=>.fail
def tf(T:TT)(t:TypeId)(len cap:AV):M AV:=fun _=>.fail
def eV(ag:Bool)(sz:Nat):Nat->List AV->List AV
 |0,_=>[]
 |n+1,cs=>(bif ag then .agg (cs.take sz)else ah cs 0):: eV ag sz n (cs.drop sz)
def mJ(h:Hp):AV->Option (List AV)
 |.hs l off len sz ag=>match h[l]? with
  |some cs=>bif (ag||Nat.beq sz 1)&&decide (off+len*sz<=cs.length)&&((cs.drop off).take (len*sz)).all aE then some (eV ag sz len (cs.drop off))else none
  |none=>none
 |.hn=>some []
 |.sl es=>some es
 |_=>none
def o8(T:TT)(t:TypeId)(x y:AV):M AV:=fun h=>match mJ h y with
 |some es=>(match ew T t x (.sl es)with
  |some v=>.ok v h
  |none=>.fail)
 |none=>.fail
def nW(T:TT)(t:TypeId)(x:AV):M AV:=fun _=>.fail
def kJ:M AV:=fun _=>.fail
def qh(T:TT)(t:TypeId)(x k:AV)(ok:Bool):M AV:=fun _=>.fail
def BH(T:TT)(t:TypeId)(x k v:AV):M AV:=fun _=>.fail
def DY(ps:List Nat):AV:=.sl (ps.map fun(i:Nat)=>.int .i64 i)
def oI(T:TT)(t:TypeId)(x:AV):M AV:=fun _=>.fail
def ln(x:AV):M AV:=fun _=>.fail
mutual
def cl(g:Nat->Nat->Nat->Nat->Bool->AV):AV->AV
 |.agg cs=>.agg (cU g cs)
 |.tup cs=>.tup (cU g cs)
 |.sl es=>.sl (cU g es)
 |.ip cs=>.ip (cU g cs)
 |.hp _ _=>.any
 |.hs l off len sz ag=>g l off len sz ag
 |.hn=>.sl []
 |.fn f a c=>.fn f (cU g a) (cU g c)
 |.iface t v=>.iface t (cl g v)
 |.any=>.any
 |.bool b=>.bool b
 |.int k n=>.int k n
 |.str s=>.str s
 |.nilp=>.nilp
 |.nilf=>.nilf
 |.nili=>.nili
 |.mp _=>.any
 |.nilm=>.nilm
 |.nilb _=>.nilp
 |.byt _ n=>.int .u8 n
 |.it _=>.any
def cU(g:Nat->Nat->Nat->Nat->Bool->AV):List AV->List AV
 |[]=>[]
 |c:: cs=>cl g c:: cU g cs
end
def aB:Nat->Nat->Nat->Nat->Bool->AV:=fun _ _ _ _ _=>.any
def gO:Nat->Hp->AV->AV
 |0,_,a=>cl aB a
 | d + 1,h,a=>cl (fun l off len sz ag=>match h[l]? with
   | some cs=>bif decide (off+len*sz<=cs.length)&&decide (0<sz)&&(ag||(Nat.beq sz 1&&cs.all aE))then
     .sl ((List.range len).map fun i=>gO d h (bif ag then .agg ((cs.drop (off+i*sz)).take sz)else ah cs (off+i*sz)))else .any
   |none=>.any) a
inductive SV where
 |val (a:AV)
 |loc (B off:Nat)
structure Ent where
 v:SV
 g:Option Nat
def Ent.none:Ent:=⟨.val .any,.none⟩
def bi:List (Nat×Ent)->Nat->Ent
 |[],_=>Ent.none
 |(k,e):: r,t=>bif Nat.beq k t then e else bi r t
structure Env where
 sl:List (Nat×Ent)
 al:List (Nat×Option Nat)
 nx:Nat
 lb:List (Nat×Nat)
def Env.get(e:Env)(t:Nat):Ent:=bi e.sl t
def Env.set(e:Env)(t:Nat)(x:Ent):Env:={ e with sl:=(t,x):: e.sl }
def Ent.av(x:Ent):AV:=match x.v with
 |.val a=>a
 |.loc _ _=>.any
def Env.av(e:Env)(t:Nat):AV:=(e.get t).av
def opnd(e:Env):Operand->AV
 |.tmp t=>e.av t
 |.const v=>cA v
 |.func f=>.fn (.func f) [] []
 |.global g=>(match sV g with|some cs=>.ip cs|none=>.any)
inductive Kind where
 |F|L|H|S|B
 deriving DecidableEq
structure JA where
 vals:List (Nat×Option Nat)
 locs:List (Nat×Nat×Nat):=[]
 lbs:List (Nat×Nat):=[]
 fz:Bool:=false
structure Ann where
 iso:Bool:=true
 kinds:List (Nat×Kind):=[]
 hl:List Nat:=[]
 ha:List Nat:=[]
 hb:List Nat:=[]
 joins:List (Nat×JA):=[]
 loops:List (Nat×JA):=[]
 ords:List (Nat×List Nat):=[]
 nils:List (Nat×List Nat):=[]
 fz:List Nat:=[]
 no:List Nat:=[]
 nl:List Nat:=[]
 lw:List Nat:=[]
 rz:Bool:=false
 so:List Nat:=[]
 deriving Inhabited
def bA(l:List (Nat×Kind))(t:Nat)(dflt:Kind):Kind:=match l with
 |[]=>dflt
 |(k,x):: r=>bif Nat.beq k t then x else bA r t dflt
def kf(l:List (Nat×JA))(t:Nat):Option JA:=match l with
 |[]=>none
 |(k,x):: r=>bif Nat.beq k t then some x else kf r t
def wi(l:List (Nat×List Nat))(t:Nat):Option (List Nat):=match l with
 |[]=>none
 |(k,x):: r=>bif Nat.beq k t then some x else wi r t
def dp(l:List Nat)(t:Nat):Bool:=match l with
 |[]=>false
 |k:: r=>bif Nat.beq k t then true else dp r t
def bb(l:List Nat):Option Nat->Bool
 |some t=>dp l t
 |none=>false
structure Cx where
 T:TT
 call:FuncId->List AV->M AV
 own:FuncId->Option Nat
 iso:FuncId->Bool
 nw:FuncId->Bool:=fun _=>false
 nt:Nat
 ann:Ann
def aA(al:List (Nat×Option Nat))(g:Nat):Option (Option Nat):=match al with
 |[]=>none
 |(k,x):: r=>bif Nat.beq k g then some x else aA r g
def mW(al:List (Nat×Option Nat))(g:Nat):List (Nat×Option Nat):=match al with
 |[]=>[]
 |(k,x):: r=>bif Nat.beq k g then mW r g else(k,x):: mW r g
def aS(d:Nat):Nat:=1000*(d+1)
def fY(e:Env)(B:Nat):Nat->List AV
 |0=>[]
 |n+1=>fY e B n++[e.av (B+n)]
def aI(l:List (Nat×Nat))(B:Nat):Option Nat:=match l with
 |[]=>none
 |(k,x):: r=>bif Nat.beq k B then some x else aI r B
def eT(e:Env)(B off n:Nat):Bool:=match aI e.lb B with
 |some m=>decide (off+n<=m)&&decide (1000<=B)&&decide (B % 1000=0)&&decide (m<=1000)
 |none=>false
def fG(n:Nat)(x:AV):Option (List AV):=bif bo n x then some (ae x)else none
def bJ(call:FuncId->List AV->M AV)(f:AV)(args:List AV):M AV:=match f with
 |.fn (.func g) a c=>call g (a++args++c)
 |_=>c7
def bW(T:TT)(t:TypeId):Option Nat:=match T t with
 |some ti=>match ti.kind with
  |.slice e=>(T e).map (·.size)
  |_=>none
 |none=>none
def aQ:Operand->Bool
 |.const (.slice none 0 0)=>true
 |_=>false
def je(e:Env)(x:Operand):AV:=bif aQ x then .hn else opnd e x
def kq(told:Bool)(e:Env)(x:Operand):AV:=bif told then je e x else opnd e x
structure Upd where
 ent:Ent
 ls:List (Nat×Ent):=[]
 drop:Option Nat:=none
 add:List (Nat×Option Nat):=[]
 lb:Option (Nat×Nat):=none
 unlb:Option Nat:=none
def Upd.ofV(a:AV):Upd:={ ent:=⟨.val a,none⟩ }
def Upd.own(a:AV)(gid:Nat)(sz:Option Nat):Upd:={ ent:=⟨.val a,some gid⟩,add:=[(gid,sz)] }
def cP(al:List (Nat×Option Nat)):Option Nat->List (Nat×Option Nat)
 |some g=>mW al g
 |none=>al
def ig(l:List (Nat×Nat))(B:Nat):List (Nat×Nat):=match l with
 |[]=>[]
 |(k,x):: r=>bif Nat.beq k B then ig r B else(k,x):: ig r B
def cu(l:List (Nat×Nat)):Option Nat->List (Nat×Nat)
 |some B=>ig l B
 |none=>l
def gd{α:Type}(l:List α):Option α->List α
 |some x=>x:: l
 |none=>l
def mu(d:Option Tmp)(x:Ent)(r:List (Nat×Ent)):List (Nat×Ent):=match d with
 |some t=>(t,x):: r
 |none=>r
def Env.upd(e:Env)(d:Option Tmp)(u:Upd):Env:=
 { sl:=mu d u.ent (u.ls++e.sl),al:=u.add++cP e.al u.drop,nx:=e.nx,lb:=gd (cu e.lb u.unlb) u.lb }
inductive Act1 where
 |bad
 |stat (u:Upd)
 |dyn (m:M AV) (sh:AV->Upd)
 |thr (v:AV)
def fM(B:Nat)(cs:List AV)(offs:List Nat)(gid n:Nat):List (Nat×Ent):=
 (List.range n).map fun i=>(B+i,bif dp offs i then⟨.val (.sl []),some (gid+i)⟩else⟨.val (ah cs i),none⟩)
def kC(offs:List Nat)(gid:Nat):List (Nat×Option Nat):=offs.map fun i=>(gid+i,none)
def Be:AV->Bool
 |.hn=>true
 |_=>false
def fc(cs:List AV)(offs:List Nat)(n:Nat):Bool:=offs.all fun i=>decide (i<n)&&Be (ah cs i)
def dh(l:List (Nat×List Nat))(t:Nat):List Nat:=match wi l t with
 |some x=>x
 |none=>[]
def aM(l:List (Nat×Ent))(B:Nat):Bool:=l.all fun x=>match x.2.v with
 |.loc C _=>!(Nat.beq C B)
 |.val _=>true
def ep(T:TT)(t:Nat):Bool:=match T t with
 |some ti=>(match ti.kind with|.slice _|.str=>true|_=>false)
 |none=>false
def oN(z:Option Nat)(s:Option Nat):Bool:=match z with
 |none=>true
 |some n=>(match s with|some m=>Nat.beq n m|none=>false)
def bn(n:Nat)(x:AV):M AV:=aj ((fG n x).map .agg)
def ek(x:AV):M AV:=aj (bif aE x then some x else none)
def aK(n:Nat)(offs:List Nat)(x:AV):M AV:=aj (match fG n x with
 |some cs=>bif fc cs offs n then some (.agg cs)else none
 |none=>none)
def pO(v:AV):M AV:=fun h=>.ok (gO 6 h v) (h.map fun _=>[])
def ez(e:Env):Operand->Bool
 |.tmp s=>(match (e.get s).g with
  |some g=>(match aA e.al g with|some none=>true|_=>false)
  |none=>false)
 |_=>false
def dD(cx:Cx)(e:Env)(gid:Nat)(o:Oper)(c:Call):Act1:=
 match c.callee with
 |.value (.func f)=>bif bb cx.ann.fz o.dst then(bif !(cx.iso f)&&!(cx.nw f)&&(cx.own f).isNone then .dyn (af (cx.call f (c.args.toList.map (opnd e))) pO) .ofV else .bad)else
  .dyn (cx.call f (c.args.toList.map (kq (bb cx.ann.hb o.dst) e))) fun v=>match cx.own f with|some sz=>.own v gid (some sz)|none=>.ofV v
 |.value f=>.dyn (bJ cx.call (opnd e f) (c.args.toList.map (opnd e))) .ofV
 |.builtin .len=>match c.argTypes.toList,c.args.toList with
  |t:: _,x:: _=>.dyn (aj (bq cx.T t (opnd e x))) .ofV
  |_,_=>.bad
 |.builtin .clear=>match c.argTypes.toList,c.args.toList with
  |t:: _,x:: _=>.dyn (nW cx.T t (opnd e x)) .ofV
  |_,_=>.bad
 |.builtin .min=>.dyn (aj (fZ false (c.args.toList.map (opnd e)))) .ofV
 |.builtin .max=>.dyn (aj (fZ true (c.args.toList.map (opnd e)))) .ofV
 | .builtin .append=>match c.argTypes.toList,c.args.toList with
  | [t, u],[x,y]=>
   bif !(ep cx.T u)then .bad else
   bif bb cx.ann.ha o.dst then .dyn (bif bb cx.ann.hb o.dst then xP cx.T t (opnd e x) (opnd e y)else appH cx.T t (ez e x) (opnd e x) (opnd e y)) .ofV
   else bif aQ x then .dyn (bif bb cx.ann.hl o.dst then o8 cx.T t (.sl []) (opnd e y)else aj (ew cx.T t (.sl []) (opnd e y))) fun v=>.own v gid (bW cx.T t)
   else match x with
    | .tmp s=>match (e.get s).g with
     |none=>.bad
     | some g=>match aA e.al g with
      |none=>.bad
      | some z=>bif oN z (bW cx.T t)then
        .dyn (bif bb cx.ann.hl o.dst then o8 cx.T t (opnd e x) (opnd e y)else aj (ew cx.T t (opnd e x) (opnd e y))) fun v=>{ Upd.own v gid (bW cx.T t)with drop:=some g }
       else .bad
    |_=>.bad
  |_,_=>.bad
 |_=>.bad
def cH(cx:Cx)(e:Env)(d:Option Tmp)(t:TypeId)(p:Nat):Act1:=
 match (e.get p).v with
 | .loc B off=>match cx.T t with
  |none=>.bad
  | some ti=>bif eT e B off ti.size then
    (bif ti.agg then .stat (.ofV (.agg (fY e (B+off) ti.size)))else bif decide (ti.size=1)then .stat { ent:=e.get (B+off) }else .bad)
   else .bad
 |.val a=>bif bb cx.ann.hl d then .dyn (dH cx.T t a) .ofV else .dyn (aj (am cx.T t a)) .ofV
def B2:Act1->Act1
 |.bad=>.bad
 |.stat u=>.dyn (pO u.ent.av) .ofV
 |.dyn m sh=>.dyn (af m fun v=>pO (sh v).ent.av) .ofV
 |.thr v=>.thr v
def ul:Kind->Bool
 |.S=>true
 |_=>false
def iJ(e:Env)(B off p n:Nat):Bool:=Nat.beq off 0&&Nat.beq B (aS p)&&(match aI e.lb B with
 |some m=>Nat.beq m n
 |none=>false)
def dE(cx:Cx)(e:Env)(gid:Nat)(t:TypeId)(p:Nat)(y:Operand):Act1:=
 match (e.get p).v with
 | .loc B off=>match cx.T t with
  |none=>.bad
  | some ti=>bif eT e B off ti.size then
    (bif ul (bA cx.ann.kinds p .L)then(bif iJ e B off p ti.size then
      .dyn (bn ti.size (opnd e y)) fun v=>{ Upd.ofV (.tup [])with ls:=[(p,⟨.val (.ip (ae v)),none⟩)],unlb:=some B }
     else .bad)
    else
    bif ti.agg then
     (match dh cx.ann.nils p with
     |offs=>.dyn (aK ti.size offs (opnd e y)) fun v=>{ Upd.ofV (.tup [])with ls:=fM (B+off) (ae v) offs gid ti.size,add:=kC offs gid })
    else bif decide (ti.size=1)then(match y with
     |.tmp s=>match (e.get s).v with
      |.val a=>.dyn (ek a) fun _=>{ Upd.ofV (.tup [])with ls:=[(B+off,e.get s)] }
      |.loc _ _=>.bad
     |y=>bif aQ y then .stat { Upd.ofV (.tup [])with ls:=[(B+off,⟨.val (.sl []),some gid⟩)],add:=[(gid,none)] }
      else .dyn (ek (opnd e y)) fun v=>{ Upd.ofV (.tup [])with ls:=[(B+off,⟨.val v,none⟩)] })else .bad)
   else .bad
 |.val a=>.dyn (fS cx.T t a (opnd e y)) .ofV
def eA(cx:Cx)(e:Env)(t:TypeId)(p f:Nat):Act1:=
 match (e.get p).v with
 | .loc B off=>match cx.T t with
  |none=>.bad
  | some ti=>match ti.offs[f]? with
   |none=>.bad
   |some (o',ft,_)=>match cx.T ft with
    |none=>.bad
    |some fi=>bif decide (fi.size=0)then .bad else .stat { ent:=⟨.loc B (off+o'),none⟩ }
 |.val a=>.dyn (aj (aa cx.T t a f)) .ofV
def ll:Operand->Option Int
 |.const (.int _ n)=>some n
 |_=>none
def cn(cx:Cx)(e:Env)(t:TypeId)(p:Nat)(i:Operand):Act1:=
 match (e.get p).v with
 | .loc B off=>match cx.T t,ll i with
  | some ti,some n=>match ti.kind with
   |.array m el=>match cx.T el with
    |none=>.bad
    |some ei=>bif decide (0<=n/\n<m)then .stat { ent:=⟨.loc B (off+n.toNat*ei.size),none⟩ }else .bad
   |_=>.bad
  |_,_=>.bad
 |.val a=>.dyn (aj (ay cx.T t a (opnd e i))) .ofV
def dk(cx:Cx)(e:Env)(gid s:Nat)(t:TypeId):Act1:=
 match cx.T t with
 |none=>.bad
 | some ti=>match bA cx.ann.kinds s .L with
  |.F=>.stat (.ofV (.ip ti.zero))
  |.H=>.dyn (newH (cp (dp cx.ann.hb s) ti)) .ofV
  |.B=>.dyn (yT t (cp true ti)) .ofV
  |_=>match dh cx.ann.nils s with
   | offs=>bif decide (ti.size<1000)&&aM e.sl (aS s)&&fc (cp true ti) offs ti.size then
     .stat { ent:=⟨.loc (aS s) 0,none⟩,ls:=fM (aS s) (cp (dp cx.ann.hb s) ti) offs gid ti.size,add:=kC offs gid,lb:=some (aS s,ti.size) }else .bad
def gD(cx:Cx)(e:Env)(s:Nat)(t:TypeId)(x:Operand):Act1:=
 match bA cx.ann.kinds s .F with
 |.F=>.stat (.ofV (.ip (ae (opnd e x))))
 |.H=>.dyn (newH (ae (opnd e x))) .ofV
 |.B=>.bad
 | _=>match cx.T t with
  |none=>.bad
  | some ti=>bif decide (ti.size<1000)&&aM e.sl (aS s)then
    .dyn (bn ti.size (opnd e x)) fun v=>{ ent:=⟨.loc (aS s) 0,none⟩,ls:=fM (aS s) (ae v) [] 0 ti.size,lb:=some (aS s,ti.size) }
   else .bad
def eO(told:Bool)(e:Env)(gid:Nat)(x:Operand):Act1:=match x with
 |.tmp t=>.stat { ent:=e.get t }
 |x=>bif aQ x then(bif told then .stat (.ofV .hn)else .stat (.own (.sl []) gid none))else .stat (.ofV (opnd e x))
def eL(x:Ent):Bool:=match x.v with
 |.loc _ _=>true
 |.val _=>false
def Fl:AV->M AV
 |.iface t v=>dG (.iface t v)
 |_=>c7
def isLit:Operand->Bool
 |.const _=>true
 |_=>false
def lA(T:TT)(op:BinOp)(t:TypeId)(x y:Operand):Bool:=
 (match op with|.eql|.neq=>true|_=>false)&&(match T t with|some ti=>(match ti.kind with|.iface=>true|_=>false)|none=>false)&&!(isLit x)&&!(isLit y)
def gE(cx:Cx)(e:Env)(d:Option Tmp)(t:TypeId)(m k x:Operand):Act1:=match d with
 |none=>.dyn (BH cx.T t (opnd e m) (opnd e k) (opnd e x)) .ofV
 |some _=>.bad
def vX(T:TT)(t:TypeId)(z:Nat):Bool:=match bW T t with
 |some m=>Nat.beq z m
 |none=>false
def jd(cx:Cx)(e:Env)(gid:Nat)(t:TypeId)(x:Operand)(lo hi mx:Option Operand):Act1:=match x with
 | .tmp s=>(match (e.get s).g with
  |none=>.bad
  | some g=>(match aA e.al g with
   | some (some z)=>bif vX cx.T t z&&hi.isNone&&mx.isNone then
     .dyn (aj (Ff cx.T t (opnd e x) (lo.map (opnd e)))) fun v=>{ Upd.own v gid (some z)with drop:=some g }
    else .bad
   |_=>.bad))
 |_=>.bad
def dq(cx:Cx)(e:Env)(gid:Nat)(o:Oper):Act1:=
 match o.op with
 |.move x=>eO (bb cx.ann.hb o.dst) e gid x
 |.assign x=>eO (bb cx.ann.hb o.dst) e gid x
 |.pick c a b=>.dyn (aj (aV (opnd e c) (opnd e a) (opnd e b))) .ofV
 |.box t x=>match o.dst with
  |none=>.bad
  |some s=>gD cx e s t x
 |.alloc t=>match o.dst with
  |none=>.bad
  |some s=>dk cx e gid s t
 |.load t x=>match x with
  |.tmp p=>bif bb cx.ann.nl o.dst&&eL (e.get p)then .bad else bif bb cx.ann.fz o.dst then B2 (cH cx e o.dst t p)else cH cx e o.dst t p
  |_=>.bad
 |.store t x y=>match x,o.dst with
  |.tmp p,none=>bif dp cx.ann.lw p&&!(eL (e.get p))then .bad else dE cx e gid t p y
  |_,_=>.bad
 |.build t parts=>.dyn (aj (ct cx.T (bb cx.ann.hb o.dst) t (parts.toList.map fun p=>(p.1,opnd e p.2)))) .ofV
 |.buildSlice t n parts=>bif bb cx.ann.ha o.dst then .dyn (fF cx.T t n (parts.toList.map fun p=>(p.1,opnd e p.2))) .ofV else .dyn (aj (bm cx.T t n (parts.toList.map fun p=>(p.1,opnd e p.2)))) fun v=>bif bb cx.ann.no o.dst then .ofV v else .own v gid none
 | .nilCheck x=>match x with
  |.tmp p=>match (e.get p).v with
   |.loc _ _=>.stat { ent:=e.get p }
   |.val a=>.dyn (aj (jb a)) .ofV
  |_=>.bad
 |.binOp op t x y _=>bif lA cx.T op t x y then .bad else .dyn (aj (az cx.T op t (je e x) (je e y))) .ofV
 |.unOp op _ x=>.dyn (aj (iq op (opnd e x))) .ofV
 |.convert s t x=>.dyn (aj (lm cx.T s t (opnd e x))) .ofV
 |.makeInterface t x=>.dyn (aj (lP cx.T t (opnd e x))) .ofV
 |.makeFunc f a c=>.stat (.ofV (.fn f (a.toList.map (opnd e)) (c.toList.map (opnd e))))
 |.makeSlice t n c=>bif bb cx.ann.ha o.dst then .dyn (tf cx.T t (opnd e n) (opnd e c)) .ofV else .dyn (aj (iI cx.T t (opnd e n) (opnd e c))) fun v=>.own v gid (bW cx.T t)
 |.slice t x lo hi mx=>bif bb cx.ann.so o.dst then jd cx e gid t x lo hi mx else
  .dyn (aj (bif bb cx.ann.hb o.dst then sf cx.T t (opnd e x) (lo.map (opnd e)) (hi.map (opnd e)) (mx.map (opnd e))else oL cx.T t (opnd e x) (lo.map (opnd e)) (hi.map (opnd e)) (mx.map (opnd e)))) fun v=>bif mx.isSome then .own v gid none else .ofV v
 |.fieldAddr t x f=>match x with
  |.tmp p=>eA cx e t p f
  |_=>.bad
 |.indexAddr t x i=>match x with
  |.tmp p=>cn cx e t p i
  |.global g=>.dyn (aj (ay cx.T t (opnd e (.global g)) (opnd e i))) .ofV
  |_=>.bad
 |.field t x f=>.dyn (aj (we cx.T t (opnd e x) f)) .ofV
 |.index t x i=>.dyn (aj (dM cx.T t (opnd e x) (opnd e i))) .ofV
 |.extract x i=>.dyn (aj (bh (opnd e x) i)) .ofV
 |.panic x=>.dyn (Fl (opnd e x)) .ofV
 |.call c=>dD cx e gid o c
 |.makeMap _ r=>bif r.isSome then .bad else .dyn kJ .ofV
 |.lookup t x i ok=>.dyn (qh cx.T t (opnd e x) (opnd e i) ok) .ofV
 |.mapUpdate t m k x=>gE cx e o.dst t m k x
 |.insert t m k x=>gE cx e o.dst t m k x
 |.range t x=>.dyn (oI cx.T t (opnd e x)) .ofV
 |.entry x=>.dyn (ln (opnd e x)) .ofV
 |_=>.bad
def aJ(e:Env)(d:Option Tmp):Act1->M Env
 |.bad=>c7
 |.stat u=>aw (e.upd d u)
 |.dyn m sh=>af m fun v=>aw (e.upd d (sh v))
 |.thr v=>dG v
def aY(cx:Cx)(e:Env)(gid:Nat)(o:Oper):M Env:=aJ e o.dst (dq cx e gid o)
def guardOf(ops:Array Oper)(i:Nat):Option (Nat×Bool):=match ops[i]? with
 |some o=>o.guard
 |none=>none
def tC:Option (Nat×Bool)->Option (Nat×Bool)->Bool
 |none,none=>true
 |some (a,x),some (b,y)=>Nat.beq a b&&(x== y)
 |_,_=>false
def ck(ops:Array Oper):List Nat->List (Option (Nat×Bool)×List Nat)
 |[]=>[]
 |i:: is=>match ck ops is with
  |(g,js):: r=>bif tC (guardOf ops i) g then(g,i:: js):: r else(guardOf ops i,[i]):: (g,js):: r
  |[]=>[(guardOf ops i,[i])]
def eP(o:Oper):List Nat:=o.op.operands.toList.filterMap fun|.tmp t=>some t|_=>none
def bQ(ops:Array Oper)(i:Nat):List Nat:=match ops[i]? with
 |none=>[]
 |some o=>(match o.guard with
  |some (j,_)=>(match (ops[j]?).bind (·.dst)with|some t=>[t]|none=>[])
  |none=>[])++eP o
def cj(ops:Array Oper)(i:Nat):Option Nat:=(ops[i]?).bind (·.dst)
def bK(ops:Array Oper)(is:List Nat):List Nat:=is.filterMap (cj ops)
def sB(ops:Array Oper)(gs:List (Option (Nat×Bool)×List Nat))(t:Nat):Bool:=
 gs.any fun g=>g.2.any fun i=>dp (bQ ops i) t
def bZ(ops:Array Oper)(is:List Nat)(gs:List (Option (Nat×Bool)×List Nat)):List Nat:=(bK ops is).filter (sB ops gs)
def forget(e:Env):List Nat->Env
 |[]=>e
 |t:: ts=>(forget e ts).set t Ent.none
def dF(e:Env)(vs:List AV)(i:Nat):List Nat->Env
 |[]=>e
 |t:: ts=>(dF e vs (i+1) ts).set t ⟨.val (ah vs i),none⟩
structure Foot where
 rl:Bool:=false
 wl:Bool:=false
 rh:Bool:=false
 wh:Bool:=false
 piv:Bool:=false
 ad:Bool:=false
 dr:Bool:=false
 nw:Bool:=false
def ak(cx:Cx)(o:Oper):Foot:=match o.op with
 |.move x=>{ ad:=aQ x }
 |.assign x=>{ ad:=aQ x }
 |.load ..=>{ rl:=!(bb cx.ann.nl o.dst),rh:=bb cx.ann.hl o.dst,wh:=bb cx.ann.fz o.dst }
 |.store _ x y=>{ wl:=true,wh:=!(match x with|.tmp p=>dp cx.ann.lw p|_=>false),ad:=(match x with|.tmp p=>!(dh cx.ann.nils p).isEmpty|_=>false)||aQ y }
 |.alloc _=>match o.dst with
  |some s=>(match bA cx.ann.kinds s .L with|.F=>{}|.H=>{ wh:=true }|.B=>{ wh:=true }|_=>{ wl:=true,ad:=!(dh cx.ann.nils s).isEmpty })
  |none=>{}
 |.box ..=>match o.dst with
  |some s=>(match bA cx.ann.kinds s .F with|.F=>{}|.H=>{ wh:=true }|.B=>{ wh:=true }|_=>{ wl:=true })
  |none=>{}
 |.buildSlice ..=>bif bb cx.ann.ha o.dst then{ wh:=true }else{ ad:=!(bb cx.ann.no o.dst) }
 |.makeSlice ..=>bif bb cx.ann.ha o.dst then{ wh:=true }else{ ad:=true }
 |.slice _ _ _ _ mx=>bif bb cx.ann.so o.dst then{ ad:=true,dr:=true }else{ ad:=mx.isSome }
 |.panic _=>{ wh:=true,piv:=true }
 |.makeMap ..=>{ wh:=true }
 |.lookup ..=>{ rh:=true }
 |.mapUpdate ..=>{ wh:=true }
 |.insert ..=>{ wh:=true }
 |.range ..=>{ wh:=true }
 |.entry ..=>{ rh:=true }
 |.call c=>match c.callee with
  |.builtin .clear=>{ wh:=true }
  |.value (.func f)=>bif cx.iso f then{ ad:=(cx.own f).isSome }else{ wh:=true,piv:=true,nw:=cx.nw f,ad:=(cx.own f).isSome }
  |.value _=>{ wh:=true,piv:=true }
  |.builtin .append=>bif bb cx.ann.ha o.dst then{ wh:=true,dr:=true }else{ ad:=true,rh:=bb cx.ann.hl o.dst,dr:=match c.args.toList with|x:: _=>!aQ x|[]=>false }
  |_=>{}
 |_=>{}
def br(o:Oper):Option Nat:=match o.op with
 |.store _ (.tmp p) _=>some p
 |_=>none
def da(cx:Cx)(o:Oper):Bool:=!(ak cx o).wl&&!(ak cx o).dr
def dU(u:Upd):Upd:={ ent:=⟨u.ent.v,none⟩ }
def et:Act1->Act1
 |.bad=>.bad
 |.stat u=>.stat (dU u)
 |.dyn m sh=>.dyn m fun v=>dU (sh v)
 |.thr v=>.thr v
def iE(x:Ent):Bool:=match x.v with
 |.val _=>true
 |.loc _ _=>false
section
variable {ρ:Type}
def iS(e:Env)(d:Option Tmp)(a:Act1)(k:Env->M ρ):M ρ:=match a with
 |.bad=>c7
 |.stat u=>k (e.upd d u)
 |.dyn m sh=>af m fun v=>k (e.upd d (sh v))
 |.thr v=>dG v
def eY(cx:Cx)(base:Nat)(ops:Array Oper)(st:Bool):List Nat->Env->(Env->M ρ)->M ρ
 |[],e,k=>k e
 |i:: is,e,k=>match ops[i]? with
  |none=>c7
  |some o=>iS e o.dst (bif st then et (dq cx e ((base+i)*1000) o)else dq cx e ((base+i)*1000) o) fun e'=>eY cx base ops st is e' k
def cG(cx:Cx)(base:Nat)(ops:Array Oper):List (Option (Nat×Bool)×List Nat)->Env->(Env->M ρ)->M ρ
 |[],e,k=>k e
 |(none,is):: gs,e,k=>eY cx base ops false is e fun e'=>cG cx base ops gs e' k
 | (some (j,want),is):: gs,e,k=>
  match cj ops j with
  |none=>c7
  | some t=>
   let outs:=bZ ops is gs
   bif (is.all fun i=>match ops[i]? with|some o=>da cx o&&o.dst.isSome|none=>false)&&!(dp (bK ops is) t)then
    af (ax (e.av t) want outs.length (eY cx base ops true is e fun e'=>bif outs.all (fun t=>iE (e'.get t))then aw (outs.map e'.av)else c7)) fun vs=>
     cG cx base ops gs (dF (forget e (bK ops is)) vs 0 outs) k
   else c7
end
def clash:Option Nat->Option Nat->Bool
 |some s,some t=>Nat.beq s t
 |_,_=>false
def DC(o:Oper):Bool:=match o.op with
 |.load _ (.tmp _)=>true
 |_=>false
def Dz(o:Oper):Bool:=match o.op with
 |.alloc _=>o.guard.isNone
 |_=>false
def iZ(cx:Cx)(ops:Array Oper)(i j:Nat):Bool:=match ops[i]?,ops[j]? with
 |some a,some b=>
  let x:=ak cx a;let y:=ak cx b
  !x.piv&&!(x.wl&&(y.rl||y.wl))&&!(x.rl&&y.wl&&!(DC a&&Dz b))&&!(x.wh&&(y.rh||y.wh))&&!(x.rh&&y.wh&&!y.nw) &&
  !(x.dr&&(y.dr||y.ad))&&!(x.ad&&y.dr)&&!(x.ad&&y.ad&&(x.wl||y.wl)) &&
  !(bb (bQ ops j) a.dst)&&!(bb (bQ ops i) b.dst)&&!(bb (bQ ops j) (br a))&&!(bb (bQ ops i) (br b)) &&
  !(clash (br a) b.dst)&&!(clash a.dst (br b))&&!(clash a.dst b.dst)
 |_,_=>false
def e9(acc:List Nat):List Edge->Nat
 |[]=>0
 |x:: xs=>bif Region.binds .any x then e9 acc xs ||| 2 ^ x.on ||| acc.getD x.on 0 else e9 acc xs
def q7:List Oper->List Nat->List Nat
 |[],acc=>acc
 |o:: os,acc=>q7 os (acc++[e9 acc o.after.toList])
def fR(cx:Cx)(ops:Array Oper)(bf:List Nat):List Nat->Bool
 |[]=>true
 |i:: is=>!((bf.getD i 0).testBit i)&&(is.all fun j=>!((bf.getD i 0).testBit j)&&((bf.getD j 0).testBit i||iZ cx ops i j))&&fR cx ops bf is
def wR(n:Nat)(ord:List Nat):Bool:=Nat.beq ord.length n&&((List.range n).all fun i=>dp ord i)
def distinct:List Nat->Bool
 |[]=>true
 |i:: is=>!(dp is i)&&distinct is
def fg(n:Nat)(ops:Array Oper):Bool:=ops.all fun o=>(match o.dst with|some t=>decide (t<n)|none=>true)&&(eP o).all fun t=>decide (t<1000)
def dy{α:Type}(m:M α):M α:=fun h=>match m h with
 |.ok a h'=>.ok a h'
 |.pan _ _=>.fail
 |.fail=>.fail
def df(cx:Cx):Cx:={ cx with call:=fun f args=>bif cx.iso f then dy (cx.call f args)else cx.call f args }
def iy(cx:Cx)(ops:Array Oper)(ord:List Nat):Bool:=
 wR ops.size ord&&distinct ord&&(ord.all fun i=>decide (i<ops.size))&&(q7 ops.toList []).all (fun m=>decide (m<2 ^ ops.size))&&fR cx ops (q7 ops.toList []) ord
def nB(cx:Cx)(id n:Nat):List Nat:=match wi cx.ann.ords id with
 |some l=>l
 |none=>List.range n
def j9{ρ:Type}(cx:Cx)(id:Nat)(ops:Array Oper)(draw:Bool)(e:Env)(k:Env->M ρ):M ρ:=
 bif fg cx.nt ops then
  (bif draw then
   (bif iy cx ops (nB cx id ops.size)then cG (df cx) e.nx ops (ck ops (nB cx id ops.size)) e fun e'=>k { e' with nx:=e.nx+ops.size }else c7)
  else cG cx e.nx ops (ck ops (List.range ops.size)) e fun e'=>k { e' with nx:=e.nx+ops.size })
 else c7
noncomputable def ju{ρ:Type}(cx:Cx)(id:Nat)(ops:Array Oper)(draw:Bool)(e:Env)(k:Env->M ρ):M ρ:=j9 cx id ops draw e k
def ec(e:Env):List (Nat×Option Nat)->List Nat->Option (List AV)
 |[],_=>some []
 | (t,none):: r,used=>match (e.get t).v with
  |.val a=>match ec e r used with
   |some vs=>some (a:: vs)
   |none=>none
  |.loc _ _=>none
 | (t,some sz):: r,used=>match (e.get t).v,(e.get t).g with
  | .val a,some g=>match aA e.al g with
   |none=>none
   | some z=>bif (match z with|none=>true|some n=>Nat.beq n sz)&&!(dp used g)then
     match ec e r (g:: used)with
     |some vs=>some (a:: vs)
     |none=>none
    else none
  |_,_=>none
def lM(e:Env):List (Nat×Nat×Nat)->Bool
 |[]=>true
 |(t,B,off):: r=>(match (e.get t).v with
  |.loc B' off'=>Nat.beq B B'&&Nat.beq off off'
  |.val _=>false)&&lM e r
def qf(e:Env):List (Nat×Nat)->Bool
 |[]=>true
 |(B,n):: r=>(match aI e.lb B with
  |some m=>Nat.beq n m
  |none=>false)&&qf e r
def pack(ja:JA)(e:Env):Option (List AV):=
 bif lM e ja.locs&&qf e ja.lbs then ec e ja.vals []else none
def bG(vs:List AV):Nat->List (Nat×Option Nat)->List (Nat×Ent)
 |_,[]=>[]
 |i,(t,none):: r=>(t,⟨.val (ah vs i),none⟩):: bG vs (i+1) r
 |i,(t,some _):: r=>(t,⟨.val (ah vs i),some i⟩):: bG vs (i+1) r
def fA:Nat->List (Nat×Option Nat)->List (Nat×Option Nat)
 |_,[]=>[]
 |i,(_,none):: r=>fA (i+1) r
 |i,(_,some sz):: r=>(i,some sz):: fA (i+1) r
def unpack(ja:JA)(vs:List AV):Env:=
 { sl:=bG vs 0 ja.vals++ja.locs.map (fun x=>(x.1,⟨.loc x.2.1 x.2.2,none⟩)),al:=fA 0 ja.vals,nx:=ja.vals.length,lb:=ja.lbs }
def iO:Code->Option Nat
 |.cond (.tmp t) _ _=>some t
 |.seq _ y=>iO y
 |.block id _=>some (1000000+id)
 |_=>none
abbrev cQ(ρ:Type):=((List AV->M ρ)->List AV->M ρ)->List AV->M ρ
def Fy(vs:List AV):M (List AV):=fun h=>.ok (vs.map (gO 6 h)) (h.map fun _=>[])
def mh{ρ:Type}(ja:JA)(j:List AV->M ρ)(e:Env):M ρ:=match pack ja e with
 |some vs=>bif ja.fz then af (Fy vs) j else j vs
 |none=>c7
section
variable {ρ:Type}
noncomputable def ev(cx:Cx)(fx:cQ ρ):Code->Env->(Env->M ρ)->(Nat->Env->M ρ)->(Env->M ρ)->M ρ
 |.skip,e,kn,_,_=>kn e
 |.region id ops draw,e,kn,_,_=>ju cx id ops draw e kn
 |.seq x y,e,kn,kx,kr=>
  match (match iO x with|some t=>kf cx.ann.joins t|none=>none)with
  |some ja=>jn (fun vs=>ev cx fx y (unpack ja vs) kn kx kr) fun j=>ev cx fx x e (mh ja j) kx kr
  |none=>ev cx fx x e (fun e'=>ev cx fx y e' kn kx kr) kx kr
 |.cond (.tmp t) x y,e,kn,kx,kr=>bif decide (t<1000)then aF (e.av t) (ev cx fx x e kn kx kr) (ev cx fx y e kn kx kr)else c7
 |.cond (.const v) x y,e,kn,kx,kr=>aF (cA v) (ev cx fx x e kn kx kr) (ev cx fx y e kn kx kr)
 |.block id (.loop b),e,kn,kx,kr=>
  match kf cx.ann.loops id with
  |none=>c7
  |some ja=>mh ja (fx fun self vs=>ev cx fx b (unpack ja vs) (mh ja self) (fun i e'=>bif Nat.beq i id then kn e' else kx i e') kr) e
 |.block id c,e,kn,kx,kr=>ev cx fx c e kn (fun i e'=>bif Nat.beq i id then kn e' else kx i e') kr
 |.exit id,e,_,kx,_=>kx id e
 |.ret,e,_,_,kr=>kr e
 |_,_,_,_,_=>c7
end
def qD(T:TT)(e:Env):ResultVar->Option AV
 |.tmp t=>bif decide (t<1000)then(match (e.get t).v with
  |.val a=>some a
  |.loc _ _=>none)else none
 | .cell p t=>bif decide (p<1000)then(match (e.get p).v,T t with
  | .loc B off,some ti=>bif eT e B off ti.size then
    (bif ti.agg then some (.agg (fY e (B+off) ti.size))else bif decide (ti.size=1)then some (e.av (B+off))else none)
   else none
  |.val a,some _=>am T t a
  |_,_=>none)else none
def dP(T:TT)(e:Env):List ResultVar->Option (List AV)
 |[]=>some []
 |r:: rs=>match qD T e r,dP T e rs with
  |some v,some vs=>some (v:: vs)
  |_,_=>none
def im:List AV->AV
 |[v]=>v
 |vs=>.tup vs
def oE(fn:Func)(e:Env)(sz:Nat):Bool:=match fn.results.toList with
 |[.tmp t]=>decide (t<1000)&&(match (e.get t).g with
  |some g=>(match aA e.al g with|some z=>oN z (some sz)|none=>false)
  |none=>false)
 |_=>false
def fu(cx:Cx)(fn:Func)(own:Option Nat)(e:Env):M AV:=
 bif (match own with|some sz=>oE fn e sz|none=>true)then af (aj ((dP cx.T e fn.results.toList).map im)) (bif cx.ann.rz then(bif own.isSome then fun _=>c7 else pO)else aw)else c7
def pb:Nat->List AV->List (Nat×Ent)
 |_,[]=>[]
 |i,a:: as=>(i,⟨.val a,none⟩):: pb (i+1) as
def kA(args:List AV):Env:={ sl:=pb 0 args,al:=[],nx:=0,lb:=[] }
def i6(n:Nat)(ks:List (Nat×Kind)):Bool:=ks.all fun x=>!(ul x.2)||decide (x.1<n)
noncomputable def bN(cx:Cx)(fx:cQ AV)(fn:Func)(own:Option Nat)(args:List AV):M AV:=
 match fn.body with
 |none=>c7
 | some c=>bif decide (args.length<=fn.ntmps)&&decide (fn.ntmps<=1000)&&i6 cx.nt cx.ann.kinds then
   ev cx fx c (kA args) (fu cx fn own) (fun _ _=>c7) (fu cx fn own)
  else c7
def eM(m:List AV->M AV)(args:List AV):M AV:=fun h=>match m (cU aB args) []with
 |.ok r h'=>.ok (gO 6 h' r) h
 |.pan v h'=>.pan (gO 6 h' v) h
 |.fail=>.fail
structure Pg where
 T:TT
 funcs:FuncId->Option (Func×Ann)
 own:FuncId->Option Nat
 other:FuncId->Option ((FuncId->List AV->M AV)->List AV->M AV)
 nw:FuncId->Bool:=fun _=>false
def Pg.iso(p:Pg)(f:FuncId):Bool:=match p.other f with
 |some _=>false
 |none=>match p.funcs f with
  |some (_,a)=>a.iso
  |none=>false
def Pg.cx(p:Pg)(call:FuncId->List AV->M AV)(n:Nat)(a:Ann):Cx:={ T:=p.T,call,own:=p.own,iso:=p.iso,nw:=p.nw,nt:=n,ann:=a }
noncomputable def eX(p:Pg)(call:FuncId->List AV->M AV)(fx:cQ AV)(f:FuncId)(args:List AV):M AV:=
 match p.other f with
 |some E=>E call args
 |none=>match p.funcs f with
  |none=>c7
  |some (fn,a)=>bif a.iso then eM (bN (p.cx call fn.ntmps a) fx fn (p.own f)) args else bN (p.cx call fn.ntmps a) fx fn (p.own f) args
noncomputable def ca(p:Pg):Nat->FuncId->List AV->M AV
 |0,_,_=>c7
 |n+1,f,args=>eX p (ca p n) (bU n) f args
end Go.Av
namespace Go.Av
def kP{α:Type}(a:R α)(b:Nat->R α):Prop:=(a≠.fail->∃N,∀n,N<=n->b n=a)/\∀n,b n≠.fail->b n=a
def bV{α:Type}(m:M α)(ms:Nat->M α):Prop:=∀h,kP (m h) fun n=>ms n h
def bp{α β:Type}(f:β->M α)(fs:Nat->β->M α):Prop:=∀x,bV (f x) fun n=>fs n x
def kP.const{α:Type}(a:R α):kP a fun _=>a:=⟨fun _=>⟨0,fun _ _=>rfl⟩,fun _ _=>rfl⟩
def bu{α:Type}(m:M α):bV m fun _=>m:=fun _=>.const _
def bp.const{α β:Type}(f:β->M α):bp f fun _=>f:=fun _=>bu _
def bV.bnd{α β:Type}{m:M α}{ms:Nat->M α}{f:α->M β}{fs:Nat->α->M β}(hm:bV m ms)(hf:bp f fs):bV (af m f) fun n=>af (ms n) (fs n):=by
 intro h;obtain⟨h1,h2⟩:=hm h
 (try dsimp only at h1 h2)
 refine⟨fun hne=>?_,fun n hne=>?_⟩
 ·have hne':m h≠.fail:=fun hf=>by simp only[Av.af]at hne;rw[hf]at hne;exact hne rfl
  obtain⟨N,hN⟩:=h1 hne';cases hmh:m h with
  |fail=>exact absurd hmh hne'
  |pan v x=>
   refine⟨N,fun n hn=>?_⟩
   (try dsimp only)
   simp only[Av.af];rw[hN n hn,hmh]
  |ok a x=>
   have hne2:f a x≠.fail:=fun hf=>by simp only[Av.af]at hne;rw[hmh]at hne;exact hne hf
   obtain⟨N2,hN2⟩:=(hf a x).1 hne2;refine⟨max N N2,fun n hn=>?_⟩
   (try dsimp only)
   simp only[Av.af];rw[hN n (by omega),hmh];exact hN2 n (by omega)
 ·(try dsimp only at hne |-)
  simp only[Av.af]at hne |-;have hne':ms n h≠.fail:=fun hf=>by rw[hf]at hne;exact hne rfl
  rw[<- h2 n hne'];cases hmh:ms n h with
  |fail=>exact absurd hmh hne'
  |pan v x=>rfl
  |ok a x=>
   rw[hmh]at hne;exact (hf a x).2 n hne
def sG{α:Type}(m m':M α):Prop:=∀h,m h≠.fail->m h=m' h
def bV.le{α:Type}{m:M α}{ms:Nat->M α}(h:bV m ms)(n:Nat):sG (ms n) m:=fun x hne=>(h x).2 n hne
section
variable {ρ:Type}
def dt(F:(List AV->M ρ)->List AV->M ρ)(Fs:Nat->(List AV->M ρ)->List AV->M ρ):Prop:=∀self selfs,bp self selfs->bp (F self) fun n=>Fs n (selfs n)
def jQ(F:(List AV->M ρ)->List AV->M ρ):Prop:=dt F fun _=>F
def jq(fx:cQ ρ)(fxs:Nat->cQ ρ):Prop:=∀F Fs,dt F Fs->jQ F->(∀n,jQ (Fs n))->bp (fx F) fun n=>fxs n (Fs n)
def oT(fx:cQ ρ):Prop:=jq fx fun _=>fx
theorem jQ.mono{F:(List AV->M ρ)->List AV->M ρ}(hF:jQ F){s s':List AV->M ρ}(h:∀vs,sG (s vs) (s' vs)):∀vs,sG (F s vs) (F s' vs):=by
 intro vs x hne;have hl:bp s' (fun n=>if n=0 then s else s'):=by
  intro vs x;refine⟨fun _=>⟨1,fun n hn=>?_⟩,fun n hne=>?_⟩
  ·(try dsimp only)
   rw[if_neg (by omega)]
  ·(try dsimp only at hne |-)
   by_cases h0:n=0
   ·rw[Gg h0]at hne |-;exact h vs x hne
   ·rw[if_neg h0]
 have h0:=(hF s' _ hl vs x).2 0
 (try dsimp only at h0)
 rw[Gg rfl]at h0;exact h0 hne
theorem jx{F:(List AV->M ρ)->List AV->M ρ}(hF:jQ F):∀n vs,sG (bU n F vs) (bU (n+1) F vs)
 |0,_vs=>fun _x hne=>absurd rfl hne
 |n+1,vs=>hF.mono (jx hF n) vs
theorem sG.trans{α:Type}{a b c:M α}(h:sG a b)(g:sG b c):sG a c:=fun x hne=>by
 have:=h x hne
 rw[this];exact g x (this▸hne)
theorem sG.refl{α:Type}(a:M α):sG a a:=fun _ _=>rfl
theorem lq{F:(List AV->M ρ)->List AV->M ρ}(hF:jQ F){n m:Nat}(h:n<=m)(vs:List AV):sG (bU n F vs) (bU m F vs):=by
 induction m with
 | zero => have:n=0:=by omega
           subst this;exact .refl _
 |succ m ih=>
  by_cases hn:n=m+1
  ·subst hn;exact .refl _
  ·exact (ih (by omega)).trans (jx hF m vs)
open Classical in
noncomputable def au(F:(List AV->M ρ)->List AV->M ρ)(vs:List AV):M ρ:=fun h=>if hx:∃n,bU n F vs h≠.fail then bU (Classical.choose hx) F vs h else .fail
theorem mU{b:Nat->R ρ}(hmono:∀n m,n<=m->b n≠.fail->b n=b m){a:R ρ}(ha:(∃n,b n≠.fail/\a=b n)\/(∀n,b n= .fail)/\a= .fail):kP a b:=by
 rcases ha with⟨n,hn,rfl⟩|⟨hn,rfl⟩
 ·refine⟨fun _=>⟨n,fun m hm=>(hmono n m hm hn).symm⟩,fun m hm=>?_⟩;rcases Nat.le_total n m with h|h
  ·exact (hmono n m h hn).symm
  ·exact hmono m n h hm
 ·exact⟨fun h=>absurd rfl h,fun n h=>absurd (hn n) h⟩
theorem d8{F:(List AV->M ρ)->List AV->M ρ}(hF:jQ F):bp (au F) fun n=>bU n F:=by
 intro vs h;refine mU (fun n m hnm hne=>lq hF hnm vs h hne) ?_;unfold au;by_cases hx:∃n,bU n F vs h≠.fail
 ·left;simp only[dif_pos hx];exact⟨_,Ih hx,rfl⟩
 ·right;simp only[dif_neg hx];exact⟨fun n=>IA fun h=>hx ⟨n,h⟩,trivial⟩
theorem iW{F:(List AV->M ρ)->List AV->M ρ}{Fs:Nat->(List AV->M ρ)->List AV->M ρ}(h1:dt F Fs)(n:Nat):∀k vs,sG (bU k (Fs n) vs) (bU k F vs)
 |0,vs=>.refl _
 | k+1,vs=>by
  have ih:=iW h1 n k;have hl:bp (bU k F) fun m=>if m=n then bU k (Fs n)else bU k F:=by
   intro vs h;refine⟨fun _=>⟨n+1,fun m hm=>by(try dsimp only);rw[if_neg (by omega)]⟩,fun m hne=>?_⟩
   (try dsimp only at hne |-)
   by_cases hm:m=n
   ·rw[Gg hm]at hne |-;exact ih vs h hne
   ·rw[if_neg hm]
  intro x hne
  have:=(h1 _ _ hl vs x).2 n
  (try dsimp only at this)
  rw[Gg rfl]at this;exact this hne
theorem gw{F:(List AV->M ρ)->List AV->M ρ}{Fs:Nat->(List AV->M ρ)->List AV->M ρ}(h1:dt F Fs):∀k,bp (bU k F) fun n=>bU k (Fs n)
 |0=>fun _ _=>.const _
 |k+1=>h1 _ _ (gw h1 k)
theorem pD:jq (au (ρ:=ρ)) fun n=>bU n:=by
 intro F Fs h1 hF hFs vs h;refine⟨fun hne=>?_,fun n hne=>?_⟩
 ·obtain⟨N,hN⟩:=(d8 hF vs h).1 hne;have hN':=hN N (Ga _)
  (try dsimp only at hN')
  obtain⟨N2,hN2⟩:=(gw h1 N vs h).1 (by rw[hN'];exact hne);refine⟨max N N2,fun n hn=>?_⟩;have h3:=hN2 n (by omega)
  (try dsimp only at h3 |-)
  rw[<- lq (hFs n) (show N<=n by omega) vs h (by rw[h3,hN'];exact hne),h3,hN']
 ·(try dsimp only at hne |-)
  have h2:=iW h1 n n vs h hne;rw[h2];exact (d8 hF vs h).2 n (by(try dsimp only);rw[<- h2];exact hne)
theorem Ba:oT (au (ρ:=ρ)):=by
 intro F Fs h1 hF hFs vs h;refine⟨fun hne=>?_,fun n hne=>?_⟩
 ·obtain⟨N,hN⟩:=(d8 hF vs h).1 hne;have hN':=hN N (Ga _)
  (try dsimp only at hN')
  obtain⟨N2,hN2⟩:=(gw h1 N vs h).1 (by rw[hN'];exact hne);refine⟨N2,fun n hn=>?_⟩;have h3:=hN2 n hn
  (try dsimp only at h3 |-)
  have:=(d8 (hFs n) vs h).2 N (by(try dsimp only);rw[h3,hN'];exact hne)
  (try dsimp only at this)
  rw[<- this,h3,hN']
 ·(try dsimp only at hne |-)
  obtain⟨N,hN⟩:=(d8 (hFs n) vs h).1 hne;have hN':=hN N (Ga _)
  (try dsimp only at hN')
  have h2:=iW h1 n N vs h (by rw[hN'];exact hne);rw[<- hN',h2];exact (d8 hF vs h).2 N (by(try dsimp only);rw[<- h2,hN'];exact hne)
theorem og(m:Nat):oT (bU (α:=ρ) m):=fun _F _Fs h1 _hF _hFs=>gw h1 m
theorem pE(m:Nat):jq (bU (α:=ρ) (m+1)) fun n=>if n=0 then bU m else bU (m+1):=by
 intro F Fs h1 hF hFs vs h;refine⟨fun hne=>?_,fun n hne=>?_⟩
 ·obtain⟨N,hN⟩:=(gw h1 (m+1) vs h).1 hne;refine⟨max N 1,fun n hn=>?_⟩
  (try dsimp only)
  rw[if_neg (by omega)];exact hN n (by omega)
 ·(try dsimp only at hne |-)
  by_cases h0:n=0
  ·rw[Gg h0]at hne |-;exact ((iW h1 n m vs).trans (jx hF m vs)) h hne
  ·rw[if_neg h0]at hne |-;exact iW h1 n (m+1) vs h hne
end
end Go.Av
namespace Go.Av
def Cx.wc(cx:Cx)(call:FuncId->List AV->M AV):Cx:={ cx with call }
def eE(A:Act1)(As:Nat->Act1):Prop:=
 (∀n,As n=A)\/∃m ms sh,A= .dyn m sh/\(∀n,As n= .dyn (ms n) sh)/\bV m ms
section
variable {ρ:Type} {cx:Cx} {call:FuncId->List AV->M AV} {calls:Nat->FuncId->List AV->M AV}
theorem rY(hc:∀f,bp (call f) fun n=>calls n f)(e:Env)(gid:Nat)(o:Oper)(c:Call):eE (dD (cx.wc call) e gid o c) fun n=>dD (cx.wc (calls n)) e gid o c:=by
 unfold dD;cases c.callee with
 |invoke r m=>exact .inl fun n=>rfl
 |builtin b=>cases b<;>exact .inl fun n=>rfl
 | value x=>
  have hv:eE (.dyn (bJ call (opnd e x) (c.args.toList.map (opnd e))) .ofV) fun n=>.dyn (bJ (calls n) (opnd e x) (c.args.toList.map (opnd e))) .ofV:=by
   refine .inr ⟨_,_,_,rfl,fun n=>rfl,?_⟩;unfold bJ;split
   ·exact hc _ _
   ·exact bu _
  cases x with
  | func f=>
   have h0:eE (.dyn (call f (c.args.toList.map (kq (bb cx.ann.hb o.dst) e))) fun v=>match cx.own f with|some sz=>.own v gid (some sz)|none=>.ofV v) fun n=>.dyn (calls n f (c.args.toList.map (kq (bb cx.ann.hb o.dst) e))) fun v=>match cx.own f with|some sz=>.own v gid (some sz)|none=>.ofV v:=
    .inr ⟨_,_,_,rfl,fun n=>rfl,hc _ _⟩
   have key2:∀(b:Bool)(A B:Act1)(As Bs:Nat->Act1),eE A As->eE B Bs->eE (bif b then A else B) fun n=>bif b then As n else Bs n:=by
    intro b A B As Bs hA hB;cases b with
    |true=>exact hA
    |false=>exact hB
   have key:∀b:Bool,eE (bif b then .dyn (af (call f (c.args.toList.map (opnd e))) pO) .ofV else .bad) fun n=>bif b then .dyn (af (calls n f (c.args.toList.map (opnd e))) pO) .ofV else .bad:=by
    intro b;cases b with
    |false=>exact .inl fun n=>rfl
    |true=>exact .inr ⟨_,_,_,rfl,fun n=>rfl,(hc _ _).bnd (bp.const _)⟩
   exact key2 (bb cx.ann.fz o.dst) _ _ _ _ (key (!(cx.iso f)&&!(cx.nw f)&&(cx.own f).isNone)) h0
  |tmp t=>exact hv
  |const t=>exact hv
  |global t=>exact hv
theorem tn(hc:∀f,bp (call f) fun n=>calls n f)(e:Env)(gid:Nat)(o:Oper):eE (dq (cx.wc call) e gid o) fun n=>dq (cx.wc (calls n)) e gid o:=by
 unfold dq;cases o.op<;>first|exact .inl fun n=>rfl|exact rY hc e gid o _
theorem sr{A:Act1}{As:Nat->Act1}(h:eE A As):eE (et A) fun n=>et (As n):=by
 rcases h with h|⟨m,ms,sh,rfl,h2,h3⟩
 ·exact .inl fun n=>by(try dsimp only);rw[h]
 ·exact .inr ⟨m,ms,_,rfl,fun n=>by(try dsimp only);rw[h2];rfl,h3⟩
theorem t8{A:Act1}{As:Nat->Act1}(h:eE A As){k:Env->M ρ}{ks:Nat->Env->M ρ}(hk:bp k ks)(e:Env)(d:Option Tmp):bV (iS e d A k) fun n=>iS e d (As n) (ks n):=by
 rcases h with h|⟨m,ms,sh,rfl,h2,h3⟩
 ·have:(fun n=>iS e d (As n) (ks n))=fun n=>iS e d A (ks n):=by funext n;rw[h]
  rw[this];cases A with
  |bad=>exact bu _
  |stat u=>exact hk _
  |dyn m sh=>exact (bu m).bnd fun v=>hk _
  |thr v=>exact bu _
 ·have:(fun n=>iS e d (As n) (ks n))=fun n=>iS e d (.dyn (ms n) sh) (ks n):=by funext n;rw[h2]
  rw[this];exact h3.bnd fun v=>hk _
theorem jv(hc:∀f,bp (call f) fun n=>calls n f)(base:Nat)(ops:Array Oper)(st:Bool):∀(is:List Nat)(e:Env)(k:Env->M ρ)(ks:Nat->Env->M ρ),bp k ks->
  bV (eY (cx.wc call) base ops st is e k) fun n=>eY (cx.wc (calls n)) base ops st is e (ks n)
 |[],e,k,ks,hk=>hk e
 | i:: is,e,k,ks,hk=>by
  simp only[eY];cases ops[i]? with
  |none=>exact bu _
  |some o=>
   simp only;refine t8 ?_ (fun e'=>jv hc base ops st is e' k ks hk) e o.dst;cases st with
   |true=>exact sr (tn hc e _ o)
   |false=>exact tn hc e _ o
theorem rI{c:AV}{want:Bool}{k:Nat}{m:M (List AV)}{ms:Nat->M (List AV)}(h:bV m ms):bV (ax c want k m) fun n=>ax c want k (ms n):=by
 unfold ax;cases c with
 |bool b=>
  simp only;cases b== want with
  |true=>exact h
  |false=>exact bu _
 |tup vs=>cases vs<;>exact bu _
 |_=>exact bu _
theorem fH(hc:∀f,bp (call f) fun n=>calls n f)(base:Nat)(ops:Array Oper):∀(gs:List (Option (Nat×Bool)×List Nat))(e:Env)(k:Env->M ρ)(ks:Nat->Env->M ρ),bp k ks->
  bV (cG (cx.wc call) base ops gs e k) fun n=>cG (cx.wc (calls n)) base ops gs e (ks n)
 |[],e,k,ks,hk=>hk e
 |(none,is):: gs,e,k,ks,hk=>by
  simp only[cG];exact jv hc base ops false is e _ _ fun e'=>fH hc base ops gs e' k ks hk
 | (some (j,want),is):: gs,e,k,ks,hk=>by
  simp only[cG];cases cj ops j with
  |none=>exact bu _
  | some t=>
   simp only;have hp:∀c,(is.all fun i=>match ops[i]? with|some o=>da (cx.wc c) o&&o.dst.isSome|none=>false)=(is.all fun i=>match ops[i]? with|some o=>da cx o&&o.dst.isSome|none=>false):=fun c=>rfl;have key:∀b:Bool,bV (bif b then af (ax (e.av t) want (bZ ops is gs).length (eY (cx.wc call) base ops true is e fun e'=>bif (bZ ops is gs).all (fun t=>iE (e'.get t))then aw ((bZ ops is gs).map e'.av)else c7)) fun vs=>
     cG (cx.wc call) base ops gs (dF (forget e (bK ops is)) vs 0 (bZ ops is gs)) k else c7) fun n=>(bif b then af (ax (e.av t) want (bZ ops is gs).length (eY (cx.wc (calls n)) base ops true is e fun e'=>bif (bZ ops is gs).all (fun t=>iE (e'.get t))then aw ((bZ ops is gs).map e'.av)else c7)) fun vs=>
     cG (cx.wc (calls n)) base ops gs (dF (forget e (bK ops is)) vs 0 (bZ ops is gs)) (ks n)else c7):=by
    intro b;cases b with
    |false=>exact bu _
    |true=>exact (rI (jv hc base ops true is e _ _ (bp.const _))).bnd fun vs=>fH hc base ops gs _ k ks hk
   exact key _
theorem uv{α:Type}{m:M α}{ms:Nat->M α}(h:bV m ms):bV (dy m) fun n=>dy (ms n):=by
 intro x;obtain⟨h1,h2⟩:=h x;refine⟨fun hne=>?_,fun n hne=>?_⟩
 ·have hne':m x≠.fail:=fun hf=>hne (by simp only[dy,hf]);obtain⟨N,hN⟩:=h1 hne';exact⟨N,fun n hn=>by have:=hN n hn;(try dsimp only at this |-);simp only[dy,this]⟩
 ·(try dsimp only at hne |-)
  have hne':ms n x≠.fail:=fun hf=>hne (by simp only[dy,hf])
  have:=h2 n hne'
  (try dsimp only at this)
  simp only[dy,this]
theorem rk(hc:∀f,bp (call f) fun n=>calls n f):∀f,bp ((df (cx.wc call)).call f) fun n=>(df (cx.wc (calls n))).call f:=by
 intro f args;show bV (bif cx.iso f then dy (call f args)else call f args) fun n=>(bif cx.iso f then dy (calls n f args)else calls n f args);cases cx.iso f with
 |true=>exact uv (hc f args)
 |false=>exact hc f args
theorem wA(c:FuncId->List AV->M AV)(ops:Array Oper)(i j:Nat):iZ (cx.wc c) ops i j=iZ cx ops i j:=rfl
theorem lZ(c:FuncId->List AV->M AV)(ops:Array Oper)(bf:List Nat):∀l,fR (cx.wc c) ops bf l=fR cx ops bf l
 |[]=>rfl
 |i:: is=>by simp only[fR,lZ c ops bf is,wA]
theorem t7(c:FuncId->List AV->M AV)(ops:Array Oper)(ord:List Nat):iy (cx.wc c) ops ord=iy cx ops ord:=by
 unfold iy;rw[lZ]
theorem ua(hc:∀f,bp (call f) fun n=>calls n f)(id:Nat)(ops:Array Oper)(draw:Bool)(e:Env){k:Env->M ρ}{ks:Nat->Env->M ρ}(hk:bp k ks):
  bV (j9 (cx.wc call) id ops draw e k) fun n=>j9 (cx.wc (calls n)) id ops draw e (ks n):=by
 unfold j9;simp only[t7];have hk':bp (fun e':Env=>k { e' with nx:=e.nx+ops.size }) fun n e'=>ks n { e' with nx:=e.nx+ops.size }:=fun e'=>hk _;have key:∀b1 b2:Bool,bV (bif b1 then(bif draw then(bif b2 then cG (df (cx.wc call)) e.nx ops (ck ops (nB cx id ops.size)) e fun e'=>k { e' with nx:=e.nx+ops.size }else c7)
   else cG (cx.wc call) e.nx ops (ck ops (List.range ops.size)) e fun e'=>k { e' with nx:=e.nx+ops.size })else c7) fun n=>(bif b1 then(bif draw then(bif b2 then cG (df (cx.wc (calls n))) e.nx ops (ck ops (nB cx id ops.size)) e fun e'=>ks n { e' with nx:=e.nx+ops.size }else c7)
   else cG (cx.wc (calls n)) e.nx ops (ck ops (List.range ops.size)) e fun e'=>ks n { e' with nx:=e.nx+ops.size })else c7):=by
  intro b1 b2;cases b1 with
  |false=>exact bu _
  | true=>
   cases draw with
   |false=>exact fH hc _ _ _ _ _ _ hk'
   |true=>
    cases b2 with
    |false=>exact bu _
    |true=>exact fH (cx:=cx) (call:=(df (cx.wc call)).call) (calls:=fun n=>(df (cx.wc (calls n))).call) (rk hc) _ _ _ _ _ _ hk'
 exact key (fg cx.nt ops) (iy cx ops (nB cx id ops.size))
theorem rC(hc:∀f,bp (call f) fun n=>calls n f)(id:Nat)(ops:Array Oper)(draw:Bool)(e:Env){k:Env->M ρ}{ks:Nat->Env->M ρ}(hk:bp k ks):
  bV (ju (cx.wc call) id ops draw e k) fun n=>ju (cx.wc (calls n)) id ops draw e (ks n):=ua hc id ops draw e hk
theorem jp{ja:JA}{j:List AV->M ρ}{js:Nat->List AV->M ρ}(h:bp j js)(e:Env):bV (mh ja j e) fun n=>mh ja (js n) e:=by
 unfold mh;cases pack ja e with
 |none=>exact bu _
 |some vs=>
  simp only;cases ja.fz with
  |true=>simp only[F9];exact (bu (Fy vs)).bnd h
  |false=>exact h vs
theorem A8:∀(n:Nat)(code:Code),SizeOf.sizeOf code<n->∀(call:FuncId->List AV->M AV)(calls:Nat->FuncId->List AV->M AV)(fx:cQ ρ)(fxs:Nat->cQ ρ),(∀f,bp (call f) fun n=>calls n f)->jq fx fxs->oT fx->(∀n,oT (fxs n))->
  ∀(e:Env)(kn:Env->M ρ)(kns:Nat->Env->M ρ)(kx:Nat->Env->M ρ)(kxs:Nat->Nat->Env->M ρ)(kr:Env->M ρ)(krs:Nat->Env->M ρ),bp kn kns->(∀i,bp (kx i) fun n=>kxs n i)->bp kr krs->
  bV (ev (cx.wc call) fx code e kn kx kr) fun n=>ev (cx.wc (calls n)) (fxs n) code e (kns n) (kxs n) (krs n):=by
 intro n
 induction n with
 |zero=>intro code hn;omega
 | succ n ih=>
  intro code hn call calls fx fxs hc hfx hfc hfcs e kn kns kx kxs kr krs hkn hkx hkr;cases code<;>(try exact bu _)
  case skip=>exact hkn e
  case exit id=>exact hkx id e
  case ret=>exact hkr e
  case region id ops draw=>exact rC hc id ops draw e hkn
  case seq x y=>
   have hx:SizeOf.sizeOf x<n:=by simp at hn;omega
   have hy:SizeOf.sizeOf y<n:=by simp at hn;omega
   simp only[ev];have hya:∀e,bV (ev (cx.wc call) fx y e kn kx kr) fun n=>ev (cx.wc (calls n)) (fxs n) y e (kns n) (kxs n) (krs n):=fun e=>ih y hy call calls fx fxs hc hfx hfc hfcs e kn kns kx kxs kr krs hkn hkx hkr;have key:∀oj:Option JA,bV (match oj with|some ja=>jn (fun vs=>ev (cx.wc call) fx y (unpack ja vs) kn kx kr) fun j=>ev (cx.wc call) fx x e (mh ja j) kx kr|none=>ev (cx.wc call) fx x e (fun e'=>ev (cx.wc call) fx y e' kn kx kr) kx kr)
     fun n=>(match oj with|some ja=>jn (fun vs=>ev (cx.wc (calls n)) (fxs n) y (unpack ja vs) (kns n) (kxs n) (krs n)) fun j=>ev (cx.wc (calls n)) (fxs n) x e (mh ja j) (kxs n) (krs n)|none=>ev (cx.wc (calls n)) (fxs n) x e (fun e'=>ev (cx.wc (calls n)) (fxs n) y e' (kns n) (kxs n) (krs n)) (kxs n) (krs n)):=by
    intro oj;cases oj with
    |none=>exact ih x hx call calls fx fxs hc hfx hfc hfcs e _ (fun n e'=>ev (cx.wc (calls n)) (fxs n) y e' (kns n) (kxs n) (krs n)) kx kxs kr krs hya hkx hkr
    |some ja=>exact ih x hx call calls fx fxs hc hfx hfc hfcs e _ (fun n=>mh ja fun vs=>ev (cx.wc (calls n)) (fxs n) y (unpack ja vs) (kns n) (kxs n) (krs n)) kx kxs kr krs (fun e'=>jp (fun vs=>hya _) e') hkx hkr
   have h:=key (match iO x with|some t=>kf cx.ann.joins t|none=>none);exact h
  case cond o x y=>
   have hx:SizeOf.sizeOf x<n:=by simp at hn;omega
   have hy:SizeOf.sizeOf y<n:=by simp at hn;omega
   cases o<;>(try exact bu _)
   case const v=>
    simp only[ev];cases cA v with
    |bool b=>
     cases b with
     |true=>exact ih x hx call calls fx fxs hc hfx hfc hfcs e kn kns kx kxs kr krs hkn hkx hkr
     |false=>exact ih y hy call calls fx fxs hc hfx hfc hfcs e kn kns kx kxs kr krs hkn hkx hkr
    |_=>exact bu _
   rename_i t;simp only[ev];cases decide (t<1000)with
   |false=>exact bu _
   | true=>
    simp only[F9];cases e.av t with
    |bool b=>
     cases b with
     |true=>exact ih x hx call calls fx fxs hc hfx hfc hfcs e kn kns kx kxs kr krs hkn hkx hkr
     |false=>exact ih y hy call calls fx fxs hc hfx hfc hfcs e kn kns kx kxs kr krs hkn hkx hkr
    |_=>exact bu _
  case block id code=>
   have hbx:∀(kx:Nat->Env->M ρ)(kxs:Nat->Nat->Env->M ρ)(kn:Env->M ρ)(kns:Nat->Env->M ρ),(∀i,bp (kx i) fun n=>kxs n i)->bp kn kns->∀i,bp (fun e'=>bif Nat.beq i id then kn e' else kx i e') fun n e'=>bif Nat.beq i id then kns n e' else kxs n i e':=by
    intro kx kxs kn kns hkx hkn i e'
    (try dsimp only)
    cases Nat.beq i id with
    |true=>exact hkn e'
    |false=>exact hkx i e'
   by_cases hcl:∃b,code= .loop b
   ·obtain⟨b,rfl⟩:=hcl;have hb:SizeOf.sizeOf b<n:=by simp at hn;omega
    have key:∀oj:Option JA,bV (match oj with|none=>c7|some ja=>mh ja (fx fun self vs=>ev (cx.wc call) fx b (unpack ja vs) (mh ja self) (fun i e'=>bif Nat.beq i id then kn e' else kx i e') kr) e)
      fun n=>(match oj with|none=>c7|some ja=>mh ja (fxs n fun self vs=>ev (cx.wc (calls n)) (fxs n) b (unpack ja vs) (mh ja self) (fun i e'=>bif Nat.beq i id then kns n e' else kxs n i e') (krs n)) e):=by
     intro oj;cases oj with
     |none=>exact bu _
     | some ja=>
      refine jp (hfx _ (fun n self vs=>ev (cx.wc (calls n)) (fxs n) b (unpack ja vs) (mh ja self) (fun i e'=>bif Nat.beq i id then kns n e' else kxs n i e') (krs n)) ?_ ?_ ?_) e
      ·intro self selfs hs vs;exact ih b hb call calls fx fxs hc hfx hfc hfcs (unpack ja vs) _ (fun n=>mh ja (selfs n)) _ (fun n i e'=>bif Nat.beq i id then kns n e' else kxs n i e') kr krs (fun e'=>jp hs e') (hbx kx kxs kn kns hkx hkn) hkr
      ·intro self selfs hs vs;exact ih b hb call (fun _=>call) fx (fun _=>fx) (fun f=>bp.const _) hfc hfc (fun _=>hfc) (unpack ja vs) _ (fun n=>mh ja (selfs n)) _ (fun n i e'=>bif Nat.beq i id then kn e' else kx i e') kr (fun _=>kr) (fun e'=>jp hs e') (fun i=>bp.const _) (bp.const _)
      ·intro m self selfs hs vs;exact ih b hb (calls m) (fun _=>calls m) (fxs m) (fun _=>fxs m) (fun f=>bp.const _) (hfcs m) (hfcs m) (fun _=>hfcs m) (unpack ja vs) _ (fun n=>mh ja (selfs n)) _ (fun n i e'=>bif Nat.beq i id then kns m e' else kxs m i e') (krs m) (fun _=>krs m) (fun e'=>jp hs e') (fun i=>bp.const _) (bp.const _)
    exact key (kf cx.ann.loops id)
   ·have hs:SizeOf.sizeOf code<n:=by simp at hn;omega
    have hev:∀(cx:Cx)(fx:cQ ρ)(kn:Env->M ρ)(kx:Nat->Env->M ρ)(kr:Env->M ρ),ev cx fx (.block id code) e kn kx kr=ev cx fx code e kn (fun i e'=>bif Nat.beq i id then kn e' else kx i e') kr:=by
     intro cx fx kn kx kr;cases code<;>first|rfl|exact absurd ⟨_,rfl⟩ hcl
    rw[hev];have:(fun n=>ev (cx.wc (calls n)) (fxs n) (.block id code) e (kns n) (kxs n) (krs n))=fun n=>ev (cx.wc (calls n)) (fxs n) code e (kns n) (fun i e'=>bif Nat.beq i id then kns n e' else kxs n i e') (krs n):=by
     funext n;exact hev _ _ _ _ _
    rw[this];exact ih code hs call calls fx fxs hc hfx hfc hfcs e kn kns _ (fun n i e'=>bif Nat.beq i id then kns n e' else kxs n i e') kr krs hkn (hbx kx kxs kn kns hkx hkn) hkr
end
end Go.Av
namespace Go.Av
def kindOf:TypeDesc->TK
 |.bool=>.bool
 |.int k=>.int k
 |.string=>.str
 |.slice e=>.slice e
 |.struct _=>.struct
 |.array n e=>.array n e
 |.interface _=>.iface
 |.pointer _=>.ptr
 |.func _ _ _=>.func
 |.map k e=>.map k e
 |_=>.other
def mL:TypeDesc->Bool
 |.struct _=>true
 |.array _ _=>true
 |_=>false
def oC:TypeDesc->List (Nat×Nat×Bool)
 |.struct fs=>fs.toList.map fun f=>(f.offset,f.type,decide (f.name≠ "_"))
 |_=>[]
def uV:Value->Bool
 |.agg _=>true
 |_=>false
def nZ(P:Program)(t:TypeId):TypeDesc->Bool
 |.struct _=>!(P.stoodInHeld t)&&!(P.eqGuardType P.depth t)
 |_=>false
def BO(P:Program)(t:TypeId):Option TI:=
 match P.info? t,P.underlying t with
 | some i,some d=>match i.zero with
  | some z=>bif Nat.beq z.cells.size i.size&&(uV z== mL d)then
    some { agg:=mL d,size:=i.size,bytes:=i.bytes,kind:=kindOf d,offs:=oC d,zero:=z.cells.toList.map sL,eqok:=nZ P t d }
   else none
  |none=>none
 |_,_=>none
structure TOK (P:Program) (T:TT):Prop where
 ok:∀t ti,T t=some ti->BO P t=some ti
 mix:P.follows .mixedOrders=true
structure TIok (P:Program) (t:TypeId) (ti:TI):Prop where
 ex:∃i d z,P.info? t=some i/\P.underlying t=some d/\i.zero=some z/\z.cells.size=i.size/\i.size=ti.size/\i.bytes=ti.bytes/\
  kindOf d=ti.kind/\mL d=ti.agg/\oC d=ti.offs/\z.cells.toList.map sL=ti.zero/\nZ P t d=ti.eqok/\
  (ti.agg=true->∃cs,z= .agg cs)/\(ti.agg=false->∀cs,z≠.agg cs)
def TOK.get{P:Program}{T:TT}(h:TOK P T){t:TypeId}{ti:TI}(ht:T t=some ti):TIok P t ti:=by
 have:=h.ok t ti ht
 unfold BO at this;split at this
 ·rename_i i d hi hd;split at this
  ·rename_i z hz;cases hb:(Nat.beq z.cells.size i.size&&(uV z== mL d))with
   |false=>rw[hb]at this;simp at this
   | true=>
    rw[hb]at this;simp only[F9,F7]at this;subst this;rw[F8]at hb;obtain⟨h1,h2⟩:=hb;have h2:uV z=mL d:=by simpa using h2
    refine⟨i,d,z,hi,hd,hz,Gh h1,rfl,rfl,rfl,rfl,rfl,rfl,rfl,fun hx=>?_,fun hx cs hz'=>?_⟩
    ·simp only[<- h2]at hx;cases z<;>simp_all[uV]
    ·subst hz';simp only[<- h2]at hx;simp[uV]at hx
  ·simp at this
 ·simp at this
def nR(S:ap)(β:List aZ)(v:Value):VR S β (sL v) v:=by
 unfold sL;split<;>simp only[VR,bg,GM]
 case h_3=>exact⟨_,rfl,rfl⟩
 case h_5=>exact⟨none,0,rfl,Ga _,fun _=>rfl,fun q h=>by cases h⟩
def nS(S:ap)(β:List aZ)(vs:List Value):aP S β (vs.map sL) vs:=by
 induction vs with
 |nil=>simp[aP]
 |cons v vs ih=>simp only[GY,aP];exact⟨v,vs,rfl,nR S β v,ih⟩
def CE(S:ap)(β:List aZ)(v:Value):VR S β (cA v) v:=by
 unfold cA;split
 ·rename_i cs;simp only[VR];exact⟨cs.toList,by simp,nS S β _⟩
 ·rename_i vs;cases h:vs.isEmpty with
  |false=>simp[VR]
  |true=>
   simp only[F9,VR];refine⟨[],?_,by simp[aP]⟩;simp at h;simp[h]
 ·exact nR S β v
def nP(P:Program)(w:World)(S:ap)(β:List aZ)(m:Sem Value)(r:AV):Prop:=∃v,m.run P w= .ok v w/\VR S β r v
section
variable {P:Program} {T:TT} {w:World} {S:ap} {β:List aZ}
theorem run_sizeOf{t:TypeId}{i:TypeInfo}(h:P.info? t=some i):(sizeOf t).run P w= .ok i.size w:=by
 simp[sizeOf,typeInfo,h]
theorem dS{t:TypeId}{d:TypeDesc}(h:P.underlying t=some d):(isAgg t).run P w= .ok (mL d) w:=by
 simp only[isAgg,Sem.run_bind,run_underlying h,Result.andThen_ok];cases d<;>rfl
theorem VR.int_inv{k:IntKind}{n:Int}{v:Value}(h:VR S β (.int k n) v):v= .int k n:=by simpa [VR]using h
theorem yX{c a b r:AV}{vc va vb:Value}(h:aV c a b=some r)(hc:VR S β c vc)(ha:VR S β a va)(hb:VR S β b vb):
  ∃v,(do pure (if <- asBool vc then va else vb):Sem Value).run P w= .ok v w/\VR S β r v:=by
 unfold aV at h;split at h
 ·simp at h;subst h;simp only[VR]at hc;subst hc;exact⟨va,by simp[asBool],ha⟩
 ·simp at h;subst h;simp only[VR]at hc;subst hc;exact⟨vb,by simp[asBool],hb⟩
 ·simp at h
theorem oF(hT:TOK P T){t:TypeId}{ti:TI}(ht:T t=some ti){cs:List AV}{vs:List Value}(h:aP S β cs vs){off:Nat}{r:AV}(hr:qu ti cs off=some r):nP P w S β (part t vs.toArray off) r:=by
 obtain⟨i,d,z,hi,hd,_,_,hsz,_,_,hag,_⟩:=(hT.get ht).ex;unfold qu at hr;cases ha:ti.agg with
 | true=>
  rw[ha]at hr;simp only[F9,F7]at hr;subst hr;refine⟨.agg (vs.toArray.extract off (off+ti.size)),?_,?_⟩
  ·simp[part,dS hd,hag,ha,run_sizeOf hi,hsz]
  ·simp only[VR];refine⟨(vs.drop off).take ti.size,?_,(h.drop off).take _⟩;simp[IB,IK]
 |false=>
  rw[ha]at hr;simp only[Gd]at hr;obtain⟨v,hv,hR⟩:=h.get hr;refine⟨v,?_,hR⟩;simp only[part,Sem.run_bind,dS hd,Result.andThen_ok,hag,ha];simp[hv]
theorem me:∀a b:List UInt8,Op.bytesLess a b=aC a b
 |a,[]=>by cases a<;>simp[Op.bytesLess,aC]
 |[],_:: _=>rfl
 |a:: x,b:: y=>by simp[Op.bytesLess,aC,me x y]
mutual
theorem rq(hT:TOK P T):(d:Nat)->(D:Nat)->d<=D->(t:TypeId)->(x y:AV)->(vx vy:Value)->(b:Bool)->zP T d t x y=some b->VR S β x vx->VR S β y vy->
  (Op.equalIn D t vx vy).run P w= .ok b w
 |0,_,_,t,x,y,vx,vy,b,h,_,_=>by simp[zP]at h
 |d+1,0,hD,_,_,_,_,_,_,_,_,_=>by omega
 | d + 1,D+1,hD,t,x,y,vx,vy,b,h,hx,hy=>by
  unfold zP at h;cases ht:T t with
  |none=>rw[ht]at h;simp at h
  | some ti=>
   rw[ht]at h;obtain⟨i,dd,z,hi,hd,_,_,hsz,_,hk,hag,hof,_,heq,_⟩:=(hT.get ht).ex;simp only at h;unfold Op.equalIn;simp only[Sem.run_bind,run_underlying hd,Result.andThen_ok];split at h
   case h_1=>simp at h;simp only[VR]at hx hy;subst hx hy h;cases dd<;>simp_all[kindOf]
   case h_2=>
    simp only[VR]at hx hy;subst hx hy;split at h
    ·rename_i hkk;simp at h;subst h;cases dd<;>simp_all[kindOf]
    ·simp at h
   case h_3=>
    simp only[VR]at hx hy;obtain⟨x,rfl,hx⟩:=hx;obtain⟨y,rfl,hy⟩:=hy;simp at h;subst h;have hdd:dd= .string:=by cases dd<;>simp_all[kindOf]
    subst hdd;simp only[Sem.run_pure,beq_toListBytes,ByteArray.toList_eq,hx,hy]
   case h_4=>simp at h;simp only[VR]at hx hy;subst hx hy h;cases dd<;>simp_all[kindOf]
   case h_5=>simp at h;simp only[VR]at hx hy;obtain⟨_,_,_,rfl,_⟩:=hy;subst hx h;cases dd<;>simp_all[kindOf]
   case h_6=>simp at h;simp only[VR]at hx hy;obtain⟨_,_,_,rfl,_⟩:=hx;subst hy h;cases dd<;>simp_all[kindOf]
   case h_7=>simp at h;simp only[VR]at hx hy;obtain⟨_,_,_,rfl⟩:=hy;subst hx h;cases dd<;>simp_all[kindOf]
   case h_8=>simp at h;simp only[VR]at hx hy;obtain⟨_,_,_,rfl⟩:=hx;subst hy h;cases dd<;>simp_all[kindOf]
   case h_9=>simp at h;simp only[VR]at hx hy;obtain⟨_,rfl,_⟩:=hy;subst hx h;cases dd<;>simp_all[kindOf]
   case h_10=>simp at h;simp only[VR]at hx hy;obtain⟨_,rfl,_⟩:=hx;subst hy h;cases dd<;>simp_all[kindOf]
   case h_11 xs ys hkind=>
    cases hok:ti.eqok with
    |false=>rw[hok]at h;simp at h
    | true=>
     rw[hok]at h;simp only[F9]at h;simp only[VR]at hx hy;obtain⟨vx,rfl,hx⟩:=hx;obtain⟨vy,rfl,hy⟩:=hy;cases dd<;>simp only[kindOf,hkind,reduceCtorEq]at hk;rename_i fs;have hst:P.stoodInHeld t=false:=by
      rw[hok]at heq;simp[nZ]at heq;exact heq.1
     have hfs:P.fieldsOf t=fs:=by simp[Program.fieldsOf,hd]
     have:=run_equalIn_struct (P:=P) w D t vx.toArray vy.toArray (by rw[hfs];exact hd) hst
     unfold Op.equalIn at this;simp only[Sem.run_bind,run_underlying hd,Result.andThen_ok]at this;rw[<- hof]at h;have h2:=nY hT d D (by omega) fs.toList xs ys vx vy b h hx hy;rw[hfs]at this;exact this.trans h2
   case h_12=>simp at h;simp only[VR]at hx hy;subst hx hy h;cases dd<;>simp_all[kindOf]
   case h_13=>simp at h;simp only[VR]at hx hy;obtain⟨a,cap,rfl,h1,h2,_⟩:=hx;subst hy h;cases a<;>cases dd<;>simp_all[kindOf]
   case h_14=>simp at h;obtain⟨_,_,rfl,_⟩:=hx.hs_some;simp only[VR]at hy;subst hy h;cases dd<;>simp_all[kindOf]
   case h_15=>simp at h;simp only[VR]at hx hy;subst hx hy h;cases dd<;>simp_all[kindOf]
   case h_16=>simp at h
theorem nY(hT:TOK P T):(d:Nat)->(D:Nat)->d<=D->(fs:List Field)->(xs ys:List AV)->(vx vy:List Value)->(b:Bool)->
  rt T d (fs.map fun f=>(f.offset,f.type,decide (f.name≠ "_"))) xs ys=some b->aP S β xs vx->aP S β ys vy->
  (Op.eqFields D vx.toArray vy.toArray fs).run P w= .ok b w
 |d,D,hD,[],xs,ys,vx,vy,b,h,_,_=>by
  simp[rt]at h;subst h;simp[Op.eqFields]
 |0,D,hD,f:: fs,xs,ys,vx,vy,b,h,_,_=>by simp[rt]at h
 | d + 1,D,hD,f:: fs,xs,ys,vx,vy,b,h,hx,hy=>by
  simp only[GY,rt]at h;unfold Op.eqFields
  by_cases hn:f.name= "_"
  ·simp only[hn,ne_eq,not_true,decide_false,Gd]at h;simp only[hn,ne_eq,not_true,GH];exact nY hT d D (by omega) fs xs ys vx vy b h hx hy
  ·simp only[ne_eq,hn,not_false_eq_true,Iv,F9]at h;simp only[ne_eq,hn,not_false_eq_true,GP];cases ht:T f.type with
   |none=>rw[ht]at h;simp at h
   | some ti=>
    rw[ht]at h;simp only at h;split at h
    ·rename_i a c ha hc;obtain⟨va,hva,hra⟩:=oF (w:=w) (S:=S) (β:=β) hT ht hx ha;obtain⟨vc,hvc,hrc⟩:=oF (w:=w) (S:=S) (β:=β) hT ht hy hc;simp only[Sem.run_bind,hva,hvc,Result.andThen_ok];split at h
     ·rename_i he;rw[rq hT d D (by omega) f.type a c va vc true he hra hrc];simp only[Result.andThen_ok,G3,Gq,GH];exact nY hT d D (by omega) fs xs ys vx vy b h hx hy
     ·rename_i he;rw[rq hT d D (by omega) f.type a c va vc false he hra hrc];simp at h;subst h;simp
     ·simp at h
    ·simp at h
end
theorem AQ(hT:TOK P T){op:BinOp}{t:TypeId}{x y r:AV}{vx vy:Value}(ox oy:Operand)(hlit:lA T op t ox oy=false)(h:az T op t x y=some r)(hx:VR S β x vx)(hy:VR S β y vy):
  nP P w S β (do eqGuard op t ox oy vx vy;binOp op t vx vy) r:=by
 unfold az at h;split at h
 ·rename_i k a k' c
  have:=hx.int_inv;subst this
  have:=hy.int_inv;subst this
  have hg:(eqGuard op t ox oy (.int k a) (.int k' c)).run P w= .ok () w:=by cases op<;>simp[eqGuard]
  unfold nP;simp only[Sem.run_bind,hg,Result.andThen_ok];cases hs:oo op with
  | true=>
   rw[hs]at h;simp only[F9,FD]at h;split at h
   ·simp at h
   ·rename_i hc;split at h
    ·simp at h;subst h;exact⟨_,by simp[binOp,Op.shift,hc];rfl,by simp[VR]⟩
    ·simp at h;subst h;exact⟨_,by simp[binOp,Op.shift,hc];rfl,by simp[VR]⟩
    ·simp at h
  | false=>
   rw[hs]at h;simp only[Gd]at h;split at h
   ·rename_i hk;subst hk;unfold Dy at h;cases op<;>simp only[oo,Bool.true_eq_false]at hs h <;>
     first
     |(simp only[F7]at h;subst h;exact⟨_,by simp[binOp,Op.intArith,Op.intBits,Op.intCmp];rfl,by simp[VR]⟩)
     | (split at h
        ·simp at h
        ·rename_i hc;simp only[F7]at h;subst h;exact⟨_,by simp[binOp,Op.intDiv,hc];rfl,by simp[VR]⟩)
   ·simp at h
 ·rename_i a c;simp only[VR]at hx hy;obtain⟨x,rfl,hx⟩:=hx;obtain⟨y,rfl,hy⟩:=hy;have hg:(eqGuard op t ox oy (.string x) (.string y)).run P w= .ok () w:=by cases op<;>simp[eqGuard]
  unfold nP;simp only[Sem.run_bind,hg,Result.andThen_ok];have hxs:x.size=a.length:=by rw[<- hx,Gs];rfl
  have hys:y.size=c.length:=by rw[<- hy,Gs];rfl
  unfold Eb at h;cases op<;>simp only[reduceCtorEq]at h
  case add=>
   split at h
   ·rename_i hle;simp only[F7]at h;subst h;refine⟨.string (x++y),?_,?_⟩
    ·have hm:IntKind.max .i64=9223372036854775807:=by decide
     have:¬(((x.size+y.size:Nat):Int)>IntKind.max .i64):=by rw[hxs,hys,hm];omega
     simp only[binOp,Op.stringOp,this,GH,Sem.run_pure]
    ·simp only[VR];exact⟨x++y,rfl,by simp[hx,hy]⟩
   ·simp at h
  all_goals
   simp only[F7]at h;subst h;refine⟨_,by simp only[binOp,Op.stringOp,Sem.run_pure];rfl,?_⟩;simp only[VR,ByteArray.toList_eq,hx,hy,me]
 ·rename_i hn1 hn2
  have key:∀b,zP T 20 t x y=some b->∀o,(o= .eql\/o= .neq)->lA T o t ox oy=false->(eqGuard o t ox oy vx vy).run P w= .ok () w/\(binOp .eql t vx vy).run P w= .ok (.bool b) w/\(binOp .neq t vx vy).run P w= .ok (.bool !b) w:=by
   intro b hb;have he:=rq (w:=w) (S:=S) (β:=β) hT 20 Op.maxDepth (by decide) t x y vx vy b hb hx hy;have hb0:=hb;unfold zP at hb;cases ht:T t with
   |none=>rw[ht]at hb;simp at hb
   | some ti=>
    rw[ht]at hb;simp only at hb;split at hb
    case h_1=>simp only[VR]at hx hy;subst hx hy;rintro o (rfl|rfl) _<;>simp[eqGuard,binOp,Op.equal,he]
    case h_2=>exact absurd rfl (hn1 _ _ _ _ rfl)
    case h_3=>exact absurd rfl (hn2 _ _ rfl)
    case h_4=>simp only[VR]at hx hy;subst hx hy;rintro o (rfl|rfl) _<;>simp[eqGuard,binOp,Op.equal,he]
    case h_5=>simp only[VR]at hx hy;obtain⟨_,_,_,rfl,_⟩:=hy;subst hx;rintro o (rfl|rfl) _<;>simp[eqGuard,binOp,Op.equal,he]
    case h_6=>simp only[VR]at hx hy;obtain⟨_,_,_,rfl,_⟩:=hx;subst hy;rintro o (rfl|rfl) _<;>simp[eqGuard,binOp,Op.equal,he]
    case h_7=>simp only[VR]at hx hy;obtain⟨_,_,_,rfl⟩:=hy;subst hx;rintro o (rfl|rfl) _<;>simp[eqGuard,binOp,Op.equal,he]
    case h_8=>simp only[VR]at hx hy;obtain⟨_,_,_,rfl⟩:=hx;subst hy;rintro o (rfl|rfl) _<;>simp[eqGuard,binOp,Op.equal,he]
    case h_9=>simp only[VR]at hx hy;obtain⟨_,rfl,_⟩:=hy;subst hx;rintro o (rfl|rfl) _<;>simp[eqGuard,binOp,Op.equal,he]
    case h_10=>simp only[VR]at hx hy;obtain⟨_,rfl,_⟩:=hx;subst hy;rintro o (rfl|rfl) _<;>simp[eqGuard,binOp,Op.equal,he]
    case h_11 xs ys hkind=>
     cases hok:ti.eqok with
     |false=>rw[hok]at hb;simp at hb
     | true=>
      obtain⟨i,dd,z,hi,hd,_,_,hsz,_,hk,hag,hof,_,heq,_⟩:=(hT.get ht).ex;have hgt:P.eqGuardType P.depth t=false:=by
       rw[hok]at heq;cases dd<;>simp[nZ]at heq;exact heq.2
      simp only[VR]at hx hy;obtain⟨vx,rfl,hx⟩:=hx;obtain⟨vy,rfl,hy⟩:=hy;rintro o (rfl|rfl)<;>exact fun _=>⟨run_eqGuard_agg w _ t ox oy _ _ hgt,by simp[binOp,Op.equal,he],by simp[binOp,Op.equal,he]⟩
    case h_12=>simp only[VR]at hx hy;subst hx hy;rintro o (rfl|rfl) _<;>simp[eqGuard,binOp,Op.equal,he]
    case h_13=>simp only[VR]at hx hy;obtain⟨_,_,rfl,_⟩:=hx;subst hy;simp only[Gu]at he;rintro o (rfl|rfl) _<;>simp[eqGuard,binOp,Op.equal,he]
    case h_14=>obtain⟨_,_,rfl,_⟩:=hx.hs_some;simp only[VR]at hy;subst hy;rintro o (rfl|rfl) _<;>simp[eqGuard,binOp,Op.equal,he]
    case h_15 hkind=>
     simp only[VR]at hx hy;subst hx hy;rintro o (rfl|rfl) hl <;>
     ·have hc:isLit ox=true\/isLit oy=true:=by
       unfold lA at hl;rw[ht]at hl;simp only[hkind,HC,Ii,H1]at hl;rcases hl with(hl|hl)
       ·exact .inl hl
       ·exact .inr hl
      rcases hc with hc|hc
      ·cases ox<;>simp[isLit]at hc;simp[eqGuard,binOp,Op.equal,he]
      ·cases oy<;>simp[isLit]at hc;simp[eqGuard,binOp,Op.equal,he]
    case h_16=>simp at hb
  cases op<;>simp only[reduceCtorEq]at h
  case eql=>
   rw[G8]at h;obtain⟨b,hb,rfl⟩:=h;obtain⟨h1,h2,_⟩:=key b hb .eql (.inl rfl) hlit;exact⟨.bool b,by simp only[Sem.run_bind,h1,Result.andThen_ok,h2],by simp[VR]⟩
  case neq=>
   rw[G8]at h;obtain⟨b,hb,rfl⟩:=h;obtain⟨h1,_,h2⟩:=key b hb .neq (.inr rfl) hlit;exact⟨.bool !b,by simp only[Sem.run_bind,h1,Result.andThen_ok,h2],by simp[VR]⟩
end
end Go.Av
namespace Go.Av
def Wf(S:ap)(w:World):Prop:=∀(b o:Nat)(v:Value),S b o=some v->w.cell? ⟨b,o,none⟩=some v
section
variable {P:Program} {T:TT} {w:World} {S:ap} {β:List aZ}
theorem addr_add(b o n:Nat):(⟨b,o,none⟩:Addr).add n=⟨b,o+n,none⟩:=by
 unfold Addr.add;split
 ·simp_all
 ·rfl
theorem Ef{op:UnOp}{x r:AV}{vx:Value}(h:iq op x=some r)(hx:VR S β x vx):nP P w S β (Op.unary op vx) r:=by
 unfold iq at h;split at h
 ·simp at h;subst h;simp only[VR]at hx;subst hx;exact⟨_,by simp[Op.unary];rfl,by simp[VR]⟩
 ·simp only[F7]at h;subst h;simp only[VR]at hx;subst hx;exact⟨_,by simp only[Op.unary,Op.intArith,Sem.run_pure];rfl,by simp[VR]⟩
 ·simp at h
theorem ym(hT:TOK P T){s d:TypeId}{x r:AV}{vx:Value}(h:lm T s d x=some r)(hx:VR S β x vx):nP P w S β (convert s d vx) r:=by
 unfold lm at h;split at h
 ·rename_i si di hs hd;obtain⟨_,sd,_,_,hsd,_⟩:=(hT.get hs).ex;obtain⟨_,dd,_,_,hdd,_,_,_,_,hk,_⟩:=(hT.get hd).ex;split at h
  ·rename_i k _ n hkk;simp only[F7]at h;subst h;simp only[VR]at hx;subst hx;cases dd<;>simp only[kindOf,hkk,reduceCtorEq,TK.int.injEq]at hk;subst hk;exact⟨_,by simp[convert,run_underlying hsd,run_underlying hdd,Conv.intToInt];rfl,by simp only[VR]⟩
  ·rename_i s hkk;simp only[F7]at h;subst h;have hx':=hx;simp only[VR]at hx;obtain⟨y,rfl,_⟩:=hx;cases dd<;>simp only[kindOf,hkk,reduceCtorEq]at hk;refine⟨_,?_,hx'⟩;cases sd<;>simp[convert,run_underlying hsd,run_underlying hdd]
  ·simp at h
 ·simp at h
theorem iU(hT:TOK P T){t f:Nat}{x r:AV}{vx:Value}(h:aa T t x f=some r)(hx:VR S β x vx):nP P w S β (Instr.fieldAt t vx f) r:=by
 unfold aa at h;split at h
 ·simp at h
 ·rename_i ti ht;obtain⟨_,d,_,_,hd,_,_,_,_,_,_,hof,_⟩:=(hT.get ht).ex;split at h
  ·simp at h
  ·rename_i o ft nm hf;rw[<- hof]at hf;obtain⟨fs,rfl⟩:∃fs,d= .struct fs:=by cases d<;>simp_all[oC]
   simp only[oC]at hf;rw[Hk]at hf;cases hff:fs.toList[f]? with
   |none=>rw[hff]at hf;simp at hf
   | some fd=>
    rw[hff]at hf;simp at hf;obtain⟨rfl,rfl,_⟩:=hf;have hff':fs[f]? = some fd:=by simpa using hff
    split at h
    ·simp at h
    ·rename_i fi hfi;obtain⟨ii,_,_,hii,_,_,_,hsz,_⟩:=(hT.get hfi).ex;split at h
     ·simp at h
     ·rename_i hne;have hz:¬(ii.size=0):=by rw[hsz];exact hne
      split at h
      ·simp only[F7]at h;subst h;simp only[VR]at hx;obtain⟨b,off,vs,rfl,hv,hc⟩:=hx;refine⟨.pointer (some ⟨b,off+fd.offset,none⟩),?_,?_⟩
       ·simp[Instr.fieldAt,run_underlying hd,hff',Instr.sureAddr,fieldPlace,run_sizeOf hii,hz,addr_add]
       ·simp only[VR];refine⟨b,off+fd.offset,vs.drop fd.offset,rfl,hv.drop _,fun j v hj=>?_⟩;rw[GR]at hj
        have:=hc _ _ hj
        rwa [show off+fd.offset+j=off+(fd.offset+j) by omega]
      ·rename_i l off;simp only[F7]at h;subst h;simp only[VR]at hx;obtain⟨b,hb,hb0,rfl⟩:=hx;refine⟨.pointer (some ⟨b.1,off+fd.offset,none⟩),?_,?_⟩
       ·simp[Instr.fieldAt,run_underlying hd,hff',Instr.sureAddr,fieldPlace,run_sizeOf hii,hz,addr_add]
       ·simp only[VR];exact⟨b,hb,hb0,rfl⟩
      ·simp at h
theorem pu{S:ap}{β:List aZ}{b o n:Nat}{cs:List AV}{vs:List Value}(hv:aP S β cs vs)(hc:cY S b o vs):
  VR S β (.ip (cs.drop n)) (.pointer (some ⟨b,o+n,none⟩)):=by
 simp only[VR];refine⟨b,o+n,vs.drop n,rfl,hv.drop _,fun j v hj=>?_⟩;rw[GR]at hj
 have:=hc _ _ hj
 rwa [show o+n+j=o+(n+j) by omega]
theorem fK(hT:TOK P T){t:Nat}{x i r:AV}{vx vi:Value}(h:ay T t x i=some r)(hx:VR S β x vx)(hi:VR S β i vi):nP P w S β (Instr.indexAt t vx vi) r:=by
 unfold ay at h;split at h
 ·rename_i ti k n ht;simp only[VR]at hi;subst hi;obtain⟨_,d,_,_,hd,_,_,_,_,hk,_⟩:=(hT.get ht).ex;split at h
  ·-- slice,by value
   rename_i e es hkk;cases d<;>simp only[kindOf,hkk,reduceCtorEq,TK.slice.injEq]at hk;subst hk;split at h
   ·rename_i ei hei;obtain⟨ii,_,_,hii,_,_,_,hsz,_⟩:=(hT.get hei).ex;split at h
    ·simp at h
    ·rename_i hn;split at h
     ·rename_i a ha;split at h
      ·rename_i hs;simp only[F7]at h;subst h;simp only[VR]at hx;obtain⟨ad,cap,rfl,hc,hnone,hsome⟩:=hx;have hlt:n.toNat<es.length:=by
        rcases Gp n.toNat es.length with h|h
        ·exact h
        ·rw[Gi h]at ha;simp at ha
       cases ad with
       |none=>have:=hnone rfl;omega
       | some q=>
        obtain⟨hq,sz,hel⟩:=hsome q rfl;obtain⟨v,hv,hvs,hvc⟩:=hel.get ha;obtain⟨h1,h2,_⟩:=hv.cells hs;have hqq:q=⟨q.block,q.off,none⟩:=by
         have:=hq (by omega)
         cases q;simp_all
        have hsz':sz=ei.size:=by rw[<- hvs,h1]
        refine⟨.pointer (some ⟨q.block,q.off+n.toNat*ei.size,none⟩),?_,?_⟩
        ·rw[hqq];have hcond:0<=n/\n<(es.length:Int):=by omega
         simp only[Instr.indexAt,asIntOf,Sem.run_bind,Sem.run_pure,Result.andThen_ok,run_underlying hd,H5,Gq,GH,hcond,Ir,GP,run_sizeOf hii,hsz,addr_add]
        ·simp only[VR];exact⟨_,_,v.cells.toList,rfl,h2,by rw[hsz']at hvc;exact hvc⟩
      ·simp at h
     ·simp at h
   ·simp at h
  ·-- slice in the heap
   rename_i e l off len sz ag hkk;cases d<;>simp only[kindOf,hkk,reduceCtorEq,TK.slice.injEq]at hk;subst hk;split at h
   ·rename_i ei hei;obtain⟨ii,_,_,hii,_,_,_,hsz,_⟩:=(hT.get hei).ex;split at h
    ·rename_i hc;simp only[F7]at h;subst h;obtain⟨b,cap,hb,hb0,rfl,_⟩:=hx.hs_pos (by omega);refine⟨.pointer (some ⟨b.1,off+n.toNat*ei.size,none⟩),?_,by simp only[VR];exact⟨b,hb,hb0,rfl⟩⟩;simp only[Instr.indexAt,asIntOf,Sem.run_bind,Sem.run_pure,Result.andThen_ok,run_underlying hd,H5,Gq,GH,hc,Ir,GP,run_sizeOf hii,hsz,addr_add]
    ·simp at h
   ·simp at h
  ·rename_i m e cs hkk;cases d<;>simp only[kindOf,hkk,reduceCtorEq,TK.array.injEq]at hk;obtain⟨rfl,rfl⟩:=hk;split at h
   ·rename_i ei hei;obtain⟨ii,_,_,hii,_,_,_,hsz,_⟩:=(hT.get hei).ex;split at h
    ·rename_i hc;simp only[F7]at h;subst h;simp only[VR]at hx;obtain⟨b,off,vs,rfl,hv,hcc⟩:=hx;refine⟨.pointer (some ⟨b,off+n.toNat*ei.size,none⟩),?_,pu hv hcc⟩;simp only[Instr.indexAt,asIntOf,Instr.sureAddr,Sem.run_bind,Sem.run_pure,Result.andThen_ok,run_underlying hd,hc,Ir,GP,run_sizeOf hii,hsz,addr_add]
    ·simp at h
   ·simp at h
  ·rename_i m e l off hkk;cases d<;>simp only[kindOf,hkk,reduceCtorEq,TK.array.injEq]at hk;obtain⟨rfl,rfl⟩:=hk;split at h
   ·rename_i ei hei;obtain⟨ii,_,_,hii,_,_,_,hsz,_⟩:=(hT.get hei).ex;split at h
    ·rename_i hc;simp only[F7]at h;subst h;simp only[VR]at hx;obtain⟨b,hb,hb0,rfl⟩:=hx;refine⟨.pointer (some ⟨b.1,off+n.toNat*ei.size,none⟩),?_,by simp only[VR];exact⟨b,hb,hb0,rfl⟩⟩;simp only[Instr.indexAt,asIntOf,Instr.sureAddr,Sem.run_bind,Sem.run_pure,Result.andThen_ok,run_underlying hd,hc,Ir,GP,run_sizeOf hii,hsz,addr_add]
    ·simp at h
   ·simp at h
  ·simp at h
 ·simp at h
theorem iG(hT:TOK P T){t:Nat}{ti:TI}(ht:T t=some ti){b o:Nat}{vs:List Value}{cs:List AV}(hv:aP S β cs vs)(hc:∀j v,vs[j]? = some v->w.cell? ⟨b,o+j,none⟩=some v){r:AV}(hr:(bif ti.agg then(if ti.size<=cs.length then some (.agg (cs.take ti.size))else none)else cs.head?)=some r):nP P w S β (loadVar t ⟨b,o,none⟩) r:=by
 obtain⟨ii,d,_,hii,hd,_,_,hsz,_,_,hag,_⟩:=(hT.get ht).ex;cases ha:ti.agg with
 | true=>
  rw[ha]at hr;simp only[F9]at hr;split at hr
  ·rename_i hle;simp only[F7]at hr;subst hr;have hl:(vs.take ti.size).length=ti.size:=by simp[hv.length];omega
   have hload:=run_loadCells_list (P:=P) w ⟨b,o,none⟩ (vs.take ti.size) (fun j v hj=>by
    rw[addr_add];refine hc j v ?_;rw[Gj]at hj;split at hj
    ·exact hj
    ·simp at hj)
   rw[hl]at hload;refine⟨.agg (vs.take ti.size).toArray,?_,?_⟩
   ·simp[loadVar,dS hd,hag,ha,run_sizeOf hii,hsz,hload]
   ·simp only[VR];exact⟨_,rfl,hv.take _⟩
  ·simp at hr
 |false=>
  rw[ha]at hr;simp only[Gd]at hr;rw[List.head?_eq_getElem?]at hr;obtain⟨v,hv',hR⟩:=hv.get hr;refine⟨v,?_,hR⟩
  have:=hc 0 v hv'
  simp only[G4]at this;simp[loadVar,dS hd,hag,ha,this]
theorem s7(hT:TOK P T)(hw:Wf S w){t:Nat}{x r:AV}{vx:Value}(h:am T t x=some r)(hx:VR S β x vx):nP P w S β (Instr.loadAt t vx) r:=by
 unfold am at h;split at h
 ·rename_i ti cs ht;simp only[VR]at hx;obtain⟨b,off,vs,rfl,hv,hc⟩:=hx;obtain⟨v,h1,h2⟩:=iG hT ht hv (fun j v hj=>hw _ _ _ (hc j v hj)) h;exact⟨v,by simp[Instr.loadAt,Instr.sureAddr,h1],h2⟩
 ·simp at h
theorem pW(hT:TOK P T){t:Nat}{x i r:AV}{vx vi:Value}(h:dM T t x i=some r)(hx:VR S β x vx)(hi:VR S β i vi):nP P w S β (Instr.index t vx vi) r:=by
 unfold dM at h;split at h
 ·rename_i ti k n ht;simp only[VR]at hi;subst hi;obtain⟨_,d,_,_,hd,_,_,_,_,hk,_⟩:=(hT.get ht).ex;split at h
  ·rename_i s hkk;cases d<;>simp only[kindOf,hkk,reduceCtorEq]at hk;split at h
   ·simp at h
   ·rename_i hn;rw[G8]at h;obtain⟨b,hb,rfl⟩:=h;simp only[VR]at hx;obtain⟨y,rfl,hy⟩:=hx;have hyb:y[n.toNat]? = some b:=by
     rw[<- hy]at hb;have hlt:n.toNat<y.data.size:=by
      rcases Gp n.toNat y.data.size with h|h
      ·exact h
      ·rw[Gi (by simpa using h)]at hb;simp at hb
     have:n.toNat<y.size:=hlt;rw[getElem?_pos y n.toNat this];rw[Gm (by simpa using hlt)]at hb;simp at hb;rw[<- hb];rfl
    have h0:0<=n:=by omega
    exact⟨_,by simp[Instr.index,asIntOf,run_underlying hd,h0,hyb];rfl,by simp only[VR]⟩
  ·rename_i m e cs hkk;cases d<;>simp only[kindOf,hkk,reduceCtorEq,TK.array.injEq]at hk;obtain⟨rfl,rfl⟩:=hk;split at h
   ·rename_i ei hei;obtain⟨ii,_,_,hii,_,_,_,hsz,_⟩:=(hT.get hei).ex;split at h
    ·rename_i hc;simp only[VR]at hx;obtain⟨vs,rfl,hv⟩:=hx;obtain⟨v,h1,h2⟩:=oF (w:=w) hT hei hv h;refine⟨v,?_,h2⟩;simp only[Instr.index,asIntOf,Sem.run_bind,Sem.run_pure,Result.andThen_ok,run_underlying hd,hc,Ir,GP,run_sizeOf hii,hsz,h1]
    ·simp at h
   ·simp at h
  ·simp at h
 ·simp at h
theorem wg(hT:TOK P T){t f:Nat}{x r:AV}{vx:Value}(h:we T t x f=some r)(hx:VR S β x vx):nP P w S β (Instr.field t vx f) r:=by cases h
theorem Bg(hT:TOK P T){t u:Nat}{x r:AV}{vx:Value}(ts:List TypeId)(xs:List Value)(h:bq T t x=some r)(hx:VR S β x vx):
  nP P w S β (Builtin.len_ (t:: ts).toArray u (vx:: xs).toArray) r:=by
 unfold bq at h;split at h
 ·simp at h
 ·rename_i ti ht;obtain⟨_,d,_,_,hd,_,_,_,_,hk,_⟩:=(hT.get ht).ex;split at h<;>(try simp only[F7,reduceCtorEq]at h)<;>(try subst h)
  ·rename_i e es hkk;simp only[VR]at hx;obtain⟨a,cap,rfl,_⟩:=hx;cases d<;>simp only[kindOf,hkk,reduceCtorEq]at hk;exact⟨_,by simp[Builtin.len_,run_underlying hd,goInt];rfl,by simp[VR]⟩
  ·rename_i hkk;obtain⟨q,cap,rfl,_⟩:=hx.hs_some;cases d<;>simp only[kindOf,hkk,reduceCtorEq]at hk;exact⟨_,by simp[Builtin.len_,run_underlying hd,goInt];rfl,by simp[VR]⟩
  ·rename_i hkk;simp only[VR]at hx;subst hx;cases d<;>simp only[kindOf,hkk,reduceCtorEq]at hk;exact⟨_,by simp[Builtin.len_,run_underlying hd,goInt];rfl,by simp[VR]⟩
  ·rename_i s hkk;simp only[VR]at hx;obtain⟨y,rfl,hy⟩:=hx;cases d<;>simp only[kindOf,hkk,reduceCtorEq]at hk;refine⟨.int .i64 y.size,by simp[Builtin.len_,run_underlying hd,goInt],?_⟩;simp only[VR,<- hy,Gs];rfl
  ·rename_i n e hkk;cases d<;>simp only[kindOf,hkk,reduceCtorEq,TK.array.injEq]at hk;obtain⟨rfl,rfl⟩:=hk;exact⟨_,by simp[Builtin.len_,run_underlying hd,goInt];rfl,by simp[VR]⟩
theorem rD{x r:AV}{i:Nat}{vx:Value}(h:bh x i=some r)(hx:VR S β x vx):nP P w S β (Instr.extract vx i) r:=by
 unfold bh at h;split at h
 ·simp only[VR]at hx;obtain⟨vs,rfl,hv⟩:=hx;obtain⟨v,h1,h2⟩:=hv.get h;exact⟨v,by simp[Instr.extract,h1],h2⟩
 ·simp at h
theorem rW(hT:TOK P T){t:Nat}{x r:AV}{vx:Value}(h:lP T t x=some r)(hx:VR S β x vx):nP P w S β (Instr.makeInterface t vx) r:=by
 unfold lP at h;split at h
 ·simp at h
 ·rename_i ti ht;obtain⟨_,d,_,_,hd,_,_,_,_,hk,_⟩:=(hT.get ht).ex;split at h
  ·simp at h
  ·rename_i hne;simp only[F7]at h;subst h;refine⟨.iface t vx,?_,by simp only[VR];exact⟨vx,rfl,hx⟩⟩;cases d<;>simp_all[Instr.makeInterface,run_underlying hd,kindOf]
theorem yP{big:Bool}{x y r:AV}{vx vy:Value}(h:wM big x y=some r)(hx:VR S β x vx)(hy:VR S β y vy):
  nP P w S β (bif big then Builtin.max2 vx vy else Builtin.min2 vx vy) r:=by
 unfold wM at h;split at h
 ·simp only[F7]at h;subst h;simp only[VR]at hx hy;subst hx hy;cases big
  ·exact⟨_,by simp[Builtin.min2];rfl,by simp[VR]⟩
  ·exact⟨_,by simp[Builtin.max2];rfl,by simp[VR]⟩
 ·simp at h
theorem oz{big:Bool}:(n:Nat)->(xs:List AV)->xs.length<=n->(r:AV)->(vs:List Value)->fZ big xs=some r->aP S β xs vs->
  ∃v rest,vs=v:: rest/\nP P w S β (rest.foldlM (bif big then Builtin.max2 else Builtin.min2) v) r
 |_,[],_,r,vs,h,_=>by simp[fZ]at h
 |n,[x],_,r,vs,h,hv=>by
  simp only[fZ,F7]at h;subst h;simp only[aP]at hv;obtain⟨v,xs,rfl,hx,rfl⟩:=hv;exact⟨v,[],rfl,v,by simp,hx⟩
 |0,x:: y:: xs,hl,r,vs,h,hv=>by simp at hl
 | n+1,x:: y:: xs,hl,r,vs,h,hv=>by
  unfold fZ at h;split at h
  ·rename_i z hz;simp only[aP]at hv;obtain⟨v,ys,rfl,hx,u,zs,rfl,hy,hzs⟩:=hv;obtain⟨c,hc,hcr⟩:=yP (P:=P) (w:=w) hz hx hy;obtain⟨v',rest',he,hp⟩:=oz n (z:: xs) (by simp at hl |-;omega) r (c:: zs) h (by simp only[aP];exact⟨c,zs,rfl,hcr,hzs⟩);simp only[List.cons.injEq]at he;obtain⟨rfl,rfl⟩:=he;refine⟨v,u:: zs,rfl,?_⟩;obtain⟨o,ho,hor⟩:=hp;refine⟨o,?_,hor⟩;simp only[List.foldlM_cons,Sem.run_bind];have:((bif big then Builtin.max2 else Builtin.min2) v u).run P w= .ok c w:=by cases big<;>simpa using hc
   rw[this,Result.andThen_ok,ho]
  ·simp at h
end
end Go.Av
namespace Go.Av
section
variable {P:Program} {T:TT} {w:World} {S:ap} {β:List aZ}
theorem qG{x:AV}{v:Value}{dflt most n y:Nat}(c:BoundsCode)(hy:most<=y)(h:cr (some x) dflt most=some n)(hx:VR S β x v):(Instr.sliceBound v y c).run P w= .ok n w/\n<=most:=by
 unfold cr at h;split at h
 ·rename_i hq;cases hq
 ·rename_i k m hq;cases hq;simp only[VR]at hx;subst hx;split at h
  ·rename_i hcc;simp only[F7]at h;subst h;refine⟨?_,by omega⟩;have:0<=m/\m<=(y:Int):=by omega
   simp only[Instr.sliceBound,asIntOf,Sem.run_bind,Sem.run_pure,Result.andThen_ok,this,Ir,GP]
  ·simp at h
 ·simp at h
def fC(S:ap)(β:List aZ):Option AV->Option Value->Prop
 |none,v=>v=none
 |some x,v=>∃y,v=some y/\VR S β x y
theorem eH{isSlice:Bool}{len cap:Nat}{lo hi:Option AV}{vlo vhi:Option Value}{h l:Nat}(hlo:fC S β lo vlo)(hhi:fC S β hi vhi)(hc:len<=cap)(hh:cr hi len len=some h)(hl:cr lo 0 h=some l):
  (Instr.sliceBounds isSlice len cap vlo vhi none).run P w= .ok (l,h,cap) w/\l<=h/\h<=len:=by
 cases hi with
 | none=>
  simp only[fC]at hhi;subst hhi;simp only[cr,F7]at hh;subst hh;cases lo with
  |none=>
   simp only[fC]at hlo;subst hlo;simp only[cr,F7]at hl;subst hl;exact⟨by simp[Instr.sliceBounds],by omega,by omega⟩
  |some y=>
   obtain⟨u,rfl,hu⟩:=hlo;have h1:=qG (P:=P) (w:=w) .sliceB (Ga _) hl hu;exact⟨by simp[Instr.sliceBounds,h1.1],h1.2,by omega⟩
 | some x=>
  obtain⟨v,rfl,hv⟩:=hhi;have h2:=fun c=>qG (P:=P) (w:=w) c hc hh hv;cases lo with
  |none=>
   simp only[fC]at hlo;subst hlo;simp only[cr,F7]at hl;subst hl;exact⟨by simp[Instr.sliceBounds,h2],by omega,(h2 .index).2⟩
  |some y=>
   obtain⟨u,rfl,hu⟩:=hlo;have h1:=qG (P:=P) (w:=w) .sliceB (Ga _) hl hu;exact⟨by simp[Instr.sliceBounds,h2,h1.1],h1.2,(h2 .index).2⟩
theorem q9{len cap:Nat}{lo:Option AV}{xh xm:AV}{vlo:Option Value}{vh vm:Value}{h l:Nat}(hlo:fC S β lo vlo)(hh:VR S β xh vh)(hm:VR S β xm vm)(hc:len<=cap)(h1:cr (some xh) len len=some h)(h2:cr (some xm) 0 len=some h)(hl:cr lo 0 h=some l):
  (Instr.sliceBounds true len cap vlo (some vh) (some vm)).run P w= .ok (l,h,h) w/\l<=h/\h<=len:=by
 have g2:=fun c=>qG (P:=P) (w:=w) c hc h2 hm;have g1:(Instr.sliceBound vh h .slice3B).run P w= .ok h w:=by
  unfold cr at h1;split at h1
  ·rename_i hq;cases hq
  ·rename_i k m hq;cases hq;simp only[VR]at hh;subst hh;split at h1
   ·rename_i hcc;simp only[F7]at h1;subst h1;have:0<=m/\m<=((m.toNat:Nat):Int):=by omega
    simp only[Instr.sliceBound,asIntOf,Sem.run_bind,Sem.run_pure,Result.andThen_ok,this,Ir,GP]
   ·simp at h1
  ·simp at h1
 cases lo with
 |none=>
  simp only[fC]at hlo;subst hlo;simp only[cr,F7]at hl;subst hl;exact⟨by simp[Instr.sliceBounds,g2,g1],by omega,(g2 .index).2⟩
 |some y=>
  obtain⟨u,rfl,hu⟩:=hlo;have h1:=qG (P:=P) (w:=w) .slice3C (Ga _) hl hu;exact⟨by simp[Instr.sliceBounds,g2,g1,h1.1],h1.2,(g2 .index).2⟩
theorem FT{es:List AV}{a:Option Addr}{cap l h esz:Nat}(hx:VR S β (.sl es) (.slice a es.length cap))(hlh:l<=h)(hh:h<=es.length)(hs:∀q,a=some q->h≠l->l≠0->∀sz,bg S β es q.block q.off sz->sz=esz)(m:Nat)(hm:h<=m)(hmc:m<=cap):
  VR S β (.sl ((es.take h).drop l)) (.slice (if m=l then a else a.map (·.add (l*esz))) (h-l) (m-l)):=by
 simp only[VR]at hx |-;obtain⟨a',cap',he,hc,hnone,hsome⟩:=hx;simp only[Value.slice.injEq]at he;obtain⟨rfl,_,rfl⟩:=he;have hlen:((es.take h).drop l).length=h-l:=by simp;omega
 refine⟨_,m-l,by rw[hlen],by rw[hlen];omega,?_,?_⟩
 ·intro hn;split at hn
  ·omega
  ·simp at hn;subst hn
   have:=hnone rfl
   omega
 ·intro q hq;split at hq
  ·rename_i hml;have:h=l:=by omega
   subst this;subst hq;obtain⟨h1,_⟩:=hsome q rfl;refine⟨fun hp=>h1 (by omega),1,?_⟩;have:(es.take h).drop h=[]:=by apply Gz;simp
   rw[this];simp[bg]
  ·rw[G8]at hq;obtain⟨q0,rfl,rfl⟩:=hq;obtain⟨h1,sz,h2⟩:=hsome q0 rfl;have hq0:q0=⟨q0.block,q0.off,none⟩:=by
    have:=h1 (by omega)
    cases q0;simp_all
   refine⟨fun _=>by rw[hq0,addr_add],?_⟩;by_cases hhl:h=l
   ·subst hhl;have:(es.take h).drop h=[]:=by apply Gz;simp
    exact⟨1,by rw[this];simp[bg]⟩
   ·by_cases hl0:l=0
    ·subst hl0;refine⟨sz,?_⟩;rw[hq0,addr_add];simpa using h2.take h
    ·have:=hs q0 rfl hhl hl0 sz h2
     subst this;refine⟨sz,?_⟩;rw[hq0,addr_add];exact (h2.take h).drop l
theorem extract_toList(y:ByteArray)(l h:Nat):(y.extract l h).data.toList=(y.data.toList.take h).drop l:=by
 rw[ByteArray.data_extract,Array.toList_extract,IB,IW]
theorem xg(hT:TOK P T){t:Nat}{x r:AV}{lo hi mx:Option AV}{vx:Value}{vlo vhi vmx:Option Value}(h:oL T t x lo hi mx=some r)(hx:VR S β x vx)(hlo:fC S β lo vlo)(hhi:fC S β hi vhi)(hmx:fC S β mx vmx):
  ∃v,(Instr.sliceAt t vx vlo vhi vmx).run P w= .ok v w/\VR S β r v/\(mx.isSome=true->(∃a n,v= .slice a n n)/\∃es,r= .sl es):=by
 unfold oL at h;split at h
 ·simp at h
 ·rename_i ti ht;obtain⟨_,d,_,_,hd,_,_,_,_,hk,_⟩:=(hT.get ht).ex;split at h
  ·-- strings
   rename_i s hkk;cases d<;>simp only[kindOf,hkk,reduceCtorEq]at hk;split at h
   ·simp at h
   ·simp only[fC]at hmx;subst hmx;split at h
    ·simp at h
    ·rename_i hh hhe;split at h
     ·simp at h
     ·rename_i l hle;simp only[F7]at h;subst h;simp only[VR]at hx;obtain⟨y,rfl,hy⟩:=hx;have hsz:y.size=s.length:=by rw[<- hy,Gs];rfl
      obtain⟨hb,h1,h2⟩:=eH (P:=P) (w:=w) (isSlice:=false) hlo hhi (Ga s.length) hhe hle;refine⟨.string (y.extract l hh),?_,?_,by simp⟩
      ·simp only[Instr.sliceAt,Sem.run_bind,run_underlying hd,Result.andThen_ok,Instr.slice,Option.isSome_none,Gq,GH,hsz,hb,Sem.run_pure]
      ·simp only[VR];exact⟨_,rfl,by rw[extract_toList,hy]⟩
  ·-- slices by value
   rename_i e es hkk;cases d<;>simp only[kindOf,hkk,reduceCtorEq,TK.slice.injEq]at hk;subst hk;split at h
   ·simp at h
   ·rename_i ei hei;obtain⟨ii,_,_,hii,_,_,_,hsz,_⟩:=(hT.get hei).ex;split at h
    ·simp at h
    ·rename_i hh hhe;split at h
     ·simp at h
     ·rename_i l hle;cases hck:(decide (l=0)||b6 ei.size es)with
      |false=>rw[hck]at h;simp at h
      | true=>
       rw[hck]at h;simp only[F9]at h;have hx0:=hx;simp only[VR]at hx;obtain⟨a,cap,rfl,hc,hnone,hsome⟩:=hx;have hstep:∀hh l m:Nat,l<=hh->hh<=es.length->hh<=m->m<=cap->(decide (l=0)||b6 ei.size es)=true->
         VR S β (.sl ((es.take hh).drop l)) (.slice (if m=l then a else a.map (·.add (l*ii.size))) (hh-l) (m-l)):=by
        intro hh l m h1 h2 h3 h4 hck;rw[G9]at hck;rcases hck with h0|hok
        ·have h0:l=0:=by simpa using h0
         exact FT hx0 h1 h2 (fun q _ _ hl0=>absurd h0 hl0) m h3 h4
        ·refine FT hx0 h1 h2 (fun q hq hne _ sz hel=>?_) m h3 h4;have hlt:l<es.length:=by omega
         obtain⟨v,hv,hvs,_⟩:=hel.get (Gm hlt);have hsa:bP es[l]=some ei.size:=by
          unfold b6 at hok;rw[Gk]at hok
          have:=hok _ (GC hlt)
          simp[bo]at this;exact this.1
         have:=(hv.cells hsa).1
         omega
       cases mx with
       |none=>
        simp only[F7]at h;subst h;simp only[fC]at hmx;subst hmx;obtain⟨hb,h1,h2⟩:=eH (P:=P) (w:=w) (isSlice:=true) hlo hhi hc hhe hle;refine⟨_,?_,hstep hh l cap h1 h2 (by omega) (Ga _) hck,by simp⟩;simp only[Instr.sliceAt,Sem.run_bind,run_underlying hd,Result.andThen_ok,Instr.slice,hb,run_sizeOf hii,Sem.run_pure]
       | some xm=>
        obtain⟨vm,rfl,hvm⟩:=hmx;cases hi with
        |none=>simp at h
        | some xh=>
         obtain⟨vh,rfl,hvh⟩:=hhi;simp only at h;split at h
         ·rename_i m' hm' _;split at h
          ·rename_i hmh;subst hmh;simp only[F7]at h;subst h;obtain⟨hb,h1,h2⟩:=q9 (P:=P) (w:=w) hlo hvh hvm hc hhe ‹_› hle;refine⟨_,?_,hstep m' l m' h1 h2 (Ga _) (by omega) hck,fun _=>⟨⟨_,_,rfl⟩,_,rfl⟩⟩;simp only[Instr.sliceAt,Sem.run_bind,run_underlying hd,Result.andThen_ok,Instr.slice,hb,run_sizeOf hii,Sem.run_pure]
          ·simp at h
         ·simp at h
  ·-- a nil slice
   rename_i e hkk;cases d<;>simp only[kindOf,hkk,reduceCtorEq,TK.slice.injEq]at hk;subst hk;split at h
   ·simp at h
   ·rename_i ei hei;obtain⟨ii,_,_,hii,_,_,_,hsz,_⟩:=(hT.get hei).ex;split at h
    ·simp at h
    ·simp only[fC]at hmx;subst hmx;split at h
     ·simp at h
     ·rename_i hh hhe;split at h
      ·simp at h
      ·rename_i l hle;simp only[F7]at h;subst h;simp only[VR]at hx;subst hx;obtain⟨hbd,h1,h2⟩:=eH (P:=P) (w:=w) (isSlice:=true) (len:=0) (cap:=0) hlo hhi (Ga 0) hhe hle;obtain rfl:hh=0:=by omega
       obtain rfl:l=0:=by omega
       refine⟨.slice none 0 0,?_,by simp only[VR],by simp⟩;simp only[Instr.sliceAt,Sem.run_bind,run_underlying hd,Result.andThen_ok,Instr.slice,hbd,run_sizeOf hii,Sem.run_pure,GP]
  ·-- slices in the heap
   rename_i e l0 off len sz ag hkk;cases d<;>simp only[kindOf,hkk,reduceCtorEq,TK.slice.injEq]at hk;subst hk;split at h
   ·simp at h
   ·rename_i ei hei;obtain⟨ii,_,_,hii,_,_,_,hsz,_⟩:=(hT.get hei).ex;split at h
    ·simp at h
    ·simp only[fC]at hmx;subst hmx;split at h
     ·simp at h
     ·rename_i hh hhe;split at h
      ·simp at h
      ·rename_i l hle;split at h
       ·rename_i hcond;simp only[VR]at hx;rcases hx with⟨b,cap,hb,hb0,rfl,hcap,hcs⟩|⟨h00,q0,rfl⟩
        rotate_left
        ·subst h00;obtain⟨hbd,h1,h2⟩:=eH (P:=P) (w:=w) (isSlice:=true) (len:=0) (cap:=0) hlo hhi (Ga 0) hhe hle;split at h
         ·omega
         ·simp only[F7]at h;subst h;obtain rfl:hh=0:=by omega
          obtain rfl:l=0:=by omega
          refine⟨.slice (some q0) 0 0,?_,?_,by simp⟩
          ·simp only[Instr.sliceAt,Sem.run_bind,run_underlying hd,Result.andThen_ok,Instr.slice,hbd,run_sizeOf hii,Sem.run_pure,GP]
          ·simp only[VR,bg];exact⟨_,_,rfl,Hi _,(fun h=>by cases h),fun q hq=>⟨fun h=>absurd h (by omega),0,trivial⟩⟩
        obtain⟨hbd,h1,h2⟩:=eH (P:=P) (w:=w) (isSlice:=true) hlo hhi hcap hhe hle;split at h
        ·rename_i hlt;simp only[F7]at h;subst h;have hml:cap≠l:=by omega
         refine⟨.slice (some ⟨b.1,off+l*sz,none⟩) (hh-l) (cap-l),?_,?_,by simp⟩
         ·simp only[Instr.sliceAt,Sem.run_bind,run_underlying hd,Result.andThen_ok,Instr.slice,hbd,run_sizeOf hii,Sem.run_pure,hml,GH,HJ,addr_add,hsz,hcond]
         ·simp only[VR];refine .inl ⟨b,cap-l,hb,hb0,rfl,by omega,?_⟩;rw[Nat.sub_mul];have:l*sz<=cap*sz:=Gr _ (by omega);omega
        ·rename_i hlt;simp only[F7]at h;subst h;obtain rfl:l=hh:=by omega
         by_cases hml:cap=l
         ·refine⟨.slice (some ⟨b.1,off,none⟩) (l-l) (cap-l),?_,?_,by simp⟩
          ·rw[hml]at hbd;simp only[Instr.sliceAt,Sem.run_bind,run_underlying hd,Result.andThen_ok,Instr.slice,hml,hbd,run_sizeOf hii,Sem.run_pure,GP]
          ·simp only[VR,bg];rw[Hq];exact⟨_,_,rfl,Hi _,(fun h=>by cases h),fun q hq=>by cases hq;exact⟨fun _=>rfl,0,trivial⟩⟩
         ·refine⟨.slice (some ⟨b.1,off+l*sz,none⟩) (l-l) (cap-l),?_,?_,by simp⟩
          ·simp only[Instr.sliceAt,Sem.run_bind,run_underlying hd,Result.andThen_ok,Instr.slice,hbd,run_sizeOf hii,Sem.run_pure,hml,GH,HJ,addr_add,hsz,hcond]
          ·simp only[VR,bg];rw[Hq];exact⟨_,_,rfl,Hi _,(fun h=>by cases h),fun q hq=>by cases hq;exact⟨fun _=>rfl,0,trivial⟩⟩
       ·simp at h
  ·-- an array that is pointed to
   rename_i m e cs hkk;cases d<;>simp only[kindOf,hkk,reduceCtorEq,TK.array.injEq]at hk;obtain⟨rfl,rfl⟩:=hk;split at h
   ·rename_i ei hei;obtain⟨ii,_,_,hii,_,_,_,hsz,_⟩:=(hT.get hei).ex;simp only[fC]at hlo hhi hmx;subst hlo hhi hmx;split at h
    ·rename_i hc;obtain⟨h1,h2,h3,h4⟩:=hc;simp only[F7]at h;subst h;simp only[VR]at hx;obtain⟨b,off,vs,rfl,hvs,hcs⟩:=hx;refine⟨.slice (some ⟨b,off,none⟩) cs.length cs.length,?_,?_,by simp⟩
     ·rw[h2];simp only[Instr.sliceAt,Sem.run_bind,run_underlying hd,Result.andThen_ok,Instr.sureAddr,Instr.sliceBounds,Sem.run_pure,run_sizeOf hii];rw[if_neg (by omega)];simp[addr_add]
     ·simp only[VR];refine⟨_,_,rfl,Ga _,(fun h=>by cases h),fun q hq=>?_⟩;cases hq;refine⟨fun _=>rfl,1,.of_get fun i e he=>?_⟩;obtain⟨v,v1,v2⟩:=hvs.get he;have hs:rL e=true:=by
       rw[Gk]at h4;exact h4 e (He he)
      cases e<;>simp only[rL,Gq]at hs;simp only[VR]at v2;obtain⟨x,rfl,hx⟩:=v2;refine⟨_,⟨x,rfl,hx⟩,rfl,fun j u hu=>?_⟩;have hj:j=0:=by
       cases j with
       |zero=>rfl
       |succ j=>simp[Value.cells]at hu
      subst hj;have hu':u= .string x:=by simpa [Value.cells]using hu.symm
      subst hu';rw[Nat.mul_one,G4];exact hcs i _ v1
    ·simp at h
   ·simp at h
  ·simp at h
theorem uG(hT:TOK P T){t:Nat}{x r:AV}{lo hi mx:Option AV}{vx:Value}{vlo vhi vmx:Option Value}(h:sf T t x lo hi mx=some r)(hx:VR S β x vx)(hlo:fC S β lo vlo)(hhi:fC S β hi vhi)(hmx:fC S β mx vmx):
  ∃v,(Instr.sliceAt t vx vlo vhi vmx).run P w= .ok v w/\VR S β r v/\(mx.isSome=true->(∃a n,v= .slice a n n)/\∃es,r= .sl es):=by cases h
end
end Go.Av
namespace Go.Av
section
variable {P:Program} {T:TT} {w:World} {S:ap} {β:List aZ}
theorem oK(cs xs:List AV)(off k:Nat)(h:off+xs.length<=cs.length):
  (setCells cs off xs)[k]? = if off<=k/\k<off+xs.length then xs[k-off]? else cs[k]?:=by
 unfold setCells;have htl:(cs.take off).length=off:=by simp;omega
 split
 ·rename_i hc;rw[GI,Gn (by omega),htl,Gc (by omega)]
 ·rename_i hc;by_cases hk:k<off
  ·rw[GI,Gc (by omega),Gj,Gg hk]
  ·rw[Gn (by simp;omega),GR];congr 1;simp;omega
theorem eq(cs xs:List AV)(off:Nat)(h:off+xs.length<=cs.length):(setCells cs off xs).length=cs.length:=by
 simp[setCells];omega
theorem foldl_set(vs:List Value):∀(k off:Nat)(cells:Array Value),
  ((vs.zipIdx k).foldl (fun cs x=>cs.setIfInBounds (off+x.2) x.1) cells).size=cells.size/\
  (off+k+vs.length<=cells.size->∀i,((vs.zipIdx k).foldl (fun cs x=>cs.setIfInBounds (off+x.2) x.1) cells)[i]? = if off+k<=i/\i<off+k+vs.length then vs[i-(off+k)]? else cells[i]?):=by
 induction vs with
 |nil=>intro k off cells;simp;omega
 | cons v vs ih=>
  intro k off cells;simp only[List.zipIdx_cons,List.foldl_cons,Gu];obtain⟨h1,h2⟩:=ih (k+1) off (cells.setIfInBounds (off+k) v);refine⟨by rw[h1];simp,fun hle i=>?_⟩;rw[h2 (by simp;omega)];by_cases hi:i=off+k
  ·subst hi;rw[if_neg (by omega),Gg (by omega)];simp[Hy];omega
  ·by_cases hc:off+(k+1)<=i/\i<off+(k+1)+vs.length
   ·rw[Gg hc,Gg (by omega)];rw[show i-(off+k)=(i-(off+(k+1)))+1 by omega];simp
   ·rw[if_neg hc,if_neg (by omega)];rw[HH (by omega)]
theorem aP.splice{cs xs:List AV}{vs:Array Value}{ws:List Value}{off:Nat}(h:aP S β cs vs.toList)(g:aP S β xs ws)(hle:off+xs.length<=cs.length){us:Array Value}(hs:us.size=vs.size)(hu:∀i,us[i]? = if off<=i/\i<off+ws.length then ws[i-off]? else vs[i]?):aP S β (setCells cs off xs) us.toList:=by
 have hl:=h.length;have hl2:=g.length;refine .of_get (by rw[eq _ _ _ hle];simpa [hs]using hl) fun i c v hc hv=>?_;rw[oK _ _ _ _ hle]at hc;rw[Gv,hu,hl2]at hv;split at hc
 ·rename_i hcc;rw[Gg hcc]at hv;obtain⟨v',h1,h2⟩:=g.get hc;rw[hv]at h1;cases h1;exact h2
 ·rename_i hcc;rw[if_neg hcc]at hv;obtain⟨v',h1,h2⟩:=h.get hc;rw[Gv,hv]at h1;cases h1;exact h2
def eF(S:ap)(β:List aZ):List (Nat×AV)->List (Nat×Value)->Prop
 |[],ps=>ps=[]
 |(i,a):: r,ps=>∃v ps',ps=(i,v):: ps'/\VR S β a v/\eF S β r ps'
theorem sQ{pA:Nat->Option (Nat×Nat)}{pV:Nat->Option (Nat×Nat)}(hp:∀i,pA i=pV i):∀(ps:List (Nat×AV))(qs:List (Nat×Value))(cs:List AV)(vs:Array Value)(r:List AV),
  mZ pA cs ps=some r->eF S β ps qs->aP S β cs vs.toList->∃us:Array Value,Instr.fill pV vs qs=some us/\aP S β r us.toList:=by
 intro ps
 induction ps with
 |nil=>
  intro qs cs vs r h hq hv;simp only[eF]at hq;subst hq;simp only[mZ,F7]at h;subst h;exact⟨vs,rfl,hv⟩
 | cons p ps ih=>
  obtain⟨i,a⟩:=p;intro qs cs vs r h hq hv;simp only[eF]at hq;obtain⟨v,qs',rfl,hav,hq'⟩:=hq;simp only[mZ]at h;unfold Instr.fill;rw[<- hp i];split at h
  ·simp at h
  ·rename_i off size hpi;rw[hpi];simp only;split at h
   ·rename_i hc;obtain⟨h1,h2,h3⟩:=hav.cells hc.1;have hvs:vs.size=cs.length:=by have:=hv.length;simpa using this
    rw[if_neg (by simp[h1];omega)];obtain⟨g1,g2⟩:=foldl_set v.cells.toList 0 off vs;have hfold:v.cells.zipIdx.foldl (fun cs x=>cs.setIfInBounds (off+x.2) x.1) vs=(v.cells.toList.zipIdx 0).foldl (fun cs x=>cs.setIfInBounds (off+x.2) x.1) vs:=by
     rw[<- Array.foldl_toList];simp
    have hle:off+(ae a).length<=cs.length:=by rw[h3];exact hc.2
    exact ih qs' _ _ r h hq' (hv.splice h2 hle (by rw[hfold];exact g1) (fun i=>by rw[hfold];simpa using g2 (by simp[h1];omega) i))
   ·simp at h
theorem mC(hT:TOK P T):∀(fs:List Field)(r:List (Nat×Nat)),eI T (fs.map fun f=>(f.offset,f.type,decide (f.name≠ "_")))=some r->
  (fs.mapM fun f=>(do pure (f.offset,<- sizeOf f.type):Sem (Nat×Nat))).run P w= .ok r w:=by
 intro fs
 induction fs with
 |nil=>intro r h;simp[eI]at h;subst h;simp
 | cons f fs ih=>
  intro r h;simp only[GY,eI]at h;split at h
  ·rename_i ti r' ht hr;simp only[F7]at h;subst h;obtain⟨ii,_,_,hii,_,_,_,hsz,_⟩:=(hT.get ht).ex;simp only[List.mapM_cons,Sem.run_bind,run_sizeOf hii,Result.andThen_ok,Sem.run_pure,ih r' hr,hsz]
  ·simp at h
theorem mr(hT:TOK P T){t:Nat}{ti:TI}(ht:T t=some ti)(told:Bool){i:TypeInfo}{z:Value}(hi:P.info? t=some i)(hz:i.zero=some z):aP S β (cp told ti) z.cells.toList:=by
 obtain⟨i',d,z',hi',hd,hz',_,_,_,_,_,_,hzz,_⟩:=(hT.get ht).ex;rw[hi]at hi';cases hi';rw[hz]at hz';cases hz';unfold cp;rw[<- hzz];cases told with
 |false=>exact nS S β _
 | true=>
  simp only[F9,List.map_map];generalize z.cells.toList=l
  induction l with
  |nil=>simp[aP]
  | cons v l ih=>
   simp only[GY,aP];refine⟨v,l,rfl,?_,ih⟩;simp only[Function.comp];split
   ·rename_i hv;unfold sL at hv;split at hv<;>simp at hv;simp[VR]
   ·exact nR S β v
theorem pj(hT:TOK P T){told:Bool}{t:Nat}{parts:List (Nat×AV)}{r:AV}{qs:Array (Nat×Value)}(h:ct T told t parts=some r)(hq:eF S β parts qs.toList):
  nP P w S β (Instr.build t qs) r:=by
 unfold ct at h;split at h
 ·simp at h
 ·rename_i ti ht;obtain⟨i,d,z,hi,hd,hz,_,_,_,hk,_,hof,_⟩:=(hT.get ht).ex;have hzero:=mr (S:=S) (β:=β) hT ht told hi hz;have hzr:(zeroValue t).run P w= .ok z w:=by simp[zeroValue,typeInfo,hi,hz]
  split at h
  ·rename_i hkk;split at h
   ·simp at h
   ·rename_i pl hpl;obtain⟨fs,rfl⟩:∃fs,d= .struct fs:=by cases d<;>simp_all[kindOf]
    rw[G8]at h;obtain⟨cs,hcs,rfl⟩:=h;rw[<- hof]at hpl;have hm:=mC (w:=w) hT fs.toList pl hpl;have hma:(fs.mapM fun f=>(do pure (f.offset,<- sizeOf f.type):Sem (Nat×Nat))).run P w= .ok pl.toArray w:=by
     rw[IC];simp only[Sem.run_map,hm,Result.andThen_ok]
    obtain⟨us,hus,hur⟩:=sQ (pV:=(pl.toArray[·]?)) (fun i=>by simp) parts qs.toList _ z.cells cs hcs hq hzero;refine⟨.agg us,?_,by simp only[VR];exact⟨us.toList,by simp,hur⟩⟩;simp only[Instr.build,Sem.run_bind,hzr,Result.andThen_ok,run_underlying hd,hma,hus,Sem.run_pure]
  ·rename_i n e hkk;split at h
   ·simp at h
   ·rename_i ei hei;obtain⟨ii,_,_,hii,_,_,_,hsz,_⟩:=(hT.get hei).ex;cases d<;>simp only[kindOf,hkk,reduceCtorEq,TK.array.injEq]at hk;obtain⟨rfl,rfl⟩:=hk;rw[G8]at h;obtain⟨cs,hcs,rfl⟩:=h;obtain⟨us,hus,hur⟩:=sQ (pV:=fun i=>some (i*ei.size,ei.size)) (fun i=>rfl) parts qs.toList _ z.cells cs hcs hq hzero;refine⟨.agg us,?_,by simp only[VR];exact⟨us.toList,by simp,hur⟩⟩;simp only[Instr.build,Sem.run_bind,hzr,Result.andThen_ok,run_underlying hd,run_sizeOf hii,hsz,hus,Sem.run_pure]
  ·simp at h
end
end Go.Av
namespace Go.Av
section
variable {P:Program} {T:TT} {w:World} {S:ap} {β:List aZ}
def eh(S:ap)(β:List aZ)(es:List AV)(c:Array Value)(sz:Nat):Prop:=
 ∀(i:Nat)(e:AV),es[i]? = some e->∃v,VR S β e v/\v.cells.size=sz/\∀(j:Nat)(x:Value),v.cells[j]? = some x->c[i*sz+j]? = some x
theorem eh.at{es:List AV}{c:Array Value}{sz b:Nat}{S':ap}(h:eh S β es c sz)(hS:S.le S')(hc:∀(o:Nat)(x:Value),c[o]? = some x->S' b o=some x):bg S' β es b 0 sz:=by
 refine .of_get fun i e he=>?_;obtain⟨v,h1,h2,h3⟩:=h i e he;refine⟨v,h1.mono hS (cq.refl β),h2,fun j x hx=>?_⟩;rw[GE];exact hc _ _ (h3 j x (by simpa using hx))
theorem tI(hT:TOK P T){t:Nat}{ti:TI}(ht:T t=some ti){i:TypeInfo}{z:Value}(hi:P.info? t=some i)(hz:i.zero=some z):VR S β (mq ti) z/\z.cells.size=ti.size:=by
 obtain⟨i',d,z',hi',hd,hz',hzs,hsz,_,_,_,_,hzz,_,hag,hna⟩:=(hT.get ht).ex;rw[hi]at hi';cases hi';rw[hz]at hz';cases hz';refine⟨?_,by omega⟩;unfold mq;cases ha:ti.agg with
 |true=>
  obtain⟨cs,rfl⟩:=hag ha;simp only[F9,VR];refine⟨cs.toList,by simp,?_⟩;rw[<- hzz];exact nS S β _
 |false=>
  have hc:z.cells= #[z]:=by cases z<;>first|rfl|exact absurd rfl (hna ha _)
  rw[hc]at hzz;simp only[Gd,<- hzz];exact nR S β z
theorem qE(hT:TOK P T){t:Nat}{ti:TI}(ht:T t=some ti){i:TypeInfo}{z:Value}(hi:P.info? t=some i)(hz:i.zero=some z)(n:Nat)(zero:Array Value)(h0:n*ti.size≠0->zero=z.cells):
  eh S β (List.replicate n (mq ti)) ((Array.range (n*ti.size)).map (zero[· % zero.size]!)) ti.size:=by
 obtain⟨h1,h2⟩:=tI (S:=S) (β:=β) hT ht hi hz;intro k e he;rw[List.getElem?_replicate]at he;split at he
 ·rename_i hk;simp only[F7]at he;subst he;refine⟨z,h1,h2,fun j x hx=>?_⟩;have hj:j<ti.size:=by
   rcases Gp j z.cells.size with h|h
   ·omega
   ·rw[GL h]at hx;simp at hx
  have hle:k*ti.size+j<n*ti.size:=by
   have:(k+1)*ti.size<=n*ti.size:=Gr _ hk;rw[GK]at this;omega
  have hzero:=h0 (by omega);subst hzero;have hmod:(k*ti.size+j) % z.cells.size=j:=by
   rw[h2,Nat.add_comm,Nat.add_mul_mod_self_right];exact Nat.mod_eq_of_lt hj
  simp only[Array.getElem?_map,Array.getElem?_range,hle,GP,HJ,hmod];rw[getElem!_def,hx]
 ·simp at he
theorem rG{sz:Nat}:∀(ps:List (Nat×AV))(qs:List (Nat×Value))(es r:List AV)(c:Array Value),iV sz es ps=some r->eF S β ps qs->eh S β es c sz->c.size=es.length*sz->
  ∃us:Array Value,Instr.fill (fun i=>some (i*sz,sz)) c qs=some us/\eh S β r us sz/\us.size=c.size/\r.length=es.length:=by
 intro ps
 induction ps with
 |nil=>
  intro qs es r c h hq hr hc;simp only[eF]at hq;subst hq;simp only[iV,F7]at h;subst h;exact⟨c,rfl,hr,rfl,rfl⟩
 | cons p ps ih=>
  obtain⟨i,a⟩:=p;intro qs es r c h hq hr hc;simp only[eF]at hq;obtain⟨v,qs',rfl,hav,hq'⟩:=hq;simp only[iV]at h;split at h
  ·rename_i hcond;obtain⟨h1,h2,h3⟩:=hav.cells hcond.1;have hle:(i+1)*sz<=es.length*sz:=Gr _ hcond.2;rw[GK]at hle;unfold Instr.fill;simp only;rw[if_neg (by simp[h1];omega)];have hfold:v.cells.zipIdx.foldl (fun cs x=>cs.setIfInBounds (i*sz+x.2) x.1) c=(v.cells.toList.zipIdx 0).foldl (fun cs x=>cs.setIfInBounds (i*sz+x.2) x.1) c:=by
    rw[<- Array.foldl_toList];simp
   obtain⟨g1,g2⟩:=foldl_set v.cells.toList 0 (i*sz) c;rw[<- hfold]at g1 g2;have g2:=g2 (by simp[h1];omega);generalize v.cells.zipIdx.foldl (fun cs x=>cs.setIfInBounds (i*sz+x.2) x.1) c=c' at g1 g2 |-;obtain⟨us,h4,h5,h6,h7⟩:=ih qs' (es.set i a) r c' h hq' (by
    intro k e he;rw[H7]at he;split at he
    ·rename_i hik;subst hik;split at he
     ·simp only[F7]at he;subst he;refine⟨v,hav,h1,fun j x hx=>?_⟩;have hj:j<sz:=by
       rcases Gp j v.cells.size with h|h
       ·omega
       ·rw[GL h]at hx;simp at hx
      rw[g2,Gg (by simp[h1];omega)];simpa using hx
     ·simp at he
    ·rename_i hik;obtain⟨u,hu1,hu2,hu3⟩:=hr k e he;refine⟨u,hu1,hu2,fun j x hx=>?_⟩;have hj:j<sz:=by
      rcases Gp j u.cells.size with h|h
      ·omega
      ·rw[GL h]at hx;simp at hx
     rw[g2,if_neg]
     ·exact hu3 j x hx
     ·simp only[Gs,h1,G4];rintro⟨ha,hb⟩;rcases Gp k i with hlt|hge
      ·have:(k+1)*sz<=i*sz:=Gr _ hlt;rw[GK]at this;omega
      ·have:(i+1)*sz<=k*sz:=Gr _ (by omega);rw[GK]at this;omega) (by rw[g1,hc];simp)
   exact⟨us,h4,h5,by rw[h6,g1],by rw[h7];simp⟩
  ·simp at h
theorem ic(hT:TOK P T){t n:Nat}{parts:List (Nat×AV)}{r:AV}{qs:Array (Nat×Value)}(h:bm T t n parts=some r)(hq:eF S β parts qs.toList):
  ∃(es:List AV)(c:Array Value)(e sz:Nat),r= .sl es/\es.length=n/\eh S β es c sz/\
   (Instr.buildSlice t n qs).run P w= .ok (.slice (some ⟨w.heap.size,0,none⟩) n n) (w.alloc (.cells c e)):=by
 unfold bm at h;split at h
 ·simp at h
 ·rename_i ti ht;obtain⟨i,d,z,hi,hd,hz,_,_,_,hk,_,hof,_⟩:=(hT.get ht).ex;split at h
  ·rename_i e hkk;have hd':d= .slice e:=by cases d<;>simp_all[kindOf]
   subst hd';split at h
   ·simp at h
   ·rename_i ei hei;obtain⟨ii,_,zz,hii,_,hzz,hzs,hsz,_⟩:=(hT.get hei).ex;split at h
    ·rename_i hc;rw[G8]at h;obtain⟨es,hes,rfl⟩:=h;have hzr:(zeroValue e).run P w= .ok zz w:=by simp[zeroValue,typeInfo,hii,hzz]
     have hrow:=qE (S:=S) (β:=β) hT hei hii hzz n (if n*ii.size=0 then #[]else zz.cells) (fun hne=>by rw[hsz,if_neg hne]);obtain⟨us,h1,h2,h3,h4⟩:=rG parts qs.toList _ es _ hes hq hrow (by simp);refine⟨es,us,e,ei.size,rfl,by simpa using h4,h2,?_⟩;have hbig:¬(n*ii.size>2 ^ 24):=by rw[hsz];have:=hc.1;omega
     simp only[Instr.buildSlice,Sem.run_bind,run_underlying hd,Result.andThen_ok,run_sizeOf hii,hbig,GH];rw[hsz]at h1 |-;by_cases hz0:n*ei.size=0
     ·rw[Gg hz0]at h1 |-;simp only[Sem.run_bind,Sem.run_pure,Result.andThen_ok,h1,newRow,run_newObj,World.alloc_eq]
     ·rw[if_neg hz0]at h1 |-;simp only[Sem.run_bind,hzr,Sem.run_pure,Result.andThen_ok,h1,newRow,run_newObj,World.alloc_eq]
    ·simp at h
  ·simp at h
theorem ou(hT:TOK P T){t:Nat}{an ac r:AV}{vn vc:Value}(h:iI T t an ac=some r)(hn:VR S β an vn)(hc:VR S β ac vc):
  ∃(es:List AV)(c:Array Value)(e sz cap:Nat),r= .sl es/\bW T t=some sz/\es.length<=cap/\c.size=cap*sz/\eh S β es c sz/\
   (Instr.makeSlice t vn vc).run P w= .ok (.slice (some ⟨w.heap.size,0,none⟩) es.length cap) (w.alloc (.cells c e)):=by cases h
theorem dC{sz:Nat}{a:AV}{v:Value}(h:bo sz a=true)(hv:VR S β a v):v.cells.size=sz/\aP S β (ae a) v.cells.toList/\∀x∈v.cells.toList,x.oneCell'=true:=by
 unfold bo at h;rw[F8]at h;obtain⟨h1,h2⟩:=h;have h1:bP a=some sz:=by simpa using h1
 obtain⟨g1,g2,_⟩:=hv.cells h1;refine⟨g1,g2,fun x hx=>?_⟩;rw[Gk]at h2;obtain⟨i,hi⟩:=Ik hx;have hlt:i<(ae a).length:=by
  rw[<- g2.length];rcases Gp i v.cells.toList.length with h|h
  ·exact h
  ·rw[Gi h]at hi;simp at hi
 obtain⟨y,hy,hyr⟩:=g2.get (Gm hlt);rw[hi]at hy;cases hy
 have:=h2 _ (GC hlt)
 cases hc:(ae a)[i]<;>rw[hc]at this hyr<;>simp[aE]at this<;>simp only[VR]at hyr
 case bool=>subst hyr;rfl
 case int=>subst hyr;rfl
 case nilp=>subst hyr;rfl
 case nilf=>subst hyr;rfl
 case nili=>subst hyr;rfl
 case hn=>subst hyr;rfl
 case str=>obtain⟨_,rfl,_⟩:=hyr;rfl
 case sl=>obtain⟨_,_,rfl,_⟩:=hyr;rfl
 case ip=>obtain⟨_,_,_,rfl,_⟩:=hyr;rfl
 case hp=>obtain⟨_,_,_,rfl⟩:=hyr;rfl
 case hs=>rcases hyr with⟨_,_,_,_,rfl,_⟩|⟨_,_,rfl⟩<;>rfl
 case fn=>obtain⟨_,_,rfl,_⟩:=hyr;rfl
 case iface=>obtain⟨_,rfl,_⟩:=hyr;rfl
 case mp=>obtain⟨_,_,_,rfl⟩:=hyr;rfl
 case nilm=>subst hyr;rfl
def cg(S:ap)(β:List aZ)(es:List AV)(cs:List Value)(sz:Nat):Prop:=cs.length=es.length*sz/\eh S β es cs.toArray sz/\∀x∈cs,x.oneCell'=true
theorem cg.nil(sz:Nat):cg S β [] [] sz:=⟨by simp,fun i e h=>by simp at h,fun x h=>by simp at h⟩
theorem kh{sz:Nat}:∀ {es:List AV} {b off sz':Nat},bg S β es b off sz'->b6 sz es=true->∃cs:List Value,cg S β es cs sz/\cY S b off cs
 |[],b,off,_,_,_=>⟨[],.nil sz,fun j v h=>by simp at h⟩
 | e :: es,b,off,sz',h,hok=>by
  simp only[bg]at h;simp only[b6,GO,F8]at hok;obtain⟨⟨v,hv,hs,hc⟩,hes⟩:=h;obtain⟨h1,h2,h3⟩:=dC hok.1 hv;have:sz'=sz:=by omega
  subst this;obtain⟨cs,⟨g1,g2,g3⟩,g4⟩:=kh hes hok.2;refine⟨v.cells.toList++cs,⟨by simp[g1,hs,GK];omega,?_,?_⟩,?_⟩
  ·intro i x hx;cases i with
   | zero=>
    simp only[Gw,F7]at hx;subst hx;refine⟨v,hv,hs,fun j y hy=>?_⟩;have hj:j<v.cells.size:=by
     rcases Gp j v.cells.size with h|h
     ·exact h
     ·rw[GL h]at hy;simp at hy
    simp only[HO,GE,G2];rw[Gc (by simpa using hj)];simpa using hy
   |succ i=>
    simp only[IL]at hx;obtain⟨u,u1,u2,u3⟩:=g2 i x hx;refine⟨u,u1,u2,fun j y hy=>?_⟩
    have:=u3 j y hy
    simp only[G2]at this |-;rw[Gn (by simp[hs,GK];omega)];rw[show (i+1)*sz'+j-v.cells.toList.length=i*sz'+j by simp[hs,GK];omega];exact this
  ·intro x hx;rcases Gx.1 hx with hx|hx
   ·exact h3 x hx
   ·exact g3 x hx
  ·intro j y hy;rcases Gp j v.cells.toList.length with hlt|hge
   ·rw[Gc hlt]at hy;exact hc j y hy
   ·rw[Gn hge]at hy
    have:=g4 _ _ hy
    rwa [show off+sz'+(j-v.cells.toList.length)=off+j by simp[hs]at hge |-;omega]at this
theorem cg.append{es fs:List AV}{cs ds:List Value}{sz:Nat}(h:cg S β es cs sz)(g:cg S β fs ds sz):cg S β (es++fs) (cs++ds) sz:=by
 obtain⟨h1,h2,h3⟩:=h;obtain⟨g1,g2,g3⟩:=g;refine⟨by simp[h1,g1,GK],fun i x hx=>?_,fun x hx=>?_⟩
 ·rcases Gp i es.length with hlt|hge
  ·rw[Gc hlt]at hx;obtain⟨v,v1,v2,v3⟩:=h2 i x hx;refine⟨v,v1,v2,fun j y hy=>?_⟩
   have:=v3 j y hy
   simp only[G2]at this |-;rw[Gc]
   ·exact this
   ·rcases Gp (i*sz+j) cs.length with h|h
    ·exact h
    ·rw[Gi h]at this;simp at this
  ·rw[Gn hge]at hx;obtain⟨v,v1,v2,v3⟩:=g2 _ x hx;refine⟨v,v1,v2,fun j y hy=>?_⟩
   have:=v3 j y hy
   simp only[G2]at this |-;have hm:es.length*sz<=i*sz:=Gr _ hge;rw[Gn (by omega),h1];rw[Nat.sub_mul]at this
   rwa [show i*sz+j-es.length*sz=i*sz-es.length*sz+j by omega]
 ·rcases Gx.1 hx with hx|hx
  ·exact h3 x hx
  ·exact g3 x hx
theorem eh.mono_row{es:List AV}{c d:Array Value}{sz:Nat}(h:eh S β es c sz)(hcd:∀(o:Nat)(x:Value),c[o]? = some x->d[o]? = some x):eh S β es d sz:=
 fun i e he=>let ⟨v,h1,h2,h3⟩:=h i e he;⟨v,h1,h2,fun j x hx=>hcd _ _ (h3 j x hx)⟩
theorem src_ok{a:AV}{v:Value}{es:List AV}{sz:Nat}(_hw:Wf S w)(h:fW a=some es)(hv:VR S β a v)(hok:b6 sz es=true)(hs:∀s,a= .str s->sz=1):
  (Builtin.lenOf v).run P w= .ok es.length w/\∃cs:List Value,cg S β es cs sz/\∀(w':World),(∀(b o:Nat)(x:Value),S b o=some x->w'.cell? ⟨b,o,none⟩=some x)->(Builtin.firstCells sz es.length v).run P w'= .ok cs.toArray w':=by
 unfold fW at h;split at h
 ·rename_i es0;simp only[F7]at h;subst h;simp only[VR]at hv;obtain⟨ad,cap,rfl,hc,hn,hsm⟩:=hv;refine⟨rfl,?_⟩;cases ad with
  |none=>
   have:=hn rfl
   have he:es0=[]:=Gz (by omega);subst he;exact⟨[],.nil sz,fun w' _=>by simp[Builtin.firstCells]⟩
  | some q=>
   obtain⟨h1,sz',hel⟩:=hsm q rfl;obtain⟨cs,g1,g2⟩:=kh hel hok;refine⟨cs,g1,fun w' hw'=>?_⟩;refine run_firstCells_some w' sz es0.length q es0.length cap cs g1.1 fun j x hx=>?_;have h0:0<cap:=by
    rcases GN cap with h|h
    ·have hl:es0.length=0:=by omega
     have hc0:=g1.1;rw[hl,HO]at hc0;rw[Gi (by omega)]at hx;cases hx
    ·exact h
   have hq:q=⟨q.block,q.off,none⟩:=by
    have:=h1 h0
    cases q;simp_all
   rw[hq,addr_add];exact hw' _ _ _ (g2 j x hx)
 ·simp only[F7]at h;subst h;simp only[VR]at hv;subst hv;exact⟨rfl,[],.nil sz,fun w' _=>by simp[Builtin.firstCells]⟩
 ·simp only[F7]at h;subst h;simp only[VR]at hv;rcases hv with⟨_,cap,_,_,rfl,_⟩|⟨_,_,rfl⟩
  ·exact⟨rfl,[],.nil sz,fun w' _=>run_firstCells_some w' sz 0 _ 0 cap [] (by simp) fun j x hx=>by simp at hx⟩
  ·exact⟨rfl,[],.nil sz,fun w' _=>run_firstCells_some w' sz 0 _ 0 0 [] (by simp) fun j x hx=>by simp at hx⟩
 ·rename_i s;simp only[F7]at h;subst h
  have:=hs s rfl
  subst this;simp only[VR]at hv;obtain⟨y,rfl,hy⟩:=hv;have hsz:y.size=s.length:=by rw[<- hy,Gs];rfl
  refine⟨by simp[Builtin.lenOf,hsz],s.map fun b=>.int .u8 b.toNat,⟨by simp,?_,by simp[Value.oneCell']⟩,fun w' _=>?_⟩
  ·intro i e he;rw[Hk]at he;cases hb:s[i]? with
   |none=>rw[hb]at he;simp at he
   | some b=>
    rw[hb]at he;simp only[HJ,F7]at he;subst he;refine⟨.int .u8 b.toNat,by simp[VR],rfl,fun j x hx=>?_⟩;simp only[Value.cells]at hx;have:j=0:=by
     rcases GN j with h|h
     ·exact h
     ·rw[GL (by simp;omega)]at hx;simp at hx
    subst this;simp at hx;simp[hb,hx]
  ·have hx:(Array.map (fun b:UInt8=>Value.int IntKind.u8 (b.toNat:Int)) (y.extract 0 (s.map fun b=>AV.int IntKind.u8 (b.toNat:Int)).length).data)=(s.map fun b=>Value.int .u8 b.toNat).toArray:=by
    apply Hr;rw[Array.toList_map,extract_toList,hy];simp
   simp only[Builtin.firstCells,Sem.run_pure,hx]
 ·simp at h
end
end Go.Av
namespace Go.Av
section
variable {P:Program} {T:TT} {w:World} {S:ap} {β:List aZ}
def Row(w:World)(b:Nat)(c:Array Value):Prop:=∃e:TypeId,w.heap[b]? = some (.cells c e (0,0))
theorem Row.cell{b:Nat}{c:Array Value}(h:Row w b c)(o:Nat):w.cell? ⟨b,o,none⟩=c[o]?:=by
 obtain⟨e,h⟩:=h;exact cell_of_row w b o c e _ h
def kQ(w:World)(sz:Nat)(v:Value):Prop:=
 ∃a len cap,v= .slice a len cap/\len<=cap/\(a=none->cap=0)/\(len=cap\/∃b off c,a=some ⟨b,off,none⟩/\Row w b c/\off+cap*sz<=c.size)
inductive Appended (S:ap) (β:List aZ) (w:World) (sz:Nat) (as bs:List AV) (vx:Value):Value->World->Prop where
 |same (h:bs=[]):Appended S β w sz as bs vx vx w
 | place (b off cap:Nat) (c:Array Value) (cs:List Value) (hv:vx= .slice (some ⟨b,off,none⟩) as.length cap) (hr:Row w b c) (hlt:as.length+bs.length<=cap) (hc:off+cap*sz<=c.size) (hb:bs≠[]) (hf:cg S β bs cs sz):
   Appended S β w sz as bs vx (.slice (some ⟨b,off,none⟩) (as.length+bs.length) cap)
    (w.setRow b (c.toList.take (off+as.length*sz)++cs++c.toList.drop (off+as.length*sz+cs.length)).toArray)
 | fresh (c:Array Value) (e cap:Nat) (hlt:as.length+bs.length<=cap) (hc:c.size=cap*sz) (hr:eh S β (as++bs) c sz) (hb:bs≠[]):
   Appended S β w sz as bs vx (.slice (some ⟨w.heap.size,0,none⟩) (as.length+bs.length) cap) (w.drew.alloc (.cells c e))
theorem qY(hT:TOK P T)(hw:Wf S w){t u e ty:Nat}{ti ei:TI}{as bs:List AV}{vx vy:Value}(ht:T t=some ti)(hk:ti.kind= .slice e)(hei:T e=some ei)(hu:ep T u=true)(hx:VR S β (.sl as) vx)(hlen:(Builtin.lenOf vy).run P w= .ok bs.length w){cs:List Value}(hflat:cg S β bs cs ei.size)(hfirst:∀w':World,(∀a:Addr,w'.cell? a=w.cell? a)->(Builtin.firstCells ei.size bs.length vy).run P w'= .ok cs.toArray w')(hoa:b6 ei.size as=true)(hby:(as.length+bs.length)*ei.bytes<=140737488355328)(hb0:0<ei.bytes)(hroom:kQ w ei.size vx):
  ∃v w',(Builtin.append_ #[t,u] ty #[vx,vy]).run P w= .ok v w'/\Appended S β w ei.size as bs vx v w':=by
 obtain⟨_,d,_,_,hd,_,_,_,_,hkd,_⟩:=(hT.get ht).ex;have hd':d= .slice e:=by cases d<;>simp_all[kindOf]
 subst hd';obtain⟨ii,_,zz,hii,_,hzz,hzs,hsz,hbb,_⟩:=(hT.get hei).ex;have hz:∃du,P.underlying u=some du/\((∃e',du= .slice e')\/du= .string):=by
  unfold ep at hu;split at hu
  ·rename_i tu htu;obtain⟨_,du,_,_,hdu,_,_,_,_,hku,_⟩:=(hT.get htu).ex;refine⟨du,hdu,?_⟩;split at hu
   ·rename_i e' hk';exact .inl ⟨e',by cases du<;>simp_all[kindOf]⟩
   ·exact .inr (by cases du<;>simp_all[kindOf])
   ·simp at hu
  ·simp at hu
 obtain⟨du,hdu,hduk⟩:=hz;obtain⟨a,len,cap,rfl,hlc,hnone,hspare⟩:=hroom;have hx0:=hx;simp only[VR]at hx;obtain⟨a',cap',he,_,_,hsome⟩:=hx;simp only[Value.slice.injEq]at he;obtain⟨rfl,rfl,rfl⟩:=he;by_cases hfit:as.length+bs.length<=cap
 ·-- in place
  by_cases hnil:bs=[]
  ·subst hnil;refine⟨.slice a as.length cap,w,?_,.same rfl⟩;have hcs:cs=[]:=Gz (by have:=hflat.1;simpa using this);subst hcs;have hf:(Builtin.firstCells ei.size 0 vy).run P w= .ok #[] w:=by simpa using hfirst w (fun _=>rfl)
   rcases hduk with⟨e',rfl⟩|rfl<;>cases a <;>
    simp[Builtin.append_,run_underlying hd,run_underlying hdu,sizeOf,typeInfo,hii,hsz,hlen,hlc,hf,storeCells]
  ·have hpos:0<bs.length:=Hw.2 hnil;rcases hspare with hsp|⟨b,off,c,rfl,⟨ce,hrow⟩,hcap⟩
   ·omega
   ·refine⟨_,_,?_,.place b off cap c cs rfl ⟨ce,hrow⟩ hfit hcap hnil hflat⟩;have hf:=hfirst w (fun _=>rfl);have hl:=hflat.1;have hle:(as.length+bs.length)*ei.size<=cap*ei.size:=Gr _ hfit;rw[GK]at hle;have hst:=run_storeCells_at P b (off+as.length*ei.size) ce cs 0 c w hrow (by omega) hflat.2.2;simp only[G4]at hst;rcases hduk with⟨e',rfl⟩|rfl <;>
     simp[Builtin.append_,run_underlying hd,run_underlying hdu,sizeOf,typeInfo,hii,hsz,hlen,hfit,hf,addr_add,hst]
 ·-- a new row
  have hne:bs≠[]:=by rintro rfl;simp at hfit;omega
  have hgt:cap<as.length+bs.length:=by omega
  have h63:¬(9223372036854775807<((as.length:Int)+(bs.length:Int))):=by
   have:=G5 (IM (as.length+bs.length) hb0) hby
   omega
  have hfit48:=growslice_fits hgt hby;have h48:¬(281474976710656<Builtin.nextslicecap (as.length+bs.length) cap*ei.bytes):=by omega
  have hb0':ei.bytes≠0:=by omega
  -- the old cells
  have hold:∃os:List Value,cg S β as os ei.size/\(Builtin.firstCells ei.size as.length (.slice a as.length cap)).run P w.drew= .ok os.toArray w.drew:=by
   obtain⟨_,os,h1,h2⟩:=src_ok (P:=P) (es:=as) (sz:=ei.size) hw (a:=.sl as) rfl hx0 hoa (fun s h=>by cases h);exact⟨os,h1,h2 w.drew (fun b o x hx=>by simpa using hw b o x hx)⟩
  obtain⟨os,hos,hof⟩:=hold;have hf:=hfirst w.drew (fun a=>by simp);have hall:=hos.append hflat;have hcapn:as.length+bs.length<=grownCap w (as.length+bs.length) cap e:=by
   exact Nat.le_add_right _ _
  have hzcs:(Builtin.zeroCells zz.cells (grownCap w (as.length+bs.length) cap e-(as.length+bs.length))).size=(grownCap w (as.length+bs.length) cap e-(as.length+bs.length))*ei.size:=by
   rw[size_zeroCells,hzs,hsz]
  refine⟨_,_,?_,.fresh ((os++cs).toArray++Builtin.zeroCells zz.cells (grownCap w (as.length+bs.length) cap e-(as.length+bs.length))) e (grownCap w (as.length+bs.length) cap e) hcapn ?_ ?_ hne⟩
  ·rcases hduk with⟨e',rfl⟩|rfl <;>
    (simp[Builtin.append_,run_underlying hd,run_underlying hdu,sizeOf,typeInfo,zeroValue,hii,hsz,hzz,hlen,hfit,hbb,h48,hb0',Question.forced,hf,hof,newRow,grownCap]
     congr 2;apply Hr;simp)
  ·rw[Array.size_append,hzcs]
   have:=hall.1
   simp only[Hm,this,Gf];rw[<- GK];congr 1;omega
  ·exact hall.2.1.mono_row fun o x hx=>by
    rw[Array.getElem?_append];split
    ·exact hx
    ·rename_i hlt;rw[GL (by omega)]at hx;simp at hx
end
end Go.Av
namespace Go.Av
inductive Owner where
 |no
 |heap (l:Nat)
 |loc (B:Nat)
 |grp (g:Nat)
class Dr where
 on:Prop
variable [Dr]
structure Gro (w w':World):Prop where
 size:w.heap.size<=w'.heap.size
 os:w'.os=w.os
 out:w'.output=w.output
 tape:w'.tape=w.tape
 cnt:Dr.on->w.drawn<=w'.drawn
theorem Gro.refl(w:World):Gro w w:=⟨Ga _,rfl,rfl,rfl,fun _=>Ga _⟩
theorem Gro.trans{a b c:World}(h:Gro a b)(g:Gro b c):Gro a c:=
 ⟨G5 h.size g.size,g.os.trans h.os,g.out.trans h.out,g.tape.trans h.tape,fun d=>G5 (h.cnt d) (g.cnt d)⟩
theorem Gro.drew(w:World):Gro w w.drew:=⟨Ga _,rfl,rfl,rfl,fun _=>by simp⟩
theorem Gro.alloc(w:World)(c:Array Value)(t:TypeId):Gro w (w.alloc (.cells c t)):=
 ⟨by simp,rfl,rfl,rfl,fun _=>by simp⟩
def Cq(S:ap):Prop:=∀g cs,sV g=some cs->∃vs,aP S [] cs vs/\cY S g 0 vs
omit [Dr]in
theorem Cq.mono{S S':ap}(h:Cq S)(hl:S.le S'):Cq S':=fun g cs hg=>by
 obtain⟨vs,h1,h2⟩:=h g cs hg;exact⟨vs,aP.mono hl (cq.refl []) _ _ h1,h2.mono hl⟩
structure Entry where
 w:World
 S:ap
 β:List aZ
 E:Nat->Prop
 gok:GOKw w/\(∀b,b<gN->¬E b)/\Cq S
def dw(S:ap)(β:List aZ)(lam:Nat->Option Nat):SV->Value->Prop
 |.val a,v=>VR S β a v
 |.loc B off,v=>∃b,lam B=some b/\v= .pointer (some ⟨b,off,none⟩)
def jR(S:ap)(w:World)(ω:Nat->Owner)(g:Nat)(z:Option Nat)(v:Value):Prop:=
 ∃a len cap,v= .slice a len cap/\len<=cap/\(a=none->cap=0)/\(len=cap\/∃sz b off x,z=some sz/\a=some ⟨b,off,none⟩/\Row w b x/\off+cap*sz<=x.size/\
  ω b= .grp g/\∀o,off+len*sz<=o->S b o=none)
omit [Dr]in
theorem ow{x:AV}{cs xs:List AV}{off:Nat}(h:x∈setCells cs off xs):x∈cs\/x∈xs:=by
 unfold setCells at h;simp only[Gx]at h;rcases h with(h|h)|h
 ·exact .inl (Hg h)
 ·exact .inr h
 ·exact .inl (Hh h)
def b7(t:Nat)(cs:List AV):Prop:=∃a,a∈cs/\qM a=some t
omit [Dr]in
theorem b7.mono{t:Nat}{cs ds:List AV}(h:b7 t cs)(g:∀a,a∈cs->a∈ds):b7 t ds:=by
 obtain⟨a,h1,h2⟩:=h;exact⟨a,g a h1,h2⟩
omit [Dr]in
theorem b7.append{t:Nat}{cs ds:List AV}(h:b7 t (cs++ds)):b7 t cs\/b7 t ds:=by
 obtain⟨a,h1,h2⟩:=h;rcases Gx.1 h1 with h1|h1
 ·exact .inl ⟨a,h1,h2⟩
 ·exact .inr ⟨a,h1,h2⟩
omit [Dr]in
theorem b7.cons{t:Nat}{c:AV}{ds:List AV}(h:b7 t (c:: ds)):qM c=some t\/b7 t ds:=by
 obtain⟨a,h1,h2⟩:=h;rcases Gt.1 h1 with rfl|h1
 ·exact .inl h2
 ·exact .inr ⟨a,h1,h2⟩
omit [Dr]in
theorem b7.setCells{t:Nat}{cs xs:List AV}{off:Nat}(h:b7 t (Av.setCells cs off xs)):b7 t cs\/b7 t xs:=by
 obtain⟨a,h1,h2⟩:=h;rcases ow h1 with h1|h1
 ·exact .inl ⟨a,h1,h2⟩
 ·exact .inr ⟨a,h1,h2⟩
omit [Dr]in
theorem fp{cs:List AV}(h:cs.all aE=true)(t:Nat):¬b7 t cs:=fun⟨a,h1,h2⟩=>by
 have:=Gk.1 h a h1
 cases a<;>simp[qM]at h2<;>simp[aE]at this
omit [Dr]in
theorem ql{sz:Nat}{e:AV}(h:bo sz e=true)(t:Nat):¬b7 t (ae e):=by
 unfold bo at h;rw[F8]at h;exact fp h.2 t
omit [Dr]in
theorem fq{sz:Nat}{es:List AV}(h:b6 sz es=true)(t:Nat):¬b7 t (es.flatMap ae):=fun⟨a,h1,h2⟩=>by
 rw[IG]at h1;obtain⟨e,he,hh⟩:=h1;exact ql (Gk.1 h e he) t ⟨a,hh,h2⟩
omit [Dr]in
theorem yV{cs:List AV}(h:cs.any lG=false)(t:Nat):¬b7 t cs:=fun⟨a,h1,h2⟩=>by
 rw[List.any_eq_false]at h;exact h a h1 (by simp[lG,h2])
def kO(S:ap)(β:List aZ)(es:List AV)(ents:List MapEntry):Prop:=
 es.length=ents.length/\∀(i:Nat)(e:AV)(x:MapEntry),es[i]? = some e->ents[i]? = some x->∃k v,e= .tup [k,v]/\VR S β k x.key/\VR S β v x.val
def Aa(ents:List MapEntry)(clock:Nat):Prop:=(∀x∈ents,x.born<clock)/\ents.Pairwise fun x y=>x.born≠y.born
def MapAt(S:ap)(β:List aZ)(w:World)(b:Nat)(es:List AV):Prop:=
 ∃ents clock,w.heap[b]? = some (.map ents clock)/\kO S β es ents.toList/\Aa ents.toList clock
def yE(ents:List MapEntry)(seen:Array Nat):List Nat:=
 (List.range ents.length).filter fun i=>match ents[i]? with
  |some x=>!seen.contains x.born
  |none=>false
def z7(β:List aZ)(w:World)(h:Hp)(b:Nat)(cs:List AV):Prop:=
 (∃l n ps b' since seen last cur,cs=[.tup [],.mp l,.int .i64 (n:Nat),DY ps,cur]/\β[l]? = some (b',0)/\since<=last/\w.heap[b]? = some (.mapIter (some b') since seen last)/\
  (cur= .any\/∃c:Nat,cur= .int .i64 (c:Nat))/\
  ∀es,h[l]? = some [.tup es]->n<=es.length/\(es.length=n->∃ents clock,w.heap[b']? = some (.map ents clock)/\(∀x∈ents.toList,x.born<since)/\ps=yE ents.toList seen/\last=clock/\
   ∀c:Nat,cur= .int .i64 (c:Nat)->∃x,ents.toList[c]? = some x/\seen.back? = some x.born))\/
 (cs=[.tup [],.nilm]/\∃since seen last,w.heap[b]? = some (.mapIter none since seen last))
def tH(S:ap)(β:List aZ)(w:World)(h:Hp)(b:Nat)(cs:List AV):Prop:=(∃es,cs=[.tup es]/\MapAt S β w b es)\/z7 β w h b cs
def Ab(w:World)(b:Nat)(cs:List AV):Prop:=∀t,b7 t cs->∃y,w.heap[b]? = some (.cells y t (0,0))
def dZ(S:ap)(β:List aZ)(w:World)(ω:Nat->Owner)(h:Hp):Prop:=
 ∀l cs,h[l]? = some cs->cs≠[]->(∃b x,β[l]? = some (b,x.size)/\Row w b x/\ω b= .heap l/\aP S β cs (x.toList.take cs.length)/\(∀o,S b o=none)/\Ab w b cs)\/
  (∃b,β[l]? = some (b,0)/\ω b= .heap l/\(∀o,S b o=none)/\tH S β w h b cs)
omit [Dr]in
theorem kO.mono{S S':ap}{β β':List aZ}(hS:S.le S')(hβ:cq β β'){es:List AV}{ents:List MapEntry}(h:kO S β es ents):kO S' β' es ents:=
 ⟨h.1,fun i e x he hx=>by
  obtain⟨k,v,h1,h2,h3⟩:=h.2 i e x he hx;exact⟨k,v,h1,VR.mono hS hβ _ _ h2,VR.mono hS hβ _ _ h3⟩⟩
omit [Dr]in
theorem tH.lt{S:ap}{β:List aZ}{w:World}{h:Hp}{b:Nat}{cs:List AV}(H:tH S β w h b cs):b<w.heap.size:=by
 rcases H with⟨es,_,ents,clock,h1,_⟩|⟨_,_,_,_,_,_,_,_,_,_,_,h1,_⟩|⟨_,_,_,_,h1⟩<;>exact (GF.1 h1).1
omit [Dr]in
theorem tH.keep{S S':ap}{β β':List aZ}{w w':World}{h h':Hp}{b:Nat}{cs:List AV}(H:tH S β w h b cs)(hS:S.le S')(hβ:cq β β')(hb:w'.heap[b]? = w.heap[b]?)(hm:∀(l b':Nat)(es:List AV),β[l]? = some (b',0)->h'[l]? = some [.tup es]->h[l]? = some [.tup es]/\w'.heap[b']? = w.heap[b']?):tH S' β' w' h' b cs:=by
 rcases H with⟨es,h1,ents,clock,h2,h3,h4⟩|⟨l,n,ps,b',since,seen,last,cur,h1,h2,h3,h4,hcu,h5⟩|⟨h1,since,seen,last,h2⟩
 ·exact .inl ⟨es,h1,ents,clock,hb.trans h2,h3.mono hS hβ,h4⟩
 ·refine .inr (.inl ⟨l,n,ps,b',since,seen,last,cur,h1,hβ _ _ h2,h3,hb.trans h4,hcu,fun es he=>?_⟩);obtain⟨g1,g2⟩:=hm l b' es h2 he;obtain⟨k1,k2⟩:=h5 es g1;refine⟨k1,fun hn=>?_⟩;obtain⟨ents,clock,j1,j2,j3⟩:=k2 hn;exact⟨ents,clock,g2.trans j1,j2,j3⟩
 ·exact .inr (.inr ⟨h1,since,seen,last,hb.trans h2⟩)
omit [Dr]in
theorem dZ.rowsA{S S':ap}{β β':List aZ}{w w':World}{ω ω':Nat->Owner}{h h':Hp}(H:dZ S β w ω h)(hS:S.le S')(hβ:cq β β')(_hβl:β.length=h.length)
  (step:∀l cs,h'[l]? = some cs->cs≠[]->(h[l]? = some cs/\∀b,b<w.heap.size->(∃n,β[l]? = some (b,n))->ω b= .heap l->ω' b= .heap l/\w'.heap[b]? = w.heap[b]? /\∀o,S b o=none->S' b o=none)\/
   (∃b x,β'[l]? = some (b,x.size)/\Row w' b x/\ω' b= .heap l/\aP S' β' cs (x.toList.take cs.length)/\(∀o,S' b o=none)/\Ab w' b cs)):dZ S' β' w' ω' h':=by
 have hm:∀(l b':Nat)(es:List AV),β[l]? = some (b',0)->h'[l]? = some [.tup es]->h[l]? = some [.tup es]/\w'.heap[b']? = w.heap[b']?:=fun l b' es hl he=>by
  rcases step l _ he (by simp)with⟨g1,g2⟩|⟨b,x,g1,g2,g3,g4,g5⟩
  ·refine⟨g1,?_⟩;rcases H l _ g1 (by simp)with⟨b,x,k1,k2,k3,k4,k5⟩|⟨b,k1,k2,k3,k4⟩
   ·rw[hl]at k1;simp only[F7,Ha]at k1
    have:=k4.length
    simp at this;omega
   ·have k0:=k1;rw[hl]at k1;simp only[F7,Ha]at k1;rw[k1.1];exact (g2 b k4.lt ⟨_,k0⟩ k2).2.1
  ·have:=hβ _ _ hl
   rw[g1]at this;simp only[F7,Ha]at this;have h2:=g4.length;simp at h2;omega
 intro l cs hl hne;rcases step l cs hl hne with⟨g1,g2⟩|g
 ·rcases H l cs g1 hne with⟨b,x,k1,k2,k3,k4,k5,k6⟩|⟨b,k1,k2,k3,k4⟩
  ·have hlt:b<w.heap.size:=by
    obtain⟨t,k2⟩:=k2;exact (GF.1 k2).1
   obtain⟨j1,j2,j3⟩:=g2 b hlt ⟨_,k1⟩ k3;exact .inl ⟨b,x,hβ _ _ k1,by obtain⟨t,k2⟩:=k2;exact⟨t,j2.trans k2⟩,j1,k4.mono hS hβ,fun o=>j3 o (k5 o),fun t ht=>by obtain⟨y,hy⟩:=k6 t ht;exact⟨y,j2.trans hy⟩⟩
  ·obtain⟨j1,j2,j3⟩:=g2 b k4.lt ⟨_,k1⟩ k2;exact .inr ⟨b,hβ _ _ k1,j1,fun o=>j3 o (k3 o),k4.keep hS hβ j2 hm⟩
 ·exact .inl g
omit [Dr]in
theorem dZ.rows{S S':ap}{β β':List aZ}{w w':World}{ω ω':Nat->Owner}{h h':Hp}(H:dZ S β w ω h)(hS:S.le S')(hβ:cq β β')(hβl:β.length=h.length)
  (step:∀l cs,h'[l]? = some cs->cs≠[]->(h[l]? = some cs/\∀b,b<w.heap.size->ω b= .heap l->ω' b= .heap l/\w'.heap[b]? = w.heap[b]? /\∀o,S b o=none->S' b o=none)\/
   (∃b x,β'[l]? = some (b,x.size)/\Row w' b x/\ω' b= .heap l/\aP S' β' cs (x.toList.take cs.length)/\(∀o,S' b o=none)/\Ab w' b cs)):dZ S' β' w' ω' h':=H.rowsA hS hβ hβl fun l cs hl hne=>(step l cs hl hne).imp (fun⟨g1,g2⟩=>⟨g1,fun b h1 _ h2=>g2 b h1 h2⟩) id
omit [Dr]in
theorem dZ.own{S:ap}{β:List aZ}{w:World}{ω:Nat->Owner}{h:Hp}(H:dZ S β w ω h){l:Nat}{cs:List AV}(hl:h[l]? = some cs)(hne:cs≠[]):
  ∃b n,β[l]? = some (b,n)/\b<w.heap.size/\ω b= .heap l/\∀o,S b o=none:=by
 rcases H l cs hl hne with⟨b,x,k1,⟨t,k2⟩,k3,_,k5,_⟩|⟨b,k1,k2,k3,k4⟩
 ·exact⟨b,_,k1,(GF.1 k2).1,k3,k5⟩
 ·exact⟨b,_,k1,k4.lt,k2,k3⟩
omit [Dr]in
theorem dZ.cells{S:ap}{β:List aZ}{w:World}{ω:Nat->Owner}{h:Hp}(H:dZ S β w ω h){l b n:Nat}{cs:List AV}(hl:h[l]? = some cs)(hne:cs≠[])(hb:β[l]? = some (b,n))(h0:n≠0):
  ∃x,β[l]? = some (b,x.size)/\Row w b x/\ω b= .heap l/\aP S β cs (x.toList.take cs.length)/\∀o,S b o=none:=by
 rcases H l cs hl hne with⟨b',x,k1,k2,k3,k4,k5,_⟩|⟨b',k1,k2⟩
 ·rw[hb]at k1;simp only[F7,Ha]at k1;obtain⟨rfl,rfl⟩:=k1;exact⟨x,hb,k2,k3,k4,k5⟩
 ·rw[hb]at k1;simp only[F7,Ha]at k1;exact absurd k1.2 h0
omit [Dr]in
theorem dZ.of_row{S:ap}{β:List aZ}{w:World}{ω:Nat->Owner}{h:Hp}(H:dZ S β w ω h){l b n:Nat}{cs:List AV}{x:Array Value}(hl:h[l]? = some cs)(hne:cs≠[])(hb:β[l]? = some (b,n))(hrow:Row w b x):
  β[l]? = some (b,x.size)/\ω b= .heap l/\aP S β cs (x.toList.take cs.length)/\∀o,S b o=none:=by
 rcases H l cs hl hne with⟨b',x',k1,⟨t',k2⟩,k3,k4,k5,_⟩|⟨b',k1,_,_,k2⟩
 ·rw[hb]at k1;simp only[F7,Ha]at k1;obtain⟨rfl,rfl⟩:=k1;obtain⟨t,hrow⟩:=hrow;rw[k2]at hrow;simp only[F7,Obj.cells.injEq]at hrow;obtain⟨rfl,_⟩:=hrow;exact⟨hb,k3,k4,k5⟩
 ·rw[hb]at k1;simp only[F7,Ha]at k1;obtain⟨rfl,_⟩:=k1;obtain⟨t,hrow⟩:=hrow;rcases k2 with⟨_,_,_,_,k,_⟩|⟨_,_,_,_,_,_,_,_,_,_,_,k,_⟩|⟨_,_,_,_,k⟩<;>(rw[hrow]at k;cases k)
omit [Dr]in
theorem dZ.tag{S:ap}{β:List aZ}{w:World}{ω:Nat->Owner}{h:Hp}(H:dZ S β w ω h){l b n t:Nat}{cs:List AV}(hl:h[l]? = some cs)(ht:b7 t cs)(hb:β[l]? = some (b,n)):∃y,w.heap[b]? = some (.cells y t (0,0)):=by
 rcases H l cs hl (by rintro rfl;obtain⟨_,h,_⟩:=ht;cases h)with⟨b',x,k1,_,_,_,_,k6⟩|⟨b',_,_,_,k4⟩
 ·rw[hb]at k1;simp only[F7,Ha]at k1;rw[k1.1];exact k6 t ht
 ·rcases k4 with⟨es,h1,_⟩|⟨l',n,ps,b',since,seen,last,cur,h1,_,_,_,rfl|⟨c,rfl⟩,_⟩|⟨h1,_⟩<;>(subst h1;simp[DY,b7,qM]at ht)
def dI(c:Entry)(ω:Nat->Owner)(b:Nat):Prop:=(c.E b/\∀g,ω b≠.grp g)\/c.w.heap.size<=b
omit [Dr]in
theorem dI.of_eq{c:Entry}{ω ω':Nat->Owner}{b:Nat}(h:dI c ω b)(he:ω' b=ω b):dI c ω' b:=
 h.imp (fun⟨h1,h2⟩=>⟨h1,fun g=>by rw[he];exact h2 g⟩) id
omit [Dr]in
theorem dI.of_not{c:Entry}{ω ω':Nat->Owner}{b:Nat}(h:dI c ω b)(he:∀g,ω' b≠.grp g):dI c ω' b:=h.imp (fun⟨h1,_⟩=>⟨h1,he⟩) id
omit [Dr]in
theorem dI.low{c:Entry}{ω:Nat->Owner}{b:Nat}(h:dI c ω b):c.E b\/c.w.heap.size<=b:=h.imp And.left id
omit [Dr]in
theorem dI.grp{c:Entry}{ω:Nat->Owner}{b g:Nat}(h:dI c ω b)(hg:ω b= .grp g):c.w.heap.size<=b:=by
 rcases h with⟨_,h⟩|h
 ·exact absurd hg (h g)
 ·exact h
structure FR (c:Entry) (N:Nat) (U:Nat->Prop) (e:Env) (h:Hp) (a:Act) (w:World) (S:ap) (β:List aZ) (γ:Nat->Value) (lam:Nat->Option Nat) (ω:Nat->Owner):Prop where
 wf:Wf S w
 gro:Gro c.w w
 keep:∀b,b<c.w.heap.size->¬c.E b->w.heap[b]? = c.w.heap[b]? /\∀o,S b o=c.S b o
 le:c.S.le S
 ext:cq c.β β
 hlen:β.length=h.length
 heap:dZ S β w ω h
 tsz:N<=a.tmps.size/\N<=1000
 slots:∀t,t<1000->dw S β lam (e.get t).v (a.tmps.getD t undef)
 grps:∀t g z,t<1000->(e.get t).g=some g->aA e.al g=some z->a.tmps.getD t undef=γ g
 lblk:∀B n,aI e.lb B=some n->B % 1000=0/\1000<=B/\n<1000/\∃b x,lam B=some b/\Row w b x/\ω b= .loc B/\(∀o,S b o=none)/\
  ∀i,i<n->∃v a',x[i]? = some v/\(e.get (B+i)).v= .val a'/\VR S β a' v/\∀g z,(e.get (B+i)).g=some g->aA e.al g=some z->v=γ g
 free:∀g z,aA e.al g=some z->jR S w ω g z (γ g)
 mine:∀b,ω b≠.no->dI c ω b/\b<w.heap.size
 used:(∀t g,(e.get t).g=some g->U g)/\(∀g z,aA e.al g=some z->U g)
theorem FR.size{c:Entry}{N:Nat}{U:Nat->Prop}{e:Env}{h:Hp}{a:Act}{w:World}{S:ap}{β:List aZ}{γ:Nat->Value}{lam:Nat->Option Nat}{ω:Nat->Owner}(H:FR c N U e h a w S β γ lam ω):c.w.heap.size<=w.heap.size:=H.gro.size
theorem FR.gokw{c:Entry}{N:Nat}{U:Nat->Prop}{e:Env}{h:Hp}{a:Act}{w:World}{S:ap}{β:List aZ}{γ:Nat->Value}{lam:Nat->Option Nat}{ω:Nat->Owner}(H:FR c N U e h a w S β γ lam ω):GOKw w:=
 c.gok.1.mono fun b hb=>(H.keep b (GD hb c.gok.1.lt) (c.gok.2.1 b hb)).1
omit [Dr]in
theorem Row.lt{w:World}{b:Nat}{x:Array Value}(h:Row w b x):b<w.heap.size:=by
 obtain⟨e,h⟩:=h;exact (GF.1 h).1
omit [Dr]in
theorem Row.of_eq{w w':World}{b:Nat}{x:Array Value}(h:Row w b x)(he:w'.heap[b]? = w.heap[b]?):Row w' b x:=by
 obtain⟨e,h⟩:=h;exact⟨e,by rw[he,h]⟩
omit [Dr]in
theorem Wf.lt{S:ap}{w:World}(h:Wf S w){b o:Nat}{v:Value}(hv:S b o=some v):b<w.heap.size:=block_lt_of_cell (h b o v hv)
omit [Dr]in
theorem Wf.none{S:ap}{w:World}(h:Wf S w){b:Nat}(hb:w.heap.size<=b)(o:Nat):S b o=none:=by
 cases hs:S b o with
 |none=>rfl
 |some v=>have:=h.lt hs;omega
omit [Dr]in
theorem cell_of_heap{w w':World}{b:Nat}(h:w'.heap[b]? = w.heap[b]?)(o:Nat):w'.cell? ⟨b,o,none⟩=w.cell? ⟨b,o,none⟩:=by
 simp[World.cell?,h]
section
variable {c:Entry} {N:Nat} {U:Nat->Prop} {e:Env} {h:Hp} {a:Act} {w:World} {S:ap} {β:List aZ} {γ:Nat->Value} {lam:Nat->Option Nat} {ω:Nat->Owner}
theorem FR.world(H:FR c N U e h a w S β γ lam ω){w':World}{S':ap}(hw:Wf S' w')(hg:Gro w w')(hk:∀b,b<w.heap.size->w'.heap[b]? = w.heap[b]? /\∀o,S' b o=S b o)(hle:S.le S'):FR c N U e h a w' S' β γ lam ω:=by
 have hrow:∀ {b x},Row w b x->Row w' b x:=fun hr=>hr.of_eq (hk _ hr.lt).1;have hs:=hg.size;refine⟨hw,H.gro.trans hg,fun b hb hE=>?_,ap.le_trans H.le hle,H.ext,H.hlen,?_,H.tsz,?_,H.grps,?_,?_,fun b hb=>⟨(H.mine b hb).1,GD (H.mine b hb).2 hs⟩,H.used⟩
 ·have h1:=hk b (GD hb H.size);have h2:=H.keep b hb hE;exact⟨h1.1.trans h2.1,fun o=>(h1.2 o).trans (h2.2 o)⟩
 ·exact H.heap.rows hle (cq.refl β) H.hlen fun l cs hl hne=>.inl ⟨hl,fun b hb ho=>⟨ho,(hk b hb).1,fun o h0=>by rw[(hk b hb).2];exact h0⟩⟩
 ·intro t ht
  have:=H.slots t ht
  cases hv:(e.get t).v with
  |val av=>rw[hv]at this;exact VR.mono hle (cq.refl β) _ _ this
  |loc B off=>rw[hv]at this;exact this
 ·intro B n hB;obtain⟨h1,h2,h3,b,x,h4,h5,h6,h7,h8⟩:=H.lblk B n hB;refine⟨h1,h2,h3,b,x,h4,hrow h5,h6,fun o=>by rw[(hk b h5.lt).2];exact h7 o,fun i hi=>?_⟩;obtain⟨v,a',g1,g2,g3,g4⟩:=h8 i hi;exact⟨v,a',g1,g2,VR.mono hle (cq.refl β) _ _ g3,g4⟩
 ·intro g z hg;obtain⟨a',len,cap,h1,h2,h3,h4⟩:=H.free g z hg;refine⟨a',len,cap,h1,h2,h3,h4.imp id ?_⟩;rintro⟨sz,b,off,x,g1,g2,g3,g4,g5,g6⟩;exact⟨sz,b,off,x,g1,g2,hrow g3,g4,g5,fun o ho=>by rw[(hk b g3.lt).2];exact g6 o ho⟩
theorem FR.drew(H:FR c N U e h a w S β γ lam ω):FR c N U e h a w.drew S β γ lam ω:=
 H.world (fun b o v hv=>by rw[World.cell?_drew];exact H.wf b o v hv) (Gro.drew w) (fun b _=>⟨rfl,fun _=>rfl⟩) (ap.le_refl S)
omit [Dr]in
theorem alloc_old(w:World)(o:Obj){b:Nat}(hb:b<w.heap.size):(w.alloc o).heap[b]? = w.heap[b]?:=heap_alloc_old w o hb
theorem FR.alloc(H:FR c N U e h a w S β γ lam ω)(x:Array Value)(t:TypeId):FR c N U e h a (w.alloc (.cells x t)) S β γ lam ω:=
 H.world (fun b o v hv=>by rw[cell_of_heap (alloc_old w _ (H.wf.lt hv))];exact H.wf b o v hv) (Gro.alloc w x t) (fun b hb=>⟨alloc_old w _ hb,fun _=>rfl⟩) (ap.le_refl S)
omit [Dr]in
theorem Row.new(w:World)(x:Array Value)(t:TypeId):Row (w.alloc (.cells x t)) w.heap.size x:=⟨t,heap_alloc_new w _⟩
def ap.withRowTo(S:ap)(b k:Nat)(x:Array Value):ap:=fun b' o=>if b'=b then(if o<k then x[o]? else none)else S b' o
theorem FR.allocS(H:FR c N U e h a w S β γ lam ω)(x:Array Value)(t:TypeId)(k:Nat):FR c N U e h a (w.alloc (.cells x t)) (S.withRowTo w.heap.size k x) β γ lam ω:=by
 have hn:∀o,S w.heap.size o=none:=fun o=>H.wf.none (Ga _) o;refine H.world (fun b o v hv=>?_) (Gro.alloc w x t) (fun b hb=>⟨alloc_old w _ hb,fun o=>?_⟩) (fun b o v hv=>?_)
 ·unfold ap.withRowTo at hv;split at hv
  ·rename_i hb;subst hb;rw[(Row.new w x t).cell];split at hv
   ·exact hv
   ·simp at hv
  ·rw[cell_of_heap (alloc_old w _ (H.wf.lt hv))];exact H.wf b o v hv
 ·unfold ap.withRowTo;rw[if_neg (by omega)]
 ·unfold ap.withRowTo;split
  ·rename_i hb;subst hb;rw[hn]at hv;simp at hv
  ·exact hv
omit [Dr]in
theorem bB(e:Env)(d:Option Tmp)(u:Upd)(t:Nat):(e.upd d u).get t=if d=some t then u.ent else bi (u.ls++e.sl) t:=by
 unfold Env.upd Env.get mu;cases d with
 |none=>simp
 | some s=>
  simp only[bi,F7];by_cases hs:s=t
  ·subst hs;simp
  ·have:Nat.beq s t=false:=by
    rw[Hd];intro hh;exact hs (Gh hh)
   simp[hs,this]
omit [Dr]in
theorem ef(a:Act)(d:Option Tmp)(v:Value){N:Nat}(hd:∀t,d=some t->t<N)(hN:N<=a.tmps.size)(t:Nat):
  (a.put d v).tmps.getD t undef=if d=some t then v else a.tmps.getD t undef:=by
 cases d with
 |none=>simp[Act.put]
 | some s=>
  have hlt:=hd s rfl;simp only[Act.put,F7,Gy,Hy];by_cases hs:s=t
  ·subst hs;simp[GD hlt hN]
  ·simp[hs]
omit [Dr]in
theorem dX(a:Act)(d:Option Tmp)(v:Value):(a.put d v).tmps.size=a.tmps.size:=by
 cases d<;>simp[Act.put]
omit [Dr]in
theorem bk(k:Nat)(x:Option Nat)(r:List (Nat×Option Nat))(g:Nat):aA ((k,x):: r) g=if k=g then some x else aA r g:=by
 simp only[aA];by_cases hk:k=g
 ·subst hk;simp
 ·have:Nat.beq k g=false:=by rw[Hd];intro hh;exact hk (Gh hh)
  simp[hk,this]
omit [Dr]in
theorem ge(r:List (Nat×Option Nat))(k g:Nat):aA (mW r k) g=if k=g then none else aA r g:=by
 induction r with
 |nil=>simp[mW,aA]
 | cons x r ih=>
  obtain⟨j,y⟩:=x;simp only[mW];by_cases hj:j=k
  ·subst hj;simp only[Il,F9,ih,bk];split<;>rfl
  ·have:Nat.beq j k=false:=by rw[Hd];intro hh;exact hj (Gh hh)
   simp only[this,Gd,bk,ih];by_cases hg:j=g
   ·subst hg;rw[Gg rfl,if_neg (fun h=>hj h.symm),Gg rfl]
   ·rw[if_neg hg,if_neg hg]
theorem FR.set(H:FR c N U e h a w S β γ lam ω){d:Option Tmp}{x:Ent}{v:Value}(hd:∀t,d=some t->t<N)(hs:dw S β lam x.v v)(hg:∀g z,x.g=some g->aA e.al g=some z->v=γ g)(hu:∀g,x.g=some g->U g):
  FR c N U (e.upd d { ent:=x }) h (a.put d v) w S β γ lam ω:=by
 have hget:∀t,(e.upd d { ent:=x }).get t=if d=some t then x else e.get t:=fun t=>by rw[bB];rfl
 have hal:(e.upd d { ent:=x }).al=e.al:=rfl;have hlb:(e.upd d { ent:=x }).lb=e.lb:=rfl;have hdl:∀B i:Nat,1000<=B->d≠some (B+i):=fun B i hB hh=>by have h1:B+i<N:=hd _ hh;have h2:=H.tsz.2;omega
 refine⟨H.wf,H.gro,H.keep,H.le,H.ext,H.hlen,H.heap,by rw[dX];exact H.tsz,fun t ht=>?_,fun t g z ht hgg hz=>?_,fun B n hB=>?_,H.free,H.mine,⟨fun t g hgg=>?_,H.used.2⟩⟩
 ·rw[hget,ef a d v hd H.tsz.1];split
  ·exact hs
  ·exact H.slots t ht
 ·rw[hget]at hgg;rw[ef a d v hd H.tsz.1];split at hgg
  ·rename_i hdt;rw[Gg hdt];exact hg g z hgg hz
  ·rename_i hdt;rw[if_neg hdt];exact H.grps t g z ht hgg hz
 ·rw[hlb]at hB;obtain⟨h1,h2,h3,b,y,h4,h5,h6,h7,h8⟩:=H.lblk B n hB;refine⟨h1,h2,h3,b,y,h4,h5,h6,h7,fun i hi=>?_⟩;rw[hget,if_neg (hdl B i h2)];exact h8 i hi
 ·rw[hget]at hgg;split at hgg
  ·exact hu g hgg
  ·exact H.used.1 t g hgg
theorem FR.setV(H:FR c N U e h a w S β γ lam ω){d:Option Tmp}{r:AV}{v:Value}(hd:∀t,d=some t->t<N)(hv:VR S β r v):
  FR c N U (e.upd d (.ofV r)) h (a.put d v) w S β γ lam ω:=
 H.set (x:=⟨.val r,none⟩) hd hv (fun _ _ h=>by cases h) (fun _ h=>by cases h)
def cJ(ω:Nat->Owner)(b:Nat)(y:Owner):Nat->Owner:=fun b'=>if b'=b then y else ω b'
theorem FR.own(H:FR c N U e h a w S β γ lam ω){d:Option Tmp}{r:AV}{v:Value}{gid:Nat}{z:Option Nat}(hd:∀t,d=some t->t<N)(hv:VR S β r v)(hU:∀g,gid<=g->g<gid+1000->¬U g)
  (hf:(∃a len,v= .slice a len len/\(a=none->len=0))\/∃len cap sz b off x,v= .slice (some ⟨b,off,none⟩) len cap/\len<=cap/\z=some sz/\Row w b x/\off+cap*sz<=x.size/\ω b= .no/\c.w.heap.size<=b/\
   (∀o,off+len*sz<=o->S b o=none)):
  ∃ω',FR c N (fun g=>U g\/(gid<=g/\g<gid+1000)) (e.upd d (.own r gid z)) h (a.put d v) w S β (fun g=>if g=gid then v else γ g) lam ω':=by
 have hget:∀t,(e.upd d (.own r gid z)).get t=if d=some t then⟨.val r,some gid⟩else e.get t:=fun t=>by rw[bB];rfl
 have hal:(e.upd d (.own r gid z)).al=(gid,z):: e.al:=rfl;have hlb:(e.upd d (.own r gid z)).lb=e.lb:=rfl;have hdl:∀B i:Nat,1000<=B->d≠some (B+i):=fun B i hB hh=>by have h1:B+i<N:=hd _ hh;have h2:=H.tsz.2;omega
 have hne:∀t g,(e.get t).g=some g->g≠gid:=fun t g hg hh=>hU g (by omega) (by omega) (H.used.1 t g hg);have hna:∀g y,aA e.al g=some y->g≠gid:=fun g y hg hh=>hU g (by omega) (by omega) (H.used.2 g y hg);have halv:∀g,g≠gid->aA ((gid,z):: e.al) g=aA e.al g:=fun g hg=>by rw[bk,if_neg (fun h=>hg h.symm)]
 have key:∀ω':Nat->Owner,(∀b,ω b≠.no->ω' b=ω b)->(∀b,ω' b≠.no->dI c ω' b/\b<w.heap.size)->jR S w ω' gid z v->
   FR c N (fun g=>U g\/(gid<=g/\g<gid+1000)) (e.upd d (.own r gid z)) h (a.put d v) w S β (fun g=>if g=gid then v else γ g) lam ω':=by
  intro ω' hω hmine hfree;refine⟨H.wf,H.gro,H.keep,H.le,H.ext,H.hlen,?_,by rw[dX];exact H.tsz,fun t ht=>?_,fun t g y ht hgg hz=>?_,fun B n hB=>?_,fun g y hg=>?_,hmine,⟨fun t g hgg=>?_,fun g y hg=>?_⟩⟩
  ·exact H.heap.rows (ap.le_refl S) (cq.refl β) H.hlen fun l cs hl _=>.inl ⟨hl,fun b _ ho=>⟨by rw[hω b (by rw[ho];simp)];exact ho,rfl,fun o h=>h⟩⟩
  ·rw[hget,ef a d v hd H.tsz.1];split
   ·exact hv
   ·exact H.slots t ht
  ·rw[hget]at hgg;rw[hal]at hz;rw[ef a d v hd H.tsz.1];split at hgg
   ·rename_i hdt;rw[Gg hdt];simp only[F7]at hgg;simp[<- hgg]
   ·rename_i hdt;have hg:=hne t g hgg;rw[if_neg hdt,if_neg hg];rw[halv g hg]at hz;exact H.grps t g y ht hgg hz
  ·rw[hlb]at hB;obtain⟨h1,h2,h3,b,x,h4,h5,h6,h7,h8⟩:=H.lblk B n hB;refine⟨h1,h2,h3,b,x,h4,h5,by rw[hω b (by rw[h6];simp)];exact h6,h7,fun i hi=>?_⟩;rw[hget,if_neg (hdl B i h2)];obtain⟨u,a',g1,g2,g3,g4⟩:=h8 i hi;refine⟨u,a',g1,g2,g3,fun g y hg hy=>?_⟩;have hgn:=hne _ g hg;rw[if_neg hgn];rw[hal,halv g hgn]at hy;exact g4 g y hg hy
  ·rw[hal,bk]at hg;split at hg
   ·rename_i hgg;subst hgg;simp only[F7]at hg;subst hg;simpa using hfree
   ·rename_i hgg;have hgn:g≠gid:=fun h=>hgg h.symm;simp only[if_neg hgn];obtain⟨a',len,cap,h1,h2,h3,h4⟩:=H.free g y hg;refine⟨a',len,cap,h1,h2,h3,h4.imp id ?_⟩;rintro⟨sz,b,off,x,g1,g2,g3,g4,g5,g6⟩;exact⟨sz,b,off,x,g1,g2,g3,g4,by rw[hω b (by rw[g5];simp)];exact g5,g6⟩
  ·rw[hget]at hgg;split at hgg
   ·simp only[F7]at hgg;exact .inr (by omega)
   ·exact .inl (H.used.1 t g hgg)
  ·rw[hal,bk]at hg;split at hg
   ·rename_i hgg;exact .inr (by omega)
   ·exact .inl (H.used.2 g y hg)
 rcases hf with⟨ad,len,rfl,hn⟩|⟨len,cap,sz,b,off,x,rfl,h1,h2,h3,h4,h5,h6,h7⟩
 ·exact⟨ω,key ω (fun _ _=>rfl) H.mine ⟨ad,len,len,rfl,Ga _,hn,.inl rfl⟩⟩
 ·refine⟨cJ ω b (.grp gid),key _ (fun b' hb'=>?_) (fun b' hb'=>?_) ⟨some ⟨b,off,none⟩,len,cap,rfl,h1,(fun h=>by cases h),.inr ⟨sz,b,off,x,h2,rfl,h3,h4,by simp[cJ],h7⟩⟩⟩
  ·unfold cJ;rw[if_neg];rintro rfl;exact hb' h5
  ·unfold cJ at hb';split at hb'
   ·rename_i hbb;subst hbb;exact⟨.inr h6,h3.lt⟩
   ·rename_i hbb;exact⟨(H.mine b' hb').1.of_eq (by unfold cJ;rw[if_neg hbb]),(H.mine b' hb').2⟩
end
end Go.Av
namespace Go.Av
variable [Dr]
omit [Dr]in
theorem bw(k:Nat)(x:Ent)(r:List (Nat×Ent))(t:Nat):bi ((k,x):: r) t=if k=t then x else bi r t:=by
 simp only[bi];by_cases hk:k=t
 ·subst hk;simp
 ·have:Nat.beq k t=false:=by rw[Hd];intro hh;exact hk (Gh hh)
  simp[hk,this]
omit [Dr]in
theorem qg(f:Nat->Ent)(B:Nat)(r:List (Nat×Ent))(t:Nat):∀n k,bi (((List.range' k n).map fun i=>(B+i,f i))++r) t=
  if B+k<=t/\t<B+k+n then f (t-B)else bi r t:=by
 intro n
 induction n with
 |zero=>intro k;simp;omega
 | succ n ih=>
  intro k;simp only[List.range'_succ,GY,GJ,bw,ih];by_cases h:B+k=t
  ·subst h;rw[Gg rfl,Gg (by omega)];congr 1;omega
  ·rw[if_neg h];by_cases h2:B+(k+1)<=t/\t<B+(k+1)+n
   ·rw[Gg h2,Gg (by omega)]
   ·rw[if_neg h2,if_neg (by omega)]
def eU(cs:List AV)(offs:List Nat)(gid i:Nat):Ent:=bif dp offs i then⟨.val (.sl []),some (gid+i)⟩else⟨.val (ah cs i),none⟩
omit [Dr]in
theorem lO(B:Nat)(cs:List AV)(offs:List Nat)(gid n:Nat)(r:List (Nat×Ent))(t:Nat):
  bi (fM B cs offs gid n++r) t=if B<=t/\t<B+n then eU cs offs gid (t-B)else bi r t:=by
 have:=qg (eU cs offs gid) B r t n 0
 rw[<- List.range_eq_range']at this;show bi ((List.range n).map (fun i=>(B+i,eU cs offs gid i))++r) t=_;simpa using this
omit [Dr]in
theorem mz(A r:List (Nat×Option Nat))(g:Nat):aA (A++r) g=match aA A g with|some z=>some z|none=>aA r g:=by
 induction A with
 |nil=>simp[aA]
 |cons x A ih=>
  obtain⟨k,y⟩:=x;simp only[GJ,bk];by_cases hk:k=g
  ·simp[hk]
  ·simp[hk,ih]
omit [Dr]in
theorem cm(k n:Nat)(r:List (Nat×Nat))(B:Nat):aI ((k,n):: r) B=if k=B then some n else aI r B:=by
 simp only[aI];by_cases hk:k=B
 ·subst hk;simp
 ·have:Nat.beq k B=false:=by rw[Hd];intro hh;exact hk (Gh hh)
  simp[hk,this]
omit [Dr]in
theorem qe(r:List (Nat×Nat))(k B:Nat):aI (ig r k) B=if k=B then none else aI r B:=by
 induction r with
 |nil=>simp[ig,aI]
 | cons x r ih=>
  obtain⟨j,y⟩:=x;simp only[ig];by_cases hj:j=k
  ·subst hj;simp only[Il,F9,ih,cm];split<;>rfl
  ·have:Nat.beq j k=false:=by rw[Hd];intro hh;exact hj (Gh hh)
   simp only[this,Gd,cm,ih];by_cases hg:j=B
   ·subst hg;rw[Gg rfl,if_neg (fun h=>hj h.symm),Gg rfl]
   ·rw[if_neg hg,if_neg hg]
omit [Dr]in
theorem eb(l:List Nat)(t:Nat):dp l t=true↔t∈l:=by
 induction l with
 |nil=>simp[dp]
 | cons k l ih=>
  simp only[dp,Gt];by_cases hk:k=t
  ·subst hk;simp
  ·have:Nat.beq k t=false:=by rw[Hd];intro hh;exact hk (Gh hh)
   simp[this,ih,Ne.symm hk]
def dv(A:List (Nat×Option Nat))(gid:Nat):Prop:=∀g z,aA A g=some z->z=none/\gid<=g/\g<gid+1000
omit [Dr]in
theorem gC{offs:List Nat}{gid n:Nat}(h:∀i∈offs,i<n)(hn:n<1000):dv (kC offs gid) gid:=by
 intro g z hg;unfold kC at hg
 induction offs with
 |nil=>simp[aA]at hg
 | cons i offs ih=>
  simp only[GY,bk]at hg;split at hg
  ·rename_i hi;simp only[F7]at hg
   have:=h i (by simp)
   exact⟨hg.symm,by omega,by omega⟩
  ·exact ih (fun j hj=>h j (by simp[hj])) hg
omit [Dr]in
theorem dW(gid:Nat):dv [] gid:=fun g z h=>by simp[aA]at h
omit [Dr]in
theorem mG(gid:Nat):dv [(gid,none)] gid:=fun g z h=>by
 rw[bk]at h;split at h
 ·simp only[F7]at h;exact⟨h.symm,by omega,by omega⟩
 ·simp[aA]at h
section
variable {c:Entry} {N:Nat} {U:Nat->Prop} {e:Env} {h:Hp} {a:Act} {w:World} {S:ap} {β:List aZ} {γ:Nat->Value} {lam:Nat->Option Nat} {ω:Nat->Owner}
def γN(γ:Nat->Value)(gid:Nat):Nat->Value:=fun g=>if gid<=g/\g<gid+1000 then .slice none 0 0 else γ g
theorem dx(H:FR c N U e h a w S β γ lam ω){A:List (Nat×Option Nat)}{gid:Nat}(hU:∀g,gid<=g->g<gid+1000->¬U g)(hA:dv A gid){g:Nat}{z:Option Nat}(hg:aA (A++e.al) g=some z):(z=none/\gid<=g/\g<gid+1000)\/(aA e.al g=some z/\¬(gid<=g/\g<gid+1000)):=by
 rw[mz]at hg;cases hh:aA A g with
 |some y=>rw[hh]at hg;simp only[F7]at hg;subst hg;exact .inl (hA g _ hh)
 |none=>
  rw[hh]at hg;exact .inr ⟨hg,fun hr=>hU g hr.1 hr.2 (H.used.2 g z hg)⟩
theorem pN(H:FR c N U e h a w S β γ lam ω){A:List (Nat×Option Nat)}{gid:Nat}(hU:∀g,gid<=g->g<gid+1000->¬U g)(hA:dv A gid){ω':Nat->Owner}{w':World}(hω:∀b,ω b≠.no->ω' b=ω b)(hrow:∀b x g,ω b= .grp g->Row w b x->Row w' b x){g:Nat}{z:Option Nat}(hg:aA (A++e.al) g=some z):jR S w' ω' g z (γN γ gid g):=by
 rcases dx H hU hA hg with⟨rfl,h1⟩|⟨h1,h2⟩
 ·unfold γN;rw[Gg h1];exact⟨none,0,0,rfl,Ga _,fun _=>rfl,.inl rfl⟩
 ·unfold γN;rw[if_neg h2];obtain⟨a',len,cap,g1,g2,g3,g4⟩:=H.free g z h1;refine⟨a',len,cap,g1,g2,g3,g4.imp id ?_⟩;rintro⟨sz,b,off,x,k1,k2,k3,k4,k5,k6⟩;exact⟨sz,b,off,x,k1,k2,hrow b x g k5 k3,k4,by rw[hω b (by rw[k5];simp)];exact k5,k6⟩
theorem FR.allocL(H:FR c N U e h a w S β γ lam ω){s n gid:Nat}{x:Array Value}{t:TypeId}{cs:List AV}{offs:List Nat}(hs:s<N)(hU:∀g,gid<=g->g<gid+1000->¬U g)(hn:n<1000)(hcs:∀i,i<n->∃v,x[i]? = some v/\VR S β (ah cs i) v)(hnil:∀i∈offs,i<n/\x[i]? = some (.slice none 0 0))(hfree:aM e.sl (aS s)=true):
  ∃lam' ω',FR c N (fun g=>U g\/(gid<=g/\g<gid+1000)) (e.upd (some s) { ent:=⟨.loc (aS s) 0,none⟩,ls:=fM (aS s) cs offs gid n,add:=kC offs gid,lb:=some (aS s,n) }) h
   (a.put (some s) (.pointer (some ⟨w.heap.size,0,none⟩))) (w.alloc (.cells x t)) S β (γN γ gid) lam' ω':=by
 have H2:=H.alloc x t;have hA:dv (kC offs gid) gid:=gC (fun i hi=>(hnil i hi).1) hn;have hwn:∀o,S w.heap.size o=none:=fun o=>H.wf.none (Ga _) o;have hωn:ω w.heap.size= .no:=by
  cases ho:ω w.heap.size with
  |no=>rfl
  |_=>have:=(H.mine w.heap.size (by rw[ho];simp)).2;omega
 have hω:∀b,ω b≠.no->cJ ω w.heap.size (.loc (aS s)) b=ω b:=fun b hb=>by
  unfold cJ;rw[if_neg];rintro rfl;exact hb hωn
 have hget:∀t',(e.upd (some s) { ent:=⟨.loc (aS s) 0,none⟩,ls:=fM (aS s) cs offs gid n,add:=kC offs gid,lb:=some (aS s,n) }).get t'=
   if s=t' then⟨.loc (aS s) 0,none⟩else if aS s<=t'/\t'<aS s+n then eU cs offs gid (t'-aS s)else e.get t':=by
  intro t';rw[bB,lO];simp only[F7];rfl
 have hB:aS s=1000*(s+1):=rfl;have hN:=H.tsz.2;have hnoloc:∀t' off,(e.get t').v≠.loc (aS s) off:=by
  intro t' off hv;unfold Env.get at hv;unfold aM at hfree;rw[Gk]at hfree;revert hv hfree;generalize e.sl=l;intro hfree
  induction l with
  |nil=>intro hv;simp[bi,Ent.none]at hv
  | cons y l ih=>
   obtain⟨k,y⟩:=y;intro hv;rw[bw]at hv;split at hv
   ·have:=hfree (k,y) (by simp)
    simp[hv]at this
   ·exact ih (fun z hz=>hfree z (by simp[hz])) hv
 have hmemoff:∀i,dp offs i=true->i<n/\x[i]? = some (.slice none 0 0):=fun i hi=>hnil i ((eb _ _).1 hi);refine⟨fun B'=>if B'=aS s then some w.heap.size else lam B',cJ ω w.heap.size (.loc (aS s)),H2.wf,H2.gro,H2.keep,H2.le,H2.ext,H2.hlen,?_,by rw[dX];exact H.tsz,?_,?_,?_,?_,?_,?_,?_⟩
 ·exact H2.heap.rows (ap.le_refl S) (cq.refl β) H2.hlen fun l cs' hl _=>.inl ⟨hl,fun b _ ho=>⟨by rw[hω b (by rw[ho];simp)];exact ho,rfl,fun o h=>h⟩⟩
 ·intro t' ht';rw[hget,ef a (some s) _ (fun t h=>by cases h;exact hs) H.tsz.1];simp only[F7];by_cases hst:s=t'
  ·subst hst;simp only[GP,dw];exact⟨_,rfl,rfl⟩
  ·rw[if_neg hst,if_neg hst,if_neg (by omega)]
   have:=H2.slots t' ht'
   cases hv:(e.get t').v with
   |val av=>rw[hv]at this;exact this
   |loc B' off=>
    rw[hv]at this;simp only[dw]at this |-;rw[if_neg]
    ·exact this
    ·rintro rfl;exact hnoloc t' off hv
 ·intro t' g z ht' hg hz;rw[hget]at hg;rw[ef a (some s) _ (fun t h=>by cases h;exact hs) H.tsz.1];simp only[F7];by_cases hst:s=t'
  ·rw[Gg hst]at hg;simp at hg
  ·rw[if_neg hst,if_neg (by omega)]at hg;rw[if_neg hst];have hr:¬(gid<=g/\g<gid+1000):=fun hr=>hU g hr.1 hr.2 (H.used.1 t' g hg);rcases dx H hU hA hz with⟨_,h1⟩|⟨h1,_⟩
   ·exact absurd h1 hr
   ·unfold γN;rw[if_neg hr];exact H.grps t' g z ht' hg h1
 ·intro B' n' hB';have hlb:(e.upd (some s) { ent:=⟨.loc (aS s) 0,none⟩,ls:=fM (aS s) cs offs gid n,add:=kC offs gid,lb:=some (aS s,n) }).lb=(aS s,n):: e.lb:=rfl;rw[hlb,cm]at hB';by_cases hBB:aS s=B'
  ·subst hBB;rw[Gg rfl]at hB';simp only[F7]at hB';subst hB';refine⟨by omega,by omega,hn,w.heap.size,x,by simp,Row.new w x t,by simp[cJ],hwn,fun i hi=>?_⟩;rw[hget,if_neg (by omega),Gg (by omega),show aS s+i-aS s=i by omega];obtain⟨v,hv,hvr⟩:=hcs i hi;unfold eU;cases hm:dp offs i with
   | true=>
    obtain⟨_,hx⟩:=hmemoff i hm;refine⟨_,.sl [],hx,rfl,?_,fun g z hg _=>?_⟩
    ·simp only[VR];exact⟨none,0,rfl,Ga _,fun _=>rfl,fun q hq=>by cases hq⟩
    ·simp only[F9,F7]at hg;unfold γN;rw[Gg (by omega)]
   |false=>
    exact⟨v,ah cs i,hv,rfl,hvr,fun g z hg _=>by simp at hg⟩
  ·rw[if_neg hBB]at hB';obtain⟨h1,h2,h3,b,y,h4,h5,h6,h7,h8⟩:=H2.lblk B' n' hB';refine⟨h1,h2,h3,b,y,by rw[if_neg (fun h=>hBB h.symm)];exact h4,h5,by rw[hω b (by rw[h6];simp)];exact h6,h7,fun i hi=>?_⟩;rw[hget,if_neg (by omega),if_neg (by omega)];obtain⟨v,a',g1,g2,g3,g4⟩:=h8 i hi;refine⟨v,a',g1,g2,g3,fun g z hg hz=>?_⟩;have hr:¬(gid<=g/\g<gid+1000):=fun hr=>hU g hr.1 hr.2 (H.used.1 _ g hg);rcases dx H hU hA hz with⟨_,k1⟩|⟨k1,_⟩
   ·exact absurd k1 hr
   ·unfold γN;rw[if_neg hr];exact g4 g z hg k1
 ·intro g z hg;exact pN H hU hA hω (fun b y g' _ hr=>hr.of_eq (alloc_old w _ hr.lt)) hg
 ·intro b hb;unfold cJ at hb;split at hb
  ·rename_i hbb;subst hbb;exact⟨.inr H.size,by simp⟩
  ·rename_i hbb;exact⟨(H2.mine b hb).1.of_eq (by unfold cJ;rw[if_neg hbb]),(H2.mine b hb).2⟩
 ·intro t' g hg;rw[hget]at hg;split at hg
  ·simp at hg
  ·split at hg
   ·rename_i hr;unfold eU at hg;cases hm:dp offs (t'-aS s)with
    |true=>
     rw[hm]at hg;simp only[F9,F7]at hg
     have:=(hmemoff _ hm).1
     exact .inr (by omega)
    |false=>rw[hm]at hg;simp at hg
   ·exact .inl (H.used.1 t' g hg)
 ·intro g z hg;rcases dx H hU hA hg with⟨_,h1⟩|⟨h1,_⟩
  ·exact .inr h1
  ·exact .inl (H.used.2 g z h1)
omit [Dr]in
theorem cy(w:World)(b:Nat)(y:Array Value){k:Nat}(h:k≠b):(w.setRow b y).heap[k]? = w.heap[k]?:=setRow_other w b k y h
theorem Gro.setRow{w:World}{b:Nat}{x:Array Value}(_:Row w b x)(y:Array Value):Gro w (w.setRow b y):=⟨by simp[World.setRow],rfl,rfl,rfl,fun _=>by simp[World.setRow]⟩
omit [Dr]in
theorem Row.setRow{w:World}{b:Nat}{x y:Array Value}(h:Row w b x):Row (w.setRow b y) b y:=by
 obtain⟨e,h⟩:=h;exact⟨e,setRow_heap w b x y e _ h⟩
theorem nN(H:FR c N U e h a w S β γ lam ω){b:Nat}{x y:Array Value}(hr:Row w b x)(hy:∀o v,S b o=some v->y[o]? = some v):Wf S (w.setRow b y):=by
 intro b' o v hv;by_cases hb:b'=b
 ·subst hb;rw[hr.setRow.cell];exact hy o v hv
 ·rw[cell_of_heap (cy w b y hb)];exact H.wf b' o v hv
theorem FR.storeL(H:FR c N U e h a w S β γ lam ω){B m off n gid b:Nat}{x:Array Value}{vs:List Value}{L:List (Nat×Ent)}{A:List (Nat×Option Nat)}{ent:Nat->Ent}(hU:∀g,gid<=g->g<gid+1000->¬U g)(hA:dv A gid)(hm:aI e.lb B=some m)(hle:off+n<=m)(hvs:vs.length=n)(hlam:lam B=some b)(hrow:Row w b x)(hL:∀t,bi (L++e.sl) t=if B+off<=t/\t<B+off+n then ent (t-(B+off))else e.get t)(hent:∀i,i<n->∃v a',vs[i]? = some v/\(ent i).v= .val a'/\VR S β a' v/\(∀g z,(ent i).g=some g->aA (A++e.al) g=some z->v=γN γ gid g)/\∀g,(ent i).g=some g->U g\/(gid<=g/\g<gid+1000))(u:Ent):
  FR c N (fun g=>U g\/(gid<=g/\g<gid+1000)) (e.upd none { ent:=u,ls:=L,add:=A }) h a (w.setRow b (x.toList.take off++vs++x.toList.drop (off+vs.length)).toArray) S β (γN γ gid) lam ω:=by
 obtain⟨hB1,hB2,hB3,b',x',h4,h5,h6,h7,h8⟩:=H.lblk B m hm;rw[hlam]at h4;cases h4;have hxx:x'=x:=by
  obtain⟨e1,h51⟩:=h5;obtain⟨e2,h52⟩:=hrow;rw[h51]at h52;simp only[F7,Obj.cells.injEq]at h52;exact h52.1
 subst hxx;have hxs:m<=x'.size:=by
  rcases GN m with h0|h0
  ·omega
  ·obtain⟨v,_,hv,_⟩:=h8 (m-1) (by omega);rcases Gp (m-1) x'.size with h|h
   ·omega
   ·rw[GL h]at hv;simp at hv
 have hynew:∀i,(x'.toList.take off++vs++x'.toList.drop (off+vs.length)).toArray[i]? = if off<=i/\i<off+n then vs[i-off]? else x'[i]?:=by
  intro i;have htl:(x'.toList.take off).length=off:=by simp;omega
  simp only[G2];by_cases hi:i<off
  ·rw[GI,Gc (by omega),Gj,Gg hi,if_neg (by omega)];simp
  ·by_cases hi2:i<off+n
   ·rw[GI,Gn (by omega),htl,Gc (by omega),Gg (by omega)]
   ·rw[Gn (by simp;omega),GR,if_neg (by omega),Gv];congr 1;simp;omega
 have hwf:Wf S (w.setRow b (x'.toList.take off++vs++x'.toList.drop (off+vs.length)).toArray):=nN H h5 fun o v hv=>by rw[h7]at hv;simp at hv
 have hother:∀k,ω k≠.loc B->(w.setRow b (x'.toList.take off++vs++x'.toList.drop (off+vs.length)).toArray).heap[k]? = w.heap[k]?:=fun k hk=>cy w b _ (by rintro rfl;exact hk h6);have hget:∀t',(e.upd none { ent:=u,ls:=L,add:=A }).get t'=if B+off<=t'/\t'<B+off+n then ent (t'-(B+off))else e.get t':=by
  intro t';rw[bB];simp only[reduceCtorEq,GH];exact hL t'
 have hal:(e.upd none { ent:=u,ls:=L,add:=A }).al=A++e.al:=rfl;have hlb:(e.upd none { ent:=u,ls:=L,add:=A }).lb=e.lb:=rfl;refine⟨hwf,H.gro.trans (Gro.setRow h5 _),fun k hk hE=>?_,H.le,H.ext,H.hlen,?_,H.tsz,?_,?_,?_,?_,?_,?_,?_⟩
 ·have:=H.keep k hk hE
  have hkb:k≠b:=by
   rintro rfl
   have:=(H.mine k (by rw[h6];simp)).1.low
   rcases this with h|h
   ·exact hE h
   ·omega
  rw[cy w b _ hkb];exact this
 ·exact H.heap.rows (ap.le_refl S) (cq.refl β) H.hlen fun l cs' hl _=>.inl ⟨hl,fun k _ ho=>⟨ho,hother k (by rw[ho];simp),fun o h=>h⟩⟩
 ·intro t' ht';rw[hget,if_neg (by omega)];exact H.slots t' ht'
 ·intro t' g z ht' hg hz;rw[hget,if_neg (by omega)]at hg;have hr:¬(gid<=g/\g<gid+1000):=fun hr=>hU g hr.1 hr.2 (H.used.1 t' g hg);rcases dx H hU hA hz with⟨_,h1⟩|⟨h1,_⟩
  ·exact absurd h1 hr
  ·unfold γN;rw[if_neg hr];exact H.grps t' g z ht' hg h1
 ·intro B' n' hB';rw[hlb]at hB';obtain⟨k1,k2,k3,b',y,k4,k5,k6,k7,k8⟩:=H.lblk B' n' hB';by_cases hBB:B'=B
  ·subst hBB;rw[hm]at hB';cases hB';refine⟨k1,k2,k3,b,_,hlam,h5.setRow,h6,h7,fun i hi=>?_⟩;rw[hget,hynew];by_cases hin:off<=i/\i<off+n
   ·rw[Gg hin,Gg (by omega)];obtain⟨v,a',g1,g2,g3,g4,_⟩:=hent (i-off) (by omega);have hix:B'+i-(B'+off)=i-off:=by omega
    exact⟨v,a',g1,by rw[hix];exact g2,g3,fun g z hg hz=>g4 g z (by rw[hix]at hg;exact hg) hz⟩
   ·rw[if_neg hin,if_neg (by omega)];obtain⟨v,a',g1,g2,g3,g4⟩:=h8 i hi;refine⟨v,a',g1,g2,g3,fun g z hg hz=>?_⟩;have hr:¬(gid<=g/\g<gid+1000):=fun hr=>hU g hr.1 hr.2 (H.used.1 _ g hg);rcases dx H hU hA hz with⟨_,h1⟩|⟨h1,_⟩
    ·exact absurd h1 hr
    ·unfold γN;rw[if_neg hr];exact g4 g z hg h1
  ·refine⟨k1,k2,k3,b',y,k4,k5.of_eq (hother b' (by rw[k6];simp[hBB])),k6,k7,fun i hi=>?_⟩;rw[hget,if_neg (by omega)];obtain⟨v,a',g1,g2,g3,g4⟩:=k8 i hi;refine⟨v,a',g1,g2,g3,fun g z hg hz=>?_⟩;have hr:¬(gid<=g/\g<gid+1000):=fun hr=>hU g hr.1 hr.2 (H.used.1 _ g hg);rcases dx H hU hA hz with⟨_,h1⟩|⟨h1,_⟩
   ·exact absurd h1 hr
   ·unfold γN;rw[if_neg hr];exact g4 g z hg h1
 ·intro g z hg;exact pN H hU hA (fun _ _=>rfl) (fun k y g' hk hr=>hr.of_eq (hother k (by rw[hk];simp))) hg
 ·intro k hk;exact⟨(H.mine k hk).1,by simpa using(H.mine k hk).2⟩
 ·intro t' g hg;rw[hget]at hg;split at hg
  ·obtain⟨_,_,_,_,_,_,k5⟩:=hent (t'-(B+off)) (by omega);exact k5 g hg
  ·exact .inl (H.used.1 t' g hg)
 ·intro g z hg;rcases dx H hU hA hg with⟨_,h1⟩|⟨h1,_⟩
  ·exact .inr h1
  ·exact .inl (H.used.2 g z h1)
end
end Go.Av
namespace Go.Av
variable [Dr]
section
variable {c:Entry} {N:Nat} {U:Nat->Prop} {e:Env} {h:Hp} {a:Act} {w:World} {S:ap} {β:List aZ} {γ:Nat->Value} {lam:Nat->Option Nat} {ω:Nat->Owner}
omit [Dr]in
theorem Row.inj{b:Nat}{x y:Array Value}(h:Row w b x)(g:Row w b y):x=y:=by
 obtain⟨e1,h1⟩:=h;obtain⟨e2,h2⟩:=g;rw[h1]at h2;simp only[F7,Obj.cells.injEq]at h2;exact h2.1
theorem FR.storeS(H:FR c N U e h a w S β γ lam ω){B m p b:Nat}{x:Array Value}{vs:List Value}{cs:List AV}(hp:p<N)(hm:aI e.lb B=some m)(hvs:vs.length=m)(hlam:lam B=some b)(hrow:Row w b x)(hcs:aP S β cs vs)(hslot:a.tmps.getD p undef= .pointer (some ⟨b,0,none⟩))(u:Ent):
  ∃S' ω',S.le S'/\FR c N U (e.upd none { ent:=u,ls:=[(p,⟨.val (.ip cs),none⟩)],unlb:=some B }) h a (w.setRow b (vs++x.toList.drop vs.length).toArray) S' β γ lam ω':=by
 obtain⟨hB1,hB2,hB3,b',x',h4,h5,h6,h7,h8⟩:=H.lblk B m hm;rw[hlam]at h4;cases h4;cases h5.inj hrow;have hN:=H.tsz.2;have hy:∀i,i<m->(vs++x.toList.drop vs.length).toArray[i]? = vs[i]?:=fun i hi=>by
  simp only[G2];rw[Gc (by omega)]
 have hle:S.le (S.withRowTo b m (vs++x.toList.drop vs.length).toArray):=fun k o v hv=>by
  unfold ap.withRowTo;split
  ·rename_i hk;subst hk;rw[h7]at hv;simp at hv
  ·exact hv
 have hSb:∀o v,vs[o]? = some v->S.withRowTo b m (vs++x.toList.drop vs.length).toArray b o=some v:=fun o v hv=>by
  have ho:o<m:=by
   rcases Gp o vs.length with h|h
   ·omega
   ·rw[Gi h]at hv;simp at hv
  unfold ap.withRowTo;rw[Gg rfl,Gg ho,hy o ho,hv]
 have hSo:∀k,k≠b->∀o,S.withRowTo b m (vs++x.toList.drop vs.length).toArray k o=S k o:=fun k hk o=>by
  unfold ap.withRowTo;rw[if_neg hk]
 have hωb:∀k,ω k≠.loc B->k≠b:=fun k hk=>by rintro rfl;exact hk h6
 have hother:∀k,ω k≠.loc B->(w.setRow b (vs++x.toList.drop vs.length).toArray).heap[k]? = w.heap[k]?:=fun k hk=>cy w b _ (hωb k hk);have hω:∀k,ω k≠.no->ω k≠.loc B->cJ ω b .no k=ω k:=fun k _ hk=>by unfold cJ;rw[if_neg (hωb k hk)]
 have hget:∀t',(e.upd none { ent:=u,ls:=[(p,⟨.val (.ip cs),none⟩)],unlb:=some B }).get t'=if p=t' then⟨.val (.ip cs),none⟩else e.get t':=by
  intro t';rw[bB];simp only[reduceCtorEq,GH,GJ,GQ,bw];rfl
 have hlb:(e.upd none { ent:=u,ls:=[(p,⟨.val (.ip cs),none⟩)],unlb:=some B }).lb=ig e.lb B:=rfl;have hal:(e.upd none { ent:=u,ls:=[(p,⟨.val (.ip cs),none⟩)],unlb:=some B }).al=e.al:=rfl;refine⟨_,cJ ω b .no,hle,?_,H.gro.trans (Gro.setRow hrow _),fun k hk hE=>?_,ap.le_trans H.le hle,H.ext,H.hlen,?_,H.tsz,?_,?_,?_,?_,?_,?_⟩
 ·intro k o v hv;by_cases hk:k=b
  ·subst hk;rw[hrow.setRow.cell];unfold ap.withRowTo at hv;rw[Gg rfl]at hv;split at hv
   ·exact hv
   ·simp at hv
  ·rw[hSo k hk]at hv;rw[cell_of_heap (cy w b _ hk)];exact H.wf k o v hv
 ·have hkb:k≠b:=by
   rintro rfl
   have:=(H.mine k (by rw[h6];simp)).1.low
   rcases this with h|h
   ·exact hE h
   ·omega
  have:=H.keep k hk hE
  exact⟨by rw[cy w b _ hkb];exact this.1,fun o=>by rw[hSo k hkb];exact this.2 o⟩
 ·exact H.heap.rows hle (cq.refl β) H.hlen fun l cs' hl _=>.inl ⟨hl,fun k _ ho=>by
   have hk:ω k≠.loc B:=by rw[ho];simp
   exact⟨by rw[hω k (by rw[ho];simp) hk];exact ho,hother k hk,fun o h=>by rw[hSo k (hωb k hk)];exact h⟩⟩
 ·intro t' ht';rw[hget];split
  ·rename_i hpt;subst hpt;rw[hslot];simp only[dw,VR];exact⟨b,0,vs,rfl,hcs.mono hle (cq.refl β),fun j v hj=>by rw[GE];exact hSb j v hj⟩
  ·have:=H.slots t' ht'
   cases hv:(e.get t').v with
   |val av=>rw[hv]at this;exact VR.mono hle (cq.refl β) _ _ this
   |loc B off=>rw[hv]at this;exact this
 ·intro t' g z ht' hg hz;rw[hget]at hg;split at hg
  ·simp at hg
  ·exact H.grps t' g z ht' hg hz
 ·intro B' n' hB';rw[hlb,qe]at hB';split at hB'
  ·simp at hB'
  ·rename_i hBB;obtain⟨k1,k2,k3,b',y,k4,k5,k6,k7,k8⟩:=H.lblk B' n' hB';have hk:ω b'≠.loc B:=by rw[k6];simp only[ne_eq,Owner.loc.injEq];exact fun h=>hBB h.symm
   refine⟨k1,k2,k3,b',y,k4,k5.of_eq (hother b' hk),by rw[hω b' (by rw[k6];simp) hk];exact k6,fun o=>by rw[hSo b' (hωb b' hk)];exact k7 o,fun i hi=>?_⟩;rw[hget,if_neg (by omega)];obtain⟨v,a',g1,g2,g3,g4⟩:=k8 i hi;exact⟨v,a',g1,g2,VR.mono hle (cq.refl β) _ _ g3,g4⟩
 ·intro g z hg;obtain⟨a',len,cap,g1,g2,g3,g4⟩:=H.free g z hg;refine⟨a',len,cap,g1,g2,g3,g4.imp id ?_⟩;rintro⟨sz,k,off,y,k1,k2,k3,k4,k5,k6⟩;have hk:ω k≠.loc B:=by rw[k5];simp
  exact⟨sz,k,off,y,k1,k2,k3.of_eq (hother k hk),k4,by rw[hω k (by rw[k5];simp) hk];exact k5,fun o ho=>by rw[hSo k (hωb k hk)];exact k6 o ho⟩
 ·intro k hk;unfold cJ at hk;split at hk
  ·exact absurd rfl hk
  ·rename_i hkk;exact⟨(H.mine k hk).1.of_eq (by unfold cJ;rw[if_neg hkk]),by simpa using(H.mine k hk).2⟩
 ·refine⟨fun t' g hg=>?_,H.used.2⟩;rw[hget]at hg;split at hg
  ·simp at hg
  ·exact H.used.1 t' g hg
theorem FR.newH(H:FR c N U e h a w S β γ lam ω)(x:Array Value)(t:TypeId){cs:List AV}(hcs:aP S β cs (x.toList.take cs.length))(htag:∀t',b7 t' cs->t'=t):
  ∃ω',FR c N U e (h++[cs]) a (w.alloc (.cells x t)) S (β++[(w.heap.size,x.size)]) γ lam ω'/\(β++[(w.heap.size,x.size)])[h.length]? = some (w.heap.size,x.size)/\cq β (β++[(w.heap.size,x.size)]):=by
 have H2:=H.alloc x t;have hext:cq β (β++[(w.heap.size,x.size)]):=fun l b hb=>by
  have:l<β.length:=by
   rcases Gp l β.length with h|h
   ·exact h
   ·rw[Gi h]at hb;simp at hb
  rw[Gc this];exact hb
 have hnew:(β++[(w.heap.size,x.size)])[h.length]? = some (w.heap.size,x.size):=by rw[<- H.hlen];simp
 have hωn:ω w.heap.size= .no:=by
  cases ho:ω w.heap.size with
  |no=>rfl
  |_=>have:=(H.mine w.heap.size (by rw[ho];simp)).2;omega
 have hω:∀b,ω b≠.no->cJ ω w.heap.size (.heap h.length) b=ω b:=fun b hb=>by
  unfold cJ;rw[if_neg];rintro rfl;exact hb hωn
 refine⟨cJ ω w.heap.size (.heap h.length),⟨H2.wf,H2.gro,H2.keep,H2.le,cq.trans H2.ext hext,by simp[H.hlen],?_,H2.tsz,?_,H2.grps,?_,?_,?_,H2.used⟩,hnew,hext⟩
 ·refine H2.heap.rows (ap.le_refl S) hext H2.hlen fun l cs' hl hne=>?_;rcases Gp l h.length with hlt|hge
  ·rw[Gc hlt]at hl;exact .inl ⟨hl,fun b _ ho=>⟨by rw[hω b (by rw[ho];simp)];exact ho,rfl,fun o h=>h⟩⟩
  ·rw[Gn hge]at hl;have hlz:l=h.length:=by
    rcases GN (l-h.length)with h0|h0
    ·omega
    ·rw[Gi (by simp;omega)]at hl;simp at hl
   subst hlz;simp only[Hq,Gw,F7]at hl;subst hl;exact .inr ⟨w.heap.size,x,hnew,Row.new w x t,by simp[cJ],hcs.mono (ap.le_refl S) hext,fun o=>H.wf.none (Ga _) o,fun t' ht'=>⟨x,by rw[htag t' ht'];exact heap_alloc_new w _⟩⟩
 ·intro t' ht'
  have:=H2.slots t' ht'
  cases hv:(e.get t').v with
  |val av=>rw[hv]at this;exact VR.mono (ap.le_refl S) hext _ _ this
  |loc B off=>rw[hv]at this;exact this
 ·intro B n hB;obtain⟨h1,h2,h3,b,y,h4,h5,h6,h7,h8⟩:=H2.lblk B n hB;refine⟨h1,h2,h3,b,y,h4,h5,by rw[hω b (by rw[h6];simp)];exact h6,h7,fun i hi=>?_⟩;obtain⟨v,a',g1,g2,g3,g4⟩:=h8 i hi;exact⟨v,a',g1,g2,VR.mono (ap.le_refl S) hext _ _ g3,g4⟩
 ·intro g z hg;obtain⟨a',len,cap,g1,g2,g3,g4⟩:=H2.free g z hg;refine⟨a',len,cap,g1,g2,g3,g4.imp id ?_⟩;rintro⟨sz,k,off,y,k1,k2,k3,k4,k5,k6⟩;exact⟨sz,k,off,y,k1,k2,k3,k4,by rw[hω k (by rw[k5];simp)];exact k5,k6⟩
 ·intro b hb;unfold cJ at hb;split at hb
  ·rename_i hbb;subst hbb;exact⟨.inr H.size,by simp⟩
  ·rename_i hbb;exact⟨(H2.mine b hb).1.of_eq (by unfold cJ;rw[if_neg hbb]),(H2.mine b hb).2⟩
theorem FR.turnH(H:FR c N U e h a w S β γ lam ω){l b:Nat}{cs cs':List AV}{x y:Array Value}(hl:h[l]? = some cs)(hne:cs≠[])(hb:∃n,β[l]? = some (b,n))(hrow:Row w b x)(hys:y.size=x.size)(hcs:aP S β cs' (y.toList.take cs'.length))(htag:∀t,b7 t cs'->b7 t cs):
  FR c N U e (h.set l cs') a (w.setRow b y) S β γ lam ω:=by
 obtain⟨n,hb⟩:=hb;obtain⟨h1,h3,h4,h5⟩:=H.heap.of_row hl hne hb hrow;rw[hb]at h1;cases h1;have h2:=hrow;have hlt:l<h.length:=by
  rcases Gp l h.length with h'|h'
  ·exact h'
  ·rw[Gi h']at hl;simp at hl
 have hωb:∀k,ω k≠.heap l->k≠b:=fun k hk=>by rintro rfl;exact hk h3
 have hother:∀k,ω k≠.heap l->(w.setRow b y).heap[k]? = w.heap[k]?:=fun k hk=>cy w b _ (hωb k hk);refine⟨nN H hrow fun o v hv=>by rw[h5]at hv;simp at hv,H.gro.trans (Gro.setRow hrow _),fun k hk hE=>?_,H.le,H.ext,by simp[H.hlen],?_,H.tsz,H.slots,H.grps,?_,?_,fun k hk=>⟨(H.mine k hk).1,by simpa using(H.mine k hk).2⟩,H.used⟩
 ·have hkb:k≠b:=by
   rintro rfl
   have:=(H.mine k (by rw[h3];simp)).1.low
   rcases this with h|h
   ·exact hE h
   ·omega
  have:=H.keep k hk hE
  exact⟨by rw[cy w b _ hkb];exact this.1,this.2⟩
 ·refine H.heap.rows (ap.le_refl S) (cq.refl β) H.hlen fun j ds hj hd=>?_;rw[H7]at hj;split at hj
  ·rename_i hlj;subst hlj;simp only[F7]at hj;subst hj;exact .inr ⟨b,y,by rw[hb,hys],hrow.setRow,h3,hcs,h5,fun t ht=>by obtain⟨z,hz⟩:=H.heap.tag hl (htag t ht) hb;exact⟨y,setRow_heap w b z y t _ hz⟩⟩
  ·rename_i hlj;exact .inl ⟨hj,fun k _ ho=>⟨ho,hother k (by rw[ho];simp only[ne_eq,Owner.heap.injEq];exact fun h=>hlj h.symm),fun o h=>h⟩⟩
 ·intro B n hB;obtain⟨k1,k2,k3,k,z,k4,k5,k6,k7,k8⟩:=H.lblk B n hB;exact⟨k1,k2,k3,k,z,k4,k5.of_eq (hother k (by rw[k6];simp)),k6,k7,k8⟩
 ·intro g z hg;obtain⟨a',len,cap,g1,g2,g3,g4⟩:=H.free g z hg;refine⟨a',len,cap,g1,g2,g3,g4.imp id ?_⟩;rintro⟨sz,k,off,z',k1,k2,k3,k4,k5,k6⟩;exact⟨sz,k,off,z',k1,k2,k3.of_eq (hother k (by rw[k5];simp)),k4,k5,k6⟩
theorem FR.killH(H:FR c N U e h a w S β γ lam ω)(l:Nat):FR c N U e (h.set l []) a w S β γ lam ω:=by
 refine⟨H.wf,H.gro,H.keep,H.le,H.ext,by simp[H.hlen],?_,H.tsz,H.slots,H.grps,H.lblk,H.free,H.mine,H.used⟩;refine H.heap.rows (ap.le_refl S) (cq.refl β) H.hlen fun j ds hj hd=>?_;rw[H7]at hj;split at hj
 ·split at hj
  ·simp only[F7]at hj;exact absurd hj.symm hd
  ·simp at hj
 ·exact .inl ⟨hj,fun k _ ho=>⟨ho,rfl,fun o h=>h⟩⟩
theorem FR.moveH(H:FR c N U e h a w S β γ lam ω){l b:Nat}{cs cs':List AV}{x:Array Value}(hl:h[l]? = some cs)(hne:cs≠[])(hb:∃n,β[l]? = some (b,n))(hrow:Row w b x)(hcs:aP S β cs' (x.toList.take cs'.length))(htag:∀t,b7 t cs'->b7 t cs):
  ∃ω',FR c N U e (h.set l []++[cs']) a w S (β++[(b,x.size)]) γ lam ω'/\(β++[(b,x.size)])[h.length]? = some (b,x.size)/\cq β (β++[(b,x.size)]):=by
 obtain⟨n,hb⟩:=hb;obtain⟨h1,h3,h4,h5⟩:=H.heap.of_row hl hne hb hrow;rw[hb]at h1;cases h1;have h2:=hrow;have hlt:l<h.length:=by
  rcases Gp l h.length with h'|h'
  ·exact h'
  ·rw[Gi h']at hl;simp at hl
 have hext:cq β (β++[(b,x.size)]):=fun l b hb=>by
  have:l<β.length:=by
   rcases Gp l β.length with h|h
   ·exact h
   ·rw[Gi h]at hb;simp at hb
  rw[Gc this];exact hb
 have hnew:(β++[(b,x.size)])[h.length]? = some (b,x.size):=by rw[<- H.hlen];simp
 have hωb:∀k,ω k≠.heap l->k≠b:=fun k hk=>by rintro rfl;exact hk h3
 have hω:∀k,ω k≠.heap l->cJ ω b (.heap h.length) k=ω k:=fun k hk=>by unfold cJ;rw[if_neg (hωb k hk)]
 refine⟨cJ ω b (.heap h.length),⟨H.wf,H.gro,H.keep,H.le,cq.trans H.ext hext,by simp[H.hlen],?_,H.tsz,?_,H.grps,?_,?_,?_,H.used⟩,hnew,hext⟩
 ·refine H.heap.rows (ap.le_refl S) hext H.hlen fun j ds hj hd=>?_;rcases Gp j h.length with hlj|hge
  ·rw[Gc (by simpa using hlj),H7]at hj;split at hj
   ·rename_i hlj2;subst hlj2;simp only[F7]at hj;exact absurd hj.symm hd
   ·rename_i hne';exact .inl ⟨hj,fun k _ ho=>⟨by rw[hω k (by rw[ho];simp only[ne_eq,Owner.heap.injEq];exact fun h=>hne' h.symm)];exact ho,rfl,fun o h=>h⟩⟩
  ·rw[Gn (by simpa using hge)]at hj;have hjz:j=h.length:=by
    rcases GN (j-h.length)with h0|h0
    ·omega
    ·rw[Gi (by simp;omega)]at hj;simp at hj
   subst hjz;simp only[GZ,Hq,Gw,F7]at hj;subst hj;exact .inr ⟨b,x,hnew,hrow,by simp[cJ],hcs.mono (ap.le_refl S) hext,h5,fun t ht=>H.heap.tag hl (htag t ht) hb⟩
 ·intro t' ht'
  have:=H.slots t' ht'
  cases hv:(e.get t').v with
  |val av=>rw[hv]at this;exact VR.mono (ap.le_refl S) hext _ _ this
  |loc B off=>rw[hv]at this;exact this
 ·intro B n hB;obtain⟨k1,k2,k3,k,z,k4,k5,k6,k7,k8⟩:=H.lblk B n hB;refine⟨k1,k2,k3,k,z,k4,k5,by rw[hω k (by rw[k6];simp)];exact k6,k7,fun i hi=>?_⟩;obtain⟨v,a',g1,g2,g3,g4⟩:=k8 i hi;exact⟨v,a',g1,g2,VR.mono (ap.le_refl S) hext _ _ g3,g4⟩
 ·intro g z hg;obtain⟨a',len,cap,g1,g2,g3,g4⟩:=H.free g z hg;refine⟨a',len,cap,g1,g2,g3,g4.imp id ?_⟩;rintro⟨sz,k,off,y,k1,k2,k3,k4,k5,k6⟩;exact⟨sz,k,off,y,k1,k2,k3,k4,by rw[hω k (by rw[k5];simp)];exact k5,k6⟩
 ·intro k hk;unfold cJ at hk;split at hk
  ·rename_i hkk;subst hkk;exact⟨(H.mine k (by rw[h3];simp)).1.of_not (fun g=>by unfold cJ;rw[Gg rfl];simp),(H.mine k (by rw[h3];simp)).2⟩
  ·rename_i hkk;exact⟨(H.mine k hk).1.of_eq (by unfold cJ;rw[if_neg hkk]),(H.mine k hk).2⟩
end
end Go.Av
namespace Go.Av
variable [Dr]
section
variable {c:Entry} {N:Nat} {U:Nat->Prop} {e:Env} {h:Hp} {a:Act} {w:World} {S:ap} {β:List aZ} {γ:Nat->Value} {lam:Nat->Option Nat} {ω:Nat->Owner}
theorem FR.regrp(H:FR c N U e h a w S β γ lam ω){d:Option Tmp}{r:AV}{v:Value}{gid:Nat}{z:Option Nat}{g0:Option Nat}{w':World}{S':ap}{ω':Nat->Owner}(hd:∀t,d=some t->t<N)(hU:∀g,gid<=g->g<gid+1000->¬U g)(hwf:Wf S' w')(hg:Gro w w')(hle:S.le S')(hk:∀k,k<w.heap.size->(∀g,g0=some g->ω k≠.grp g)->w'.heap[k]? = w.heap[k]? /\∀o,S' k o=S k o)(hω:∀k,ω k≠.no->(∀g,g0=some g->ω k≠.grp g)->ω' k=ω k)(hmine:∀b,ω' b≠.no->dI c ω' b/\b<w'.heap.size)(hv:VR S' β r v)(hf:jR S' w' ω' gid z v):
  FR c N (fun g=>U g\/(gid<=g/\g<gid+1000)) (e.upd d { Upd.own r gid z with drop:=g0 }) h (a.put d v) w' S' β (fun g=>if g=gid then v else γ g) lam ω':=by
 have hget:∀t,(e.upd d { Upd.own r gid z with drop:=g0 }).get t=if d=some t then⟨.val r,some gid⟩else e.get t:=fun t=>by rw[bB];rfl
 have hal:(e.upd d { Upd.own r gid z with drop:=g0 }).al=(gid,z):: cP e.al g0:=rfl;have hlb:(e.upd d { Upd.own r gid z with drop:=g0 }).lb=e.lb:=rfl;have hdl:∀B i:Nat,1000<=B->d≠some (B+i):=fun B i hB hh=>by have h1:B+i<N:=hd _ hh;have h2:=H.tsz.2;omega
 have hdrop:∀g y,aA (cP e.al g0) g=some y->aA e.al g=some y/\g0≠some g:=by
  intro g y hg;cases g0 with
  |none=>exact⟨hg,by simp⟩
  |some k=>
   simp only[cP,ge]at hg;split at hg
   ·simp at hg
   ·rename_i hkg;exact⟨hg,by simpa using hkg⟩
 have hne:∀t g,(e.get t).g=some g->g≠gid:=fun t g hg hh=>hU g (by omega) (by omega) (H.used.1 t g hg);have hna:∀g y,aA e.al g=some y->g≠gid:=fun g y hg hh=>hU g (by omega) (by omega) (H.used.2 g y hg);have halv:∀g y,g≠gid->aA ((gid,z):: cP e.al g0) g=some y->aA e.al g=some y/\g0≠some g:=fun g y hg hy=>by
  rw[bk,if_neg (fun h=>hg h.symm)]at hy;exact hdrop g y hy
 have hrow:∀ {b x},Row w b x->(∀g,g0=some g->ω b≠.grp g)->Row w' b x:=fun hr hb=>hr.of_eq (hk _ hr.lt hb).1;have hsz:=hg.size;refine⟨hwf,H.gro.trans hg,fun b hb hE=>?_,ap.le_trans H.le hle,H.ext,H.hlen,?_,by rw[dX];exact H.tsz,fun t ht=>?_,fun t g y ht hgg hz=>?_,fun B n hB=>?_,fun g y hg=>?_,hmine,⟨fun t g hgg=>?_,fun g y hg=>?_⟩⟩
 ·have hnb:∀g,g0=some g->ω b≠.grp g:=fun g _ hbg=>by
   have:=(H.mine b (by rw[hbg];simp)).1.low
   rcases this with h|h
   ·exact hE h
   ·omega
  have h1:=hk b (GD hb H.size) hnb;have h2:=H.keep b hb hE;exact⟨h1.1.trans h2.1,fun o=>(h1.2 o).trans (h2.2 o)⟩
 ·exact H.heap.rows hle (cq.refl β) H.hlen fun l cs hl _=>.inl ⟨hl,fun b hb ho=>by
   have hnb:∀g,g0=some g->ω b≠.grp g:=fun g _=>by rw[ho];simp
   exact⟨by rw[hω b (by rw[ho];simp) hnb];exact ho,(hk b hb hnb).1,fun o h=>by rw[(hk b hb hnb).2];exact h⟩⟩
 ·rw[hget,ef a d v hd H.tsz.1];split
  ·exact hv
  ·have:=H.slots t ht
   cases hv:(e.get t).v with
   |val av=>rw[hv]at this;exact VR.mono hle (cq.refl β) _ _ this
   |loc B off=>rw[hv]at this;exact this
 ·rw[hget]at hgg;rw[hal]at hz;rw[ef a d v hd H.tsz.1];split at hgg
  ·rename_i hdt;rw[Gg hdt];simp only[F7]at hgg;simp[<- hgg]
  ·rename_i hdt;have hg:=hne t g hgg;rw[if_neg hdt,if_neg hg];exact H.grps t g y ht hgg (halv g y hg hz).1
 ·rw[hlb]at hB;obtain⟨h1,h2,h3,b,x,h4,h5,h6,h7,h8⟩:=H.lblk B n hB;have hnb:∀g,g0=some g->ω b≠.grp g:=fun g _=>by rw[h6];simp
  refine⟨h1,h2,h3,b,x,h4,hrow h5 hnb,by rw[hω b (by rw[h6];simp) hnb];exact h6,fun o=>by rw[(hk b h5.lt hnb).2];exact h7 o,fun i hi=>?_⟩;rw[hget,if_neg (hdl B i h2)];obtain⟨u,a',g1,g2,g3,g4⟩:=h8 i hi;refine⟨u,a',g1,g2,VR.mono hle (cq.refl β) _ _ g3,fun g y hg hy=>?_⟩;have hgn:=hne _ g hg;rw[if_neg hgn];rw[hal]at hy;exact g4 g y hg (halv g y hgn hy).1
 ·rw[hal]at hg;by_cases hgg:g=gid
  ·subst hgg;rw[bk,Gg rfl]at hg;simp only[F7]at hg;subst hg;simpa using hf
  ·simp only[if_neg hgg];obtain⟨h1,h2⟩:=halv g y hgg hg;obtain⟨a',len,cap,k1,k2,k3,k4⟩:=H.free g y h1;refine⟨a',len,cap,k1,k2,k3,k4.imp id ?_⟩;rintro⟨sz,b,off,x,j1,j2,j3,j4,j5,j6⟩;have hnb:∀g',g0=some g'->ω b≠.grp g':=fun g' hg'=>by
    rw[j5];simp only[ne_eq,Owner.grp.injEq];rintro rfl;exact h2 hg'
   exact⟨sz,b,off,x,j1,j2,hrow j3 hnb,j4,by rw[hω b (by rw[j5];simp) hnb];exact j5,fun o ho=>by rw[(hk b j3.lt hnb).2];exact j6 o ho⟩
 ·rw[hget]at hgg;split at hgg
  ·simp only[F7]at hgg;exact .inr (by omega)
  ·exact .inl (H.used.1 t g hgg)
 ·rw[hal]at hg;by_cases hgg:g=gid
  ·exact .inr (by omega)
  ·exact .inl (H.used.2 g y (halv g y hgg hg).1)
omit [Dr]in
theorem vZ{S:ap}{β:List aZ}{es:List AV}{b off sz sz':Nat}(h:bg S β es b off sz')(hok:b6 sz es=true)(hne:es≠[]):sz'=sz:=by
 cases es with
 |nil=>exact absurd rfl hne
 |cons x es=>
  simp only[bg]at h;simp only[b6,GO,F8]at hok;obtain⟨⟨v,hv,hs,_⟩,_⟩:=h
  have:=(dC hok.1 hv).1
  omega
open Classical in
theorem FR.app(H:FR c N U e h a w S β γ lam ω){d:Option Tmp}{as bs:List AV}{vx v:Value}{w':World}{gid sz:Nat}{g0:Option Nat}{z:Option Nat}(hd:∀t,d=some t->t<N)(hU:∀g,gid<=g->g<gid+1000->¬U g)(hx:VR S β (.sl as) vx)(hoa:b6 sz as=true)(hfree:(g0=none/\vx= .slice none 0 0)\/∃g,g0=some g/\jR S w ω g z vx)(hz:z=none\/z=some sz)(happ:Appended S β w sz as bs vx v w'):
  ∃S' ω',FR c N (fun g=>U g\/(gid<=g/\g<gid+1000)) (e.upd d { Upd.own (.sl (as++bs)) gid (some sz)with drop:=g0 }) h (a.put d v) w' S' β (fun g=>if g=gid then v else γ g) lam ω':=by
 cases happ with
 | same hb=>
  subst hb;refine⟨S,fun k=>if ∃g,g0=some g/\ω k= .grp g then .grp gid else ω k,H.regrp hd hU H.wf (Gro.refl _) (ap.le_refl S) (fun k _ _=>⟨rfl,fun _=>rfl⟩) ?_ ?_ (by simpa using hx) ?_⟩
  ·intro k _ hk;rw[if_neg];rintro⟨g,h1,h2⟩;exact hk g h1 h2
  ·intro b hb
   (try simp only at hb)
   split at hb
   ·rename_i hg;obtain⟨g,_,hg⟩:=hg;exact⟨.inr ((H.mine b (by rw[hg];simp)).1.grp hg),(H.mine b (by rw[hg];simp)).2⟩
   ·rename_i hg;exact⟨(H.mine b hb).1.of_eq (if_neg hg),(H.mine b hb).2⟩
  ·rcases hfree with⟨_,rfl⟩|⟨g,rfl,a',len,cap,h1,h2,h3,h4⟩
   ·exact⟨none,0,0,rfl,Ga _,fun _=>rfl,.inl rfl⟩
   ·refine⟨a',len,cap,h1,h2,h3,h4.imp id ?_⟩;rintro⟨sz',b,off,x,g1,g2,g3,g4,g5,g6⟩;have:sz'=sz:=by rcases hz with rfl|rfl<;>simp_all
    subst this;exact⟨sz',b,off,x,rfl,g2,g3,g4,by(try simp only);rw[Gg ⟨g,rfl,g5⟩],g6⟩
 | place b off cap x cs hv hr hlt hc hb hf=>
  subst hv;rcases hfree with⟨_,hcon⟩|⟨g,rfl,a',len,cap',h1,h2,h3,h4⟩
  ·cases hcon
  ·simp only[Value.slice.injEq]at h1;obtain⟨rfl,rfl,rfl⟩:=h1;have hpos:0<bs.length:=Hw.2 hb;rcases h4 with h4|⟨sz',b',off',x',g1,g2,g3,g4,g5,g6⟩
   ·omega
   ·have:sz'=sz:=by rcases hz with rfl|rfl<;>simp_all
    subst this;simp only[F7,Addr.mk.injEq]at g2;obtain⟨rfl,rfl,_⟩:=g2;cases hr.inj g3;have hcl:=hf.1;have hle:(as.length+bs.length)*sz'<=cap*sz':=Gr _ hlt;rw[GK]at hle;have hynew:∀i,(x.toList.take (off+as.length*sz')++cs++x.toList.drop (off+as.length*sz'+cs.length)).toArray[i]? =
      if off+as.length*sz'<=i/\i<off+as.length*sz'+cs.length then cs[i-(off+as.length*sz')]? else x[i]?:=by
     intro i;have htl:(x.toList.take (off+as.length*sz')).length=off+as.length*sz':=by simp;omega
     simp only[G2];by_cases hi:i<off+as.length*sz'
     ·rw[GI,Gc (by omega),Gj,Gg hi,if_neg (by omega)];simp
     ·by_cases hi2:i<off+as.length*sz'+cs.length
      ·rw[GI,Gn (by omega),htl,Gc (by omega),Gg (by omega)]
      ·rw[Gn (by simp;omega),GR,if_neg (by omega),Gv];congr 1;simp;omega
    generalize hy:(x.toList.take (off+as.length*sz')++cs++x.toList.drop (off+as.length*sz'+cs.length)).toArray=y at hynew
    -- the new stable cells
    refine⟨fun k o=>if k=b/\off+as.length*sz'<=o/\o<off+as.length*sz'+cs.length then cs[o-(off+as.length*sz')]? else S k o,cJ ω b (.grp gid),?_⟩;have hleS:S.le (fun k o=>if k=b/\off+as.length*sz'<=o/\o<off+as.length*sz'+cs.length then cs[o-(off+as.length*sz')]? else S k o):=by
     intro k o v hv
     (try simp only)
     rw[if_neg]
     ·exact hv
     ·rintro⟨rfl,h1,_⟩;rw[g6 o h1]at hv;simp at hv
    have hysz:y.size=x.size:=by
     rw[<- hy];simp;omega
    refine H.regrp hd hU (fun k o v hv=>?_) (Gro.setRow hr _) hleS (fun k hk hkg=>?_) (fun k hk hkg=>?_) (fun k hk=>?_) ?_ ?_
    ·(try simp only at hv)
     split at hv
     ·rename_i hc';obtain⟨rfl,h1,h2⟩:=hc';rw[hr.setRow.cell,hynew,Gg ⟨h1,h2⟩];exact hv
     ·rename_i hc';by_cases hkb:k=b
      ·subst hkb;have hcell:=H.wf k o v hv;rw[hr.cell]at hcell;rw[hr.setRow.cell,hynew,if_neg (fun h=>hc' ⟨rfl,h⟩)];exact hcell
      ·rw[cell_of_heap (cy w b y hkb)];exact H.wf k o v hv
    ·have hkb:k≠b:=by rintro rfl;exact hkg g rfl g5
     exact⟨cy w b y hkb,fun o=>by(try simp only);rw[if_neg (fun h=>hkb h.1)]⟩
    ·unfold cJ;rw[if_neg];rintro rfl;exact hkg g rfl g5
    ·unfold cJ at hk;split at hk
     ·rename_i hkb;subst hkb
      have:=H.mine k (by rw[g5];simp)
      exact⟨.inr (this.1.grp g5),by simpa using this.2⟩
     ·rename_i hkb
      have:=H.mine k hk
      exact⟨this.1.of_eq (by unfold cJ;rw[if_neg hkb]),by simpa using this.2⟩
    ·-- the value
     simp only[VR]at hx |-;obtain⟨a2,cap2,he,hc2,hn2,hs2⟩:=hx;simp only[Value.slice.injEq]at he;obtain⟨rfl,_,rfl⟩:=he;refine⟨some ⟨b,off,none⟩,cap,by simp,by simpa using hlt,(fun h=>by cases h),fun q hq=>?_⟩;simp only[F7]at hq;subst hq;obtain⟨_,sz2,hel⟩:=hs2 _ rfl;refine⟨fun _=>rfl,sz',?_⟩;have hels:bg S β as b off sz':=by
      by_cases hne:as=[]
      ·subst hne;simp[bg]
      ·have:=vZ hel hoa hne
       subst this;exact hel
     refine bg.append (bg.mono hleS (cq.refl β) _ _ _ _ hels) (.of_get fun i x' hx'=>?_);obtain⟨v',hv1,hv2,hv3⟩:=hf.2.1 i x' hx';refine⟨v',VR.mono hleS (cq.refl β) _ _ hv1,hv2,fun j u hu=>?_⟩;have hcs:=hv3 j u (by simpa using hu);simp only[G2]at hcs;have hlt':i*sz'+j<cs.length:=by
      rcases Gp (i*sz'+j) cs.length with h|h
      ·exact h
      ·rw[Gi h]at hcs;simp at hcs
     (try simp only)
     rw[Gg ⟨by trivial,by omega,by omega⟩];rw[show off+as.length*sz'+i*sz'+j-(off+as.length*sz')=i*sz'+j by omega];exact hcs
    ·refine⟨some ⟨b,off,none⟩,as.length+bs.length,cap,rfl,hlt,(fun h=>by cases h),.inr ⟨sz',b,off,y,rfl,rfl,hr.setRow,by rw[hysz];exact hc,by simp[cJ],fun o ho=>?_⟩⟩
     (try simp only)
     rw[GK]at ho;rw[if_neg (by omega)];exact g6 o (by omega)
 | fresh x t cap hlt hc hr hb=>
  have H2:=(H.drew).allocS x t ((as++bs).length*sz);have hsz:w.drew.heap.size=w.heap.size:=rfl;have hωn:ω w.heap.size= .no:=by
   cases ho:ω w.heap.size with
   |no=>rfl
   |_=>have:=(H.mine w.heap.size (by rw[ho];simp)).2;omega
  have hle:(as.length+bs.length)*sz<=cap*sz:=Gr _ hlt;refine⟨S.withRowTo w.heap.size ((as++bs).length*sz) x,cJ ω w.heap.size (.grp gid),H.regrp hd hU H2.wf ((Gro.drew w).trans (Gro.alloc w.drew x t)) ?_ (fun k hk _=>⟨by rw[alloc_old _ _ (by simpa using hk)];rfl,fun o=>?_⟩) (fun k hk _=>?_) (fun k hk=>?_) ?_ ?_⟩
  ·intro k o v hv;unfold ap.withRowTo;split
   ·rename_i hk;subst hk;rw[H.wf.none (Ga _)]at hv;simp at hv
   ·exact hv
  ·unfold ap.withRowTo;rw[if_neg (by omega)]
  ·unfold cJ;rw[if_neg];rintro rfl;exact hk hωn
  ·unfold cJ at hk;split at hk
   ·rename_i hkk;subst hkk;exact⟨.inr H.size,by simp⟩
   ·rename_i hkk
    have:=H.mine k hk
    exact⟨this.1.of_eq (by unfold cJ;rw[if_neg hkk]),by simp;omega⟩
  ·simp only[VR];refine⟨some ⟨w.heap.size,0,none⟩,cap,by simp,by simpa using hlt,(fun h=>by cases h),fun q hq=>?_⟩;simp only[F7]at hq;subst hq;refine⟨fun _=>rfl,sz,.of_get fun i x' hx'=>?_⟩;obtain⟨v',hv1,hv2,hv3⟩:=hr i x' hx';have hi:i<(as++bs).length:=by
    rcases Gp i (as++bs).length with h|h
    ·exact h
    ·rw[Gi h]at hx';simp at hx'
   refine⟨v',VR.mono (fun k o v hv=>?_) (cq.refl β) _ _ hv1,hv2,fun j u hu=>?_⟩
   ·unfold ap.withRowTo;split
    ·rename_i hk;subst hk;rw[H.wf.none (Ga _)]at hv;simp at hv
    ·exact hv
   ·have hj:j<sz:=by
     rcases Gp j v'.cells.toList.length with h|h
     ·simp[hv2]at h;exact h
     ·rw[Gi h]at hu;simp at hu
    have hm:(i+1)*sz<=(as++bs).length*sz:=Gr _ hi;rw[GK]at hm;unfold ap.withRowTo;rw[Gg rfl,Gg (GD (show 0+i*sz+j<i*sz+1*sz by omega) hm),GE];exact hv3 j u (by simpa using hu)
  ·refine⟨some ⟨w.heap.size,0,none⟩,as.length+bs.length,cap,rfl,hlt,(fun h=>by cases h),.inr ⟨sz,w.heap.size,0,x,rfl,rfl,Row.new w.drew x t,by omega,by simp[cJ],fun o ho=>?_⟩⟩;unfold ap.withRowTo;rw[Gg rfl,if_neg];rw[Gf];exact IZ.2 (by simpa using ho)
end
end Go.Av
namespace Go.Av
variable [Dr]
def a8(β:List aZ)(h:Hp)(b:Nat):Prop:=∃(l:Nat)(cs:List AV)(n:Nat),h[l]? = some cs/\cs≠[]/\β[l]? = some (b,n)
def a7(S:ap)(β:List aZ)(w:World)(h:Hp):Prop:=β.length=h.length/\∃ω,dZ S β w ω h
def kz(S:ap)(β:List aZ)(h:Hp)(w:World):Prop:=GOKw w/\(∀b,b<gN->¬a8 β h b)/\Cq S
structure Left (E:Nat->Prop) (S:ap) (β:List aZ) (w:World) (S':ap) (β':List aZ) (w':World) (h':Hp):Prop where
 le:S.le S'
 ext:cq β β'
 wf:Wf S' w'
 gro:Gro w w'
 keep:∀b,b<w.heap.size->¬E b->w'.heap[b]? = w.heap[b]? /\∀o,S' b o=S b o
 heap:a7 S' β' w' h'
 owned:∀b,a8 β' h' b->E b\/w.heap.size<=b
theorem Left.size{E:Nat->Prop}{S:ap}{β:List aZ}{w:World}{S':ap}{β':List aZ}{w':World}{h':Hp}(L:Left E S β w S' β' w' h'):w.heap.size<=w'.heap.size:=L.gro.size
def nO(n0:Nat)(S':ap)(β':List aZ)(w':World)(h':Hp)(sz:Nat)(v:Value):Prop:=
 ∃a len cap,v= .slice a len cap/\len<=cap/\(a=none->cap=0)/\(len=cap\/∃b off x,a=some ⟨b,off,none⟩/\Row w' b x/\off+cap*sz<=x.size/\n0<=b/\¬a8 β' h' b/\
  ∀o,off+len*sz<=o->S' b o=none)
def bS(own:Option Nat)(S:ap)(β:List aZ)(h:Hp)(w:World)(r:R AV)(en:Ending)(w':World):Prop:=
 match r with
 |.ok rv h'=>∃S' β' v,en= .returned v/\VR S' β' rv v/\Left (a8 β h) S β w S' β' w' h'/\∀sz,own=some sz->nO w.heap.size S' β' w' h' sz v
 |.pan pv h'=>∃S' β' v,en= .panicked [{ v,recovered:=false }]/\VR S' β' pv v/\Left (a8 β h) S β w S' β' w' h'
 |.fail=>False
def bD(P:Program)(own:FuncId->Option Nat)(call:FuncId->List AV->M AV):Prop:=
 ∀(f:FuncId)(args:List AV)(h:Hp)(S:ap)(β:List aZ)(w:World)(vs:List Value),call f args h≠.fail->kz S β h w->Wf S w->a7 S β w h->aP S β args vs->
  Calls P f vs.toArray w (bS (own f) S β h w (call f args h))/\(P.funcs[f]?).any (fun fn=>fn.body.isSome&&!(fn.name== "runtime.NumGoroutine"))=true
section
variable {c:Entry} {N:Nat} {U:Nat->Prop} {e:Env} {h:Hp} {a:Act} {w:World} {S:ap} {β:List aZ} {γ:Nat->Value} {lam:Nat->Option Nat} {ω:Nat->Owner}
theorem FR.hown(H:FR c N U e h a w S β γ lam ω){b:Nat}(hb:a8 β h b):∃l n,ω b= .heap l/\b<w.heap.size/\β[l]? = some (b,n)/\∀o,S b o=none:=by
 obtain⟨l,cs,n,h1,h2,h3⟩:=hb;obtain⟨b',x,k1,k2,k3,k5⟩:=H.heap.own h1 h2;rw[h3]at k1;cases k1;exact⟨l,n,k3,k2,h3,k5⟩
theorem FR.heapX(H:FR c N U e h a w S β γ lam ω):a7 S β w h:=⟨H.hlen,ω,H.heap⟩
open Classical in
theorem FR.left(H:FR c N U e h a w S β γ lam ω){S':ap}{β':List aZ}{w':World}{h':Hp}(L:Left (a8 β h) S β w S' β' w' h'):
  ∃ω',FR c N U e h' a w' S' β' γ lam ω'/\(∀b,w.heap.size<=b->¬a8 β' h' b->ω' b= .no):=by
 obtain⟨hlen,ω2,hh⟩:=L.heap;have hnb:∀b,ω b≠.no->(∀l,ω b≠.heap l)->¬a8 β h b/\¬a8 β' h' b/\b<w.heap.size:=by
  intro b hb hl;have hlt:=(H.mine b hb).2;have h1:¬a8 β h b:=fun ho=>by obtain⟨l,_,h3,_⟩:=H.hown ho;exact hl l h3
  refine⟨h1,fun ho=>?_,hlt⟩;rcases L.owned b ho with h2|h2
  ·exact h1 h2
  ·omega
 let ω':Nat->Owner:=fun b=>if a8 β' h' b then ω2 b else match ω b with|.heap _=>.no|o=>o
 have hω':∀b,ω b≠.no->(∀l,ω b≠.heap l)->ω' b=ω b:=by
  intro b hb hl;obtain⟨_,h2,_⟩:=hnb b hb hl;show (if a8 β' h' b then ω2 b else _)=_;rw[if_neg h2];cases ho:ω b<;>first|rfl|exact absurd ho (hl _)
 have hrow:∀ {b x},Row w b x->ω b≠.no->(∀l,ω b≠.heap l)->Row w' b x/\∀o,S' b o=S b o:=by
  intro b x hr hb hl;obtain⟨h1,_,h3⟩:=hnb b hb hl;exact⟨hr.of_eq (L.keep b h3 h1).1,(L.keep b h3 h1).2⟩
 refine⟨ω',⟨L.wf,H.gro.trans L.gro,fun b hb hE=>?_,ap.le_trans H.le L.le,cq.trans H.ext L.ext,hlen,?_,H.tsz,?_,H.grps,?_,?_,?_,H.used⟩,?_⟩
 ·have h1:¬a8 β h b:=fun ho=>by
   obtain⟨l,_,h3,_⟩:=H.hown ho;rcases (H.mine b (by rw[h3];simp)).1.low with h|h
   ·exact hE h
   ·omega
  have h2:=L.keep b (GD hb H.size) h1;have h3:=H.keep b hb hE;exact⟨h2.1.trans h3.1,fun o=>(h2.2 o).trans (h3.2 o)⟩
 ·intro l cs hl hne;have hown:∀b n,β'[l]? = some (b,n)->ω2 b= .heap l->ω' b= .heap l:=fun b n h1 h3=>by
   show (if a8 β' h' b then ω2 b else _)=_;rw[Gg ⟨l,cs,_,hl,hne,h1⟩];exact h3
  rcases hh l cs hl hne with⟨b,x,h1,h2,h3,h4⟩|⟨b,h1,h3,h4⟩
  ·exact .inl ⟨b,x,h1,h2,hown b _ h1 h3,h4⟩
  ·exact .inr ⟨b,h1,hown b _ h1 h3,h4⟩
 ·intro t ht
  have:=H.slots t ht
  cases hv:(e.get t).v with
  |val av=>rw[hv]at this;exact VR.mono L.le L.ext _ _ this
  |loc B off=>rw[hv]at this;exact this
 ·intro B n hB;obtain⟨k1,k2,k3,b,x,k4,k5,k6,k7,k8⟩:=H.lblk B n hB;have hr:=hrow k5 (by rw[k6];simp) (by rw[k6];simp);refine⟨k1,k2,k3,b,x,k4,hr.1,by rw[hω' b (by rw[k6];simp) (by rw[k6];simp)];exact k6,fun o=>by rw[hr.2];exact k7 o,fun i hi=>?_⟩;obtain⟨v,a',g1,g2,g3,g4⟩:=k8 i hi;exact⟨v,a',g1,g2,VR.mono L.le L.ext _ _ g3,g4⟩
 ·intro g z hg;obtain⟨a',len,cap,g1,g2,g3,g4⟩:=H.free g z hg;refine⟨a',len,cap,g1,g2,g3,g4.imp id ?_⟩;rintro⟨sz,b,off,x,k1,k2,k3,k4,k5,k6⟩;have hr:=hrow k3 (by rw[k5];simp) (by rw[k5];simp);exact⟨sz,b,off,x,k1,k2,hr.1,k4,by rw[hω' b (by rw[k5];simp) (by rw[k5];simp)];exact k5,fun o ho=>by rw[hr.2];exact k6 o ho⟩
 ·intro b hb;by_cases ho:a8 β' h' b
  ·have hlt:b<w'.heap.size/\∃l,ω2 b= .heap l:=by
    obtain⟨l,cs,n,h1,h2,h3⟩:=ho;obtain⟨b',x,k1,k2,k3,_⟩:=hh.own h1 h2;rw[h3]at k1;cases k1;exact⟨k2,l,k3⟩
   obtain⟨hlt,l2,hl2⟩:=hlt;refine⟨?_,hlt⟩;rcases L.owned b ho with h1|h1
   ·obtain⟨l,_,h3,_⟩:=H.hown h1;refine (H.mine b (by rw[h3];simp)).1.of_not fun g=>?_;show (if a8 β' h' b then ω2 b else _)≠_;rw[Gg ho,hl2];simp
   ·exact .inr (G5 H.size h1)
  ·have hb':(match ω b with|.heap _=>.no|o=>o)≠Owner.no:=by
    have:ω' b=(match ω b with|.heap _=>.no|o=>o):=by
     show (if a8 β' h' b then ω2 b else _)=_;rw[if_neg ho]
    rw[<- this];exact hb
   have:ω b≠.no:=by
    intro hn;rw[hn]at hb';exact hb' rfl
   exact⟨(H.mine b this).1.of_eq (hω' b this fun l hl=>by rw[hl]at hb';exact hb' rfl),GD (H.mine b this).2 L.size⟩
 ·intro b hb hn;show (if a8 β' h' b then ω2 b else _)=_;rw[if_neg hn];cases ho:ω b with
  |no=>rfl
  |heap l=>rfl
  |loc B=>have:=(H.mine b (by rw[ho];simp)).2;omega
  |grp g=>have:=(H.mine b (by rw[ho];simp)).2;omega
end
theorem FR.gok{c:Entry}{N:Nat}{U:Nat->Prop}{e:Env}{h:Hp}{a:Act}{w:World}{S:ap}{β:List aZ}{γ:Nat->Value}{lam:Nat->Option Nat}{ω:Nat->Owner}(H:FR c N U e h a w S β γ lam ω):kz S β h w:=
 ⟨H.gokw,fun b hb ho=>by
  obtain⟨l,_,h3,_⟩:=H.hown ho;rcases (H.mine b (by rw[h3];simp)).1.low with h|h
  ·exact c.gok.2.1 b hb h
  ·have:=c.gok.1.lt;omega,c.gok.2.2.mono H.le⟩
def Out(c:Entry)(h':Hp)(w':World)(S':ap)(β':List aZ):Prop:=Left c.E c.S c.β c.w S' β' w' h'
theorem FR.out{c:Entry}{N:Nat}{U:Nat->Prop}{e:Env}{h:Hp}{a:Act}{w:World}{S:ap}{β:List aZ}{γ:Nat->Value}{lam:Nat->Option Nat}{ω:Nat->Owner}(H:FR c N U e h a w S β γ lam ω):Out c h w S β:=
 ⟨H.le,H.ext,H.wf,H.gro,H.keep,H.heapX,fun b hb=>by
  obtain⟨l,_,h3,_⟩:=H.hown hb;exact (H.mine b (by rw[h3];simp)).1.low⟩
def dj(c:Entry)(N:Nat)(U:Nat->Prop)(e:Env)(h:Hp)(a:Act)(w:World):Prop:=∃S β γ lam ω,FR c N U e h a w S β γ lam ω
def UG(U:Nat->Prop)(gid:Nat):Nat->Prop:=fun g=>U g\/(gid<=g/\g<gid+1000)
theorem FR.wider{c:Entry}{N:Nat}{U V:Nat->Prop}{e:Env}{h:Hp}{a:Act}{w:World}{S:ap}{β:List aZ}{γ:Nat->Value}{lam:Nat->Option Nat}{ω:Nat->Owner}(H:FR c N U e h a w S β γ lam ω)(hUV:∀g,U g->V g):FR c N V e h a w S β γ lam ω:=
 ⟨H.wf,H.gro,H.keep,H.le,H.ext,H.hlen,H.heap,H.tsz,H.slots,H.grps,H.lblk,H.free,H.mine,⟨fun t g hg=>hUV g (H.used.1 t g hg),fun g z hg=>hUV g (H.used.2 g z hg)⟩⟩
theorem dj.wider{c:Entry}{N:Nat}{U V:Nat->Prop}{e:Env}{h:Hp}{a:Act}{w:World}(H:dj c N U e h a w)(hUV:∀g,U g->V g):dj c N V e h a w:=
 let ⟨S,β,γ,lam,ω,F⟩:=H;⟨S,β,γ,lam,ω,F.wider hUV⟩
def ir(c:Entry)(pv:AV)(h':Hp)(v:Value)(w':World):Prop:=∃S' β',Out c h' w' S' β'/\VR S' β' pv v
def After(P:Program)(c:Entry)(N:Nat)(U:Nat->Prop)(r:R Env)(o:Oper)(a:Act)(w:World):Prop:=
 ∀(next:Act->World->Prop)(Q:Exit->Act->World->Prop),(∀e' h' a' w',r= .ok e' h'->dj c N U e' h' a' w'->a'.defers=a.defers->next a' w')->
  (∀pv h' v w',r= .pan pv h'->ir c pv h' v w'->Q (.panic [{ v,recovered:=false }]) a w')->o.wp P a w next Q
omit [Dr]in
theorem put_defers(a:Act)(d:Option Tmp)(v:Value):(a.put d v).defers=a.defers:=by cases d<;>rfl
theorem After.val{P:Program}{c:Entry}{N:Nat}{U:Nat->Prop}{e':Env}{h':Hp}{o:Oper}{a:Act}{w w':World}{v:Value}(hrun:(execOp a.eval o).run P w= .ok (.value v) w')(H:dj c N U e' h' (a.put o.dst v) w'):After P c N U (.ok e' h') o a w:=by
 intro next Q hn _
 unfold Oper.wp;rw[hrun];exact hn e' h' _ _ rfl H (put_defers a o.dst v)
theorem After.skip{P:Program}{c:Entry}{N:Nat}{U:Nat->Prop}{e':Env}{h':Hp}{o:Oper}{a:Act}{w w':World}(hd:o.dst=none)(hrun:(execOp a.eval o).run P w= .ok .skip w')(H:dj c N U e' h' a w'):After P c N U (.ok e' h') o a w:=by
 intro next Q hn _
 unfold Oper.wp;rw[hrun];have:a.put o.dst undef=a:=by rw[hd];rfl
 simp only[Oper.upon];rw[this];exact hn e' h' _ _ rfl H rfl
end Go.Av
